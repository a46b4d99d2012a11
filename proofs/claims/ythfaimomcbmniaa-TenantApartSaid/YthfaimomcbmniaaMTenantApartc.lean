/- Parts of the proof of TenantApart: what its functions answer. -/
import Derived.Test.YthfaimomcbmniaaMTenantAparta
import Derived.Test.YthfaimomcbmniaaMTenantApartb
import Derived.WalkLawsBesides
section
namespace Go.Proofs.Ythfaimomcbmniaa.Z
open Go.RowKit Go.Proofs.YthfaimomcbmniaaW.PrintWords Go.Proofs.YthfaimomcbmniaaW.PrintLast Go.Proofs.YthfaimomcbmniaaW.PrintMore
attribute [local go_sem] max2_int min2_int max_two min_two max_three min_three max_four min_four
set_option linter.unusedVariables false
set_option linter.unusedSimpArgs false
mutual
def verdererref07_Name.j0 : Nat → ByteArray → Bool → Option (Bool)
  | 0,_,_ => none
  | k + 1,x0,x13 => if x13 = true then (some false) else (verdererref07_Name.l0 k x0 0)
def verdererref07_Name.l0 : Nat → ByteArray → Int → Option (Bool)
  | 0,_,_ => none
  | k + 1,x0,x3 => if x3 < (x0.size : Int) then (if 0 ≤ x3 then (if (bt x0 x3) ≥ 97 then (if ((bt x0 x3) ≤ 122) then (verdererref07_Name.l0 k x0 (wrap64 (x3 + 1))) else (if x3 = 0 then (some false) else (if (bt x0 x3) = 95 then (verdererref07_Name.l0 k x0 (wrap64 (x3 + 1))) else (if (bt x0 x3) < 48 then (some false) else (if (bt x0 x3) > 57 then (some false) else (verdererref07_Name.l0 k x0 (wrap64 (x3 + 1)))))))) else (if x3 = 0 then (some false) else (if (bt x0 x3) = 95 then (verdererref07_Name.l0 k x0 (wrap64 (x3 + 1))) else (if (bt x0 x3) < 48 then (some false) else (if (bt x0 x3) > 57 then (some false) else (verdererref07_Name.l0 k x0 (wrap64 (x3 + 1)))))))) else (none)) else (some true)
end
def verdererref07_Name.f (k : Nat) (a0 : ByteArray) : Option (Bool) := if (a0.size : Int) < 1 then (verdererref07_Name.j0 k a0 true) else (verdererref07_Name.j0 k a0 (decide ((a0.size : Int) > 16)))
theorem verdererref07_Name.mono_l : ∀ k,(∀ y0 y1,LeO (verdererref07_Name.j0 k y0 y1) (verdererref07_Name.j0 (k + 1) y0 y1)) ∧ (∀ y0 y1,LeO (verdererref07_Name.l0 k y0 y1) (verdererref07_Name.l0 (k + 1) y0 y1))
  | 0 => ⟨fun _ _ r h => by simp [verdererref07_Name.j0] at h,fun _ _ r h => by simp [verdererref07_Name.l0] at h⟩
  | k + 1 => by
    obtain ⟨ih0,ih1⟩ := verdererref07_Name.mono_l k
    refine ⟨?_,?_⟩
    · intro y0 y1
      unfold verdererref07_Name.j0
      repeat' first
      | (with_reducible exact ih0 _ _)
      | (with_reducible exact ih1 _ _)
      | (with_reducible exact LeO.refl _)
      | (with_reducible exact LeO.none _)
      | (with_reducible refine LeO.ite ?_ ?_)
      | (with_reducible refine LeO.bind ?_ (fun _ => ?_))
      | exact ih0 _ _
      | exact ih1 _ _
      | exact LeO.none _
      | refine LeO.ite ?_ ?_
      | refine LeO.bind ?_ (fun _ => ?_)
    · intro y0 y1
      unfold verdererref07_Name.l0
      repeat' first
      | (with_reducible exact ih0 _ _)
      | (with_reducible exact ih1 _ _)
      | (with_reducible exact LeO.refl _)
      | (with_reducible exact LeO.none _)
      | (with_reducible refine LeO.ite ?_ ?_)
      | (with_reducible refine LeO.bind ?_ (fun _ => ?_))
      | exact ih0 _ _
      | exact ih1 _ _
      | exact LeO.none _
      | refine LeO.ite ?_ ?_
      | refine LeO.bind ?_ (fun _ => ?_)
theorem verdererref07_Name.mono : ∀ a0 k,LeO (verdererref07_Name.f k a0) (verdererref07_Name.f (k + 1) a0) := by
  intro a0 k
  obtain ⟨ih0,ih1⟩ := verdererref07_Name.mono_l k
  unfold verdererref07_Name.f
  repeat' first
      | (with_reducible exact ih0 _ _)
      | (with_reducible exact ih1 _ _)
      | (with_reducible exact LeO.refl _)
      | (with_reducible exact LeO.none _)
      | (with_reducible refine LeO.ite ?_ ?_)
      | (with_reducible refine LeO.bind ?_ (fun _ => ?_))
      | exact ih0 _ _
      | exact ih1 _ _
      | exact LeO.none _
      | refine LeO.ite ?_ ?_
      | refine LeO.bind ?_ (fun _ => ?_)
set_option maxHeartbeats 8000000 in
set_option maxRecDepth 100000 in
theorem verdererref07_Name.calls (k : Nat) (a0 : ByteArray) (r : Bool) (w : World) (h : verdererref07_Name.f k a0 = some r) :
    Calls Try.prog 130 #[.string a0] w fun e w' => e = .returned (.bool r) ∧ Drawn0 w w' := by
  have H : (if (a0.size : Int) < 1 then (verdererref07_Name.j0 k a0 true) else (verdererref07_Name.j0 k a0 (decide ((a0.size : Int) > 16)))) = some r := h
  clear h
  have HC2 := Aside0.mk H
  clear H
  go_enter Try.func130,Try.ntmps130
  go_upto_region 1 with (fail)
  go_cut [13] (fun v13 wc => ∃ (kq : Nat) (x13_1 : Bool),v13 = .bool x13_1 ∧ Aside0 (verdererref07_Name.j0 kq a0 x13_1 = some r) ∧ Aside0 (kq ≤ k) ∧ Drawn0 w wc)
  case first =>
    have H := HC2.out
    clear HC2
    by_cases c3 : (a0.size : Int) < 1
    · rw [if_pos c3] at H
      have c3b0 : decide ((a0.size : Int) < 1) = true := decide_eq_true c3
      have c3b1 : decide (a0.size < 1) = true := decide_eq_true (by omega)
      clear c3
      (first | rw [c3b0] | (simp only [i64_w,i32_w];rw [c3b0]) | skip)
      have H' := Aside0.mk H
      clear H
      go_wp2
      go_meet
      case rel => exact ⟨_,(true),(by first | rfl | (simp;done) | (simp [*];done)),H',⟨by first | omega | exact Nat.le_refl _⟩,by repeat (first | exact Drawn0.refl _ | apply Drawn0.step)⟩
    · rw [if_neg c3] at H
      have c3b0 : decide ((a0.size : Int) < 1) = false := decide_eq_false c3
      have c3b1 : decide (a0.size < 1) = false := decide_eq_false (by omega)
      clear c3
      (first | rw [c3b0] | (simp only [i64_w,i32_w];rw [c3b0]) | skip)
      have H' := Aside0.mk H
      clear H
      go_wp2
      go_meet
      case rel => exact ⟨_,(decide ((a0.size : Int) > 16)),(by first | rfl | (simp;done) | (simp [*];done)),H',⟨by first | omega | exact Nat.le_refl _⟩,by repeat (first | exact Drawn0.refl _ | apply Drawn0.step)⟩
  case rest =>
    clear HC2
    try clear c1
    try clear p2
    try clear c3
    try clear c3b0
    try clear c3b1
    obtain ⟨kq,x13_1,rfl,HA,HJ1,⟨mc1,rfl⟩⟩ := hcut
    cases kq with
    | zero => exact absurd HA.out (by simp [verdererref07_Name.j0])
    | succ kj1 =>
      have H := HA.out
      clear HA
      simp only [verdererref07_Name.j0] at H
      by_cases c4 : x13_1 = true
      · subst c4
        have H1 : (some false) = some r := by rw [if_pos rfl] at H;exact H
        clear H
        have H := H1
        clear H1
        obtain rfl := Option.some.inj H
        go_wp2
        go_ret
        exact ⟨by first | rfl | (simp;done) | (simp [*];done),by repeat (first | exact Drawn0.refl _ | apply Drawn0.step)⟩
      · replace c4 := Bool.eq_false_iff.mpr c4
        subst c4
        have H1 : (verdererref07_Name.l0 kj1 a0 0) = some r := by rw [if_neg (show ¬ (false = true) by decide)] at H;exact H
        clear H
        have H := H1
        clear H1
        have H' := Aside0.mk H
        clear H
        go_wp2
        go_loopg [3] kj1 (fun kq v3 w' => ∃ (x3_2 : Int),v3 = .int .i64 x3_2 ∧ Aside0 (verdererref07_Name.l0 kq a0 x3_2 = some r) ∧ Aside0 (kq ≤ kj1) ∧ Drawn0 w w')
        case atStart => exact ⟨(0),(by first | rfl | (simp;done) | (simp [*];done)),H',⟨Nat.le_refl _⟩,by repeat (first | exact Drawn0.refl _ | apply Drawn0.step)⟩
        case round =>
          clear H'
          try clear c1
          try clear p2
          try clear c3
          try clear c3b0
          try clear c3b1
          try clear c4
          try clear p2
          obtain ⟨x3_2,rfl,HA,HK2,⟨m2,rfl⟩⟩ := hrel
          cases gk with
          | zero => exact absurd HA.out (by simp [verdererref07_Name.l0])
          | succ k2 =>
            have H := HA.out
            clear HA
            simp only [verdererref07_Name.l0] at H
            by_cases c5 : x3_2 < (a0.size : Int)
            · rw [if_pos c5] at H
              have c5b0 : decide (x3_2 < (a0.size : Int)) = true := decide_eq_true c5
              clear c5
              by_cases c6 : 0 ≤ x3_2
              · rw [if_pos c6] at H
                have c6b0 : decide (0 ≤ x3_2) = true := decide_eq_true c6
                clear c6
                by_cases c8 : (bt a0 x3_2) ≥ 97
                · rw [if_pos c8] at H
                  have c8b0 : decide (97 ≤ (bt a0 x3_2)) = true := decide_eq_true c8
                  clear c8
                  by_cases c9 : ((bt a0 x3_2) ≤ 122)
                  · rw [if_pos c9] at H
                    have c9b0 : decide ((bt a0 x3_2) ≤ 122) = true := decide_eq_true c9
                    clear c9
                    have H' := Aside0.mk H
                    clear H
                    have p7 : 0 ≤ (x3_2 : Int) := of_decide_eq_true (by first | (with_reducible assumption) | assumption)
                    have q7 : x3_2 < (a0.size : Int) := of_decide_eq_true (by first | (with_reducible assumption) | assumption)
                    have hx7 := bt_at a0 x3_2
                    replace p7 := eq_true p7
                    replace q7 := eq_true q7
                    go_wp2
                    go_roundg k2
                    case measure => have := HJ1.out;have := HK2.out;omega
                    case rel => exact ⟨(wrap64 (x3_2 + 1)),(by first | rfl | (simp;done) | (simp [*];done)),H',⟨by have := HJ1.out;have := HK2.out;omega⟩,by repeat (first | exact Drawn0.refl _ | apply Drawn0.step)⟩
                  · rw [if_neg c9] at H
                    have c9b0 : decide ((bt a0 x3_2) ≤ 122) = false := decide_eq_false c9
                    clear c9
                    by_cases c10 : x3_2 = 0
                    · rw [if_pos c10] at H
                      have c10b0 : (x3_2 == 0) = true := beq_iff_eq.mpr c10
                      have c10b1 : (x3_2 != 0) = false := bne_eq_false_iff_eq.mpr c10
                      clear c10
                      obtain rfl := Option.some.inj H
                      have p7 : 0 ≤ (x3_2 : Int) := of_decide_eq_true (by first | (with_reducible assumption) | assumption)
                      have q7 : x3_2 < (a0.size : Int) := of_decide_eq_true (by first | (with_reducible assumption) | assumption)
                      have hx7 := bt_at a0 x3_2
                      replace p7 := eq_true p7
                      replace q7 := eq_true q7
                      go_wp2
                      go_ret
                      exact ⟨by first | rfl | (simp;done) | (simp [*];done),by repeat (first | exact Drawn0.refl _ | apply Drawn0.step)⟩
                    · rw [if_neg c10] at H
                      have c10b0 : (x3_2 == 0) = false := beq_eq_false_iff_ne.mpr c10
                      have c10b1 : (x3_2 != 0) = true := bne_iff_ne.mpr c10
                      by_cases c11 : (bt a0 x3_2) = 95
                      · rw [if_pos c11] at H
                        have c11b0 : ((bt a0 x3_2) == 95) = true := beq_iff_eq.mpr c11
                        have c11b1 : ((bt a0 x3_2) != 95) = false := bne_eq_false_iff_eq.mpr c11
                        clear c11
                        have H' := Aside0.mk H
                        clear H
                        have p7 : 0 ≤ (x3_2 : Int) := of_decide_eq_true (by first | (with_reducible assumption) | assumption)
                        have q7 : x3_2 < (a0.size : Int) := of_decide_eq_true (by first | (with_reducible assumption) | assumption)
                        have hx7 := bt_at a0 x3_2
                        replace p7 := eq_true p7
                        replace q7 := eq_true q7
                        go_wp2
                        go_roundg k2
                        case measure => have := HJ1.out;have := HK2.out;omega
                        case rel => exact ⟨(wrap64 (x3_2 + 1)),(by first | rfl | (simp;done) | (simp [*];done)),H',⟨by have := HJ1.out;have := HK2.out;omega⟩,by repeat (first | exact Drawn0.refl _ | apply Drawn0.step)⟩
                      · rw [if_neg c11] at H
                        have c11b0 : ((bt a0 x3_2) == 95) = false := beq_eq_false_iff_ne.mpr c11
                        have c11b1 : ((bt a0 x3_2) != 95) = true := bne_iff_ne.mpr c11
                        by_cases c12 : (bt a0 x3_2) < 48
                        · rw [if_pos c12] at H
                          have c12b0 : decide ((bt a0 x3_2) < 48) = true := decide_eq_true c12
                          clear c12
                          obtain rfl := Option.some.inj H
                          have p7 : 0 ≤ (x3_2 : Int) := of_decide_eq_true (by first | (with_reducible assumption) | assumption)
                          have q7 : x3_2 < (a0.size : Int) := of_decide_eq_true (by first | (with_reducible assumption) | assumption)
                          have hx7 := bt_at a0 x3_2
                          replace p7 := eq_true p7
                          replace q7 := eq_true q7
                          go_wp2
                          go_ret
                          exact ⟨by first | rfl | (simp;done) | (simp [*];done),by repeat (first | exact Drawn0.refl _ | apply Drawn0.step)⟩
                        · rw [if_neg c12] at H
                          have c12b0 : decide ((bt a0 x3_2) < 48) = false := decide_eq_false c12
                          clear c12
                          by_cases c13 : (bt a0 x3_2) > 57
                          · rw [if_pos c13] at H
                            have c13b0 : decide (57 < (bt a0 x3_2)) = true := decide_eq_true c13
                            clear c13
                            obtain rfl := Option.some.inj H
                            have p7 : 0 ≤ (x3_2 : Int) := of_decide_eq_true (by first | (with_reducible assumption) | assumption)
                            have q7 : x3_2 < (a0.size : Int) := of_decide_eq_true (by first | (with_reducible assumption) | assumption)
                            have hx7 := bt_at a0 x3_2
                            replace p7 := eq_true p7
                            replace q7 := eq_true q7
                            go_wp2
                            go_ret
                            exact ⟨by first | rfl | (simp;done) | (simp [*];done),by repeat (first | exact Drawn0.refl _ | apply Drawn0.step)⟩
                          · rw [if_neg c13] at H
                            have c13b0 : decide (57 < (bt a0 x3_2)) = false := decide_eq_false c13
                            clear c13
                            have H' := Aside0.mk H
                            clear H
                            have p7 : 0 ≤ (x3_2 : Int) := of_decide_eq_true (by first | (with_reducible assumption) | assumption)
                            have q7 : x3_2 < (a0.size : Int) := of_decide_eq_true (by first | (with_reducible assumption) | assumption)
                            have hx7 := bt_at a0 x3_2
                            replace p7 := eq_true p7
                            replace q7 := eq_true q7
                            go_wp2
                            go_roundg k2
                            case measure => have := HJ1.out;have := HK2.out;omega
                            case rel => exact ⟨(wrap64 (x3_2 + 1)),(by first | rfl | (simp;done) | (simp [*];done)),H',⟨by have := HJ1.out;have := HK2.out;omega⟩,by repeat (first | exact Drawn0.refl _ | apply Drawn0.step)⟩
                · rw [if_neg c8] at H
                  have c8b0 : decide (97 ≤ (bt a0 x3_2)) = false := decide_eq_false c8
                  clear c8
                  by_cases c14 : x3_2 = 0
                  · rw [if_pos c14] at H
                    have c14b0 : (x3_2 == 0) = true := beq_iff_eq.mpr c14
                    have c14b1 : (x3_2 != 0) = false := bne_eq_false_iff_eq.mpr c14
                    clear c14
                    obtain rfl := Option.some.inj H
                    have p7 : 0 ≤ (x3_2 : Int) := of_decide_eq_true (by first | (with_reducible assumption) | assumption)
                    have q7 : x3_2 < (a0.size : Int) := of_decide_eq_true (by first | (with_reducible assumption) | assumption)
                    have hx7 := bt_at a0 x3_2
                    replace p7 := eq_true p7
                    replace q7 := eq_true q7
                    go_wp2
                    go_ret
                    exact ⟨by first | rfl | (simp;done) | (simp [*];done),by repeat (first | exact Drawn0.refl _ | apply Drawn0.step)⟩
                  · rw [if_neg c14] at H
                    have c14b0 : (x3_2 == 0) = false := beq_eq_false_iff_ne.mpr c14
                    have c14b1 : (x3_2 != 0) = true := bne_iff_ne.mpr c14
                    by_cases c15 : (bt a0 x3_2) = 95
                    · rw [if_pos c15] at H
                      have c15b0 : ((bt a0 x3_2) == 95) = true := beq_iff_eq.mpr c15
                      have c15b1 : ((bt a0 x3_2) != 95) = false := bne_eq_false_iff_eq.mpr c15
                      clear c15
                      have H' := Aside0.mk H
                      clear H
                      have p7 : 0 ≤ (x3_2 : Int) := of_decide_eq_true (by first | (with_reducible assumption) | assumption)
                      have q7 : x3_2 < (a0.size : Int) := of_decide_eq_true (by first | (with_reducible assumption) | assumption)
                      have hx7 := bt_at a0 x3_2
                      replace p7 := eq_true p7
                      replace q7 := eq_true q7
                      go_wp2
                      go_roundg k2
                      case measure => have := HJ1.out;have := HK2.out;omega
                      case rel => exact ⟨(wrap64 (x3_2 + 1)),(by first | rfl | (simp;done) | (simp [*];done)),H',⟨by have := HJ1.out;have := HK2.out;omega⟩,by repeat (first | exact Drawn0.refl _ | apply Drawn0.step)⟩
                    · rw [if_neg c15] at H
                      have c15b0 : ((bt a0 x3_2) == 95) = false := beq_eq_false_iff_ne.mpr c15
                      have c15b1 : ((bt a0 x3_2) != 95) = true := bne_iff_ne.mpr c15
                      by_cases c16 : (bt a0 x3_2) < 48
                      · rw [if_pos c16] at H
                        have c16b0 : decide ((bt a0 x3_2) < 48) = true := decide_eq_true c16
                        clear c16
                        obtain rfl := Option.some.inj H
                        have p7 : 0 ≤ (x3_2 : Int) := of_decide_eq_true (by first | (with_reducible assumption) | assumption)
                        have q7 : x3_2 < (a0.size : Int) := of_decide_eq_true (by first | (with_reducible assumption) | assumption)
                        have hx7 := bt_at a0 x3_2
                        replace p7 := eq_true p7
                        replace q7 := eq_true q7
                        go_wp2
                        go_ret
                        exact ⟨by first | rfl | (simp;done) | (simp [*];done),by repeat (first | exact Drawn0.refl _ | apply Drawn0.step)⟩
                      · rw [if_neg c16] at H
                        have c16b0 : decide ((bt a0 x3_2) < 48) = false := decide_eq_false c16
                        clear c16
                        by_cases c17 : (bt a0 x3_2) > 57
                        · rw [if_pos c17] at H
                          have c17b0 : decide (57 < (bt a0 x3_2)) = true := decide_eq_true c17
                          clear c17
                          obtain rfl := Option.some.inj H
                          have p7 : 0 ≤ (x3_2 : Int) := of_decide_eq_true (by first | (with_reducible assumption) | assumption)
                          have q7 : x3_2 < (a0.size : Int) := of_decide_eq_true (by first | (with_reducible assumption) | assumption)
                          have hx7 := bt_at a0 x3_2
                          replace p7 := eq_true p7
                          replace q7 := eq_true q7
                          go_wp2
                          go_ret
                          exact ⟨by first | rfl | (simp;done) | (simp [*];done),by repeat (first | exact Drawn0.refl _ | apply Drawn0.step)⟩
                        · rw [if_neg c17] at H
                          have c17b0 : decide (57 < (bt a0 x3_2)) = false := decide_eq_false c17
                          clear c17
                          have H' := Aside0.mk H
                          clear H
                          have p7 : 0 ≤ (x3_2 : Int) := of_decide_eq_true (by first | (with_reducible assumption) | assumption)
                          have q7 : x3_2 < (a0.size : Int) := of_decide_eq_true (by first | (with_reducible assumption) | assumption)
                          have hx7 := bt_at a0 x3_2
                          replace p7 := eq_true p7
                          replace q7 := eq_true q7
                          go_wp2
                          go_roundg k2
                          case measure => have := HJ1.out;have := HK2.out;omega
                          case rel => exact ⟨(wrap64 (x3_2 + 1)),(by first | rfl | (simp;done) | (simp [*];done)),H',⟨by have := HJ1.out;have := HK2.out;omega⟩,by repeat (first | exact Drawn0.refl _ | apply Drawn0.step)⟩
              · rw [if_neg c6] at H
                exact absurd H (by simp)
            · rw [if_neg c5] at H
              have c5b0 : decide (x3_2 < (a0.size : Int)) = false := decide_eq_false c5
              clear c5
              obtain rfl := Option.some.inj H
              go_wp2
              go_ret
              exact ⟨by first | rfl | (simp;done) | (simp [*];done),by repeat (first | exact Drawn0.refl _ | apply Drawn0.step)⟩
end Go.Proofs.Ythfaimomcbmniaa.Z
end
section
namespace Go.Proofs.Ythfaimomcbmniaa.Z
set_option linter.unusedVariables false
set_option linter.unusedSimpArgs false
open Go.RowKit Go.Proofs.YthfaimomcbmniaaW.PrintWords Go.Proofs.YthfaimomcbmniaaW.PrintLast Go.Proofs.YthfaimomcbmniaaW.PrintMore
def letB (c : Int) : Bool := decide (97 ≤ c ∧ c ≤ 122)
def charB (c : Int) : Bool := decide ((97 ≤ c ∧ c ≤ 122) ∨ c = 95 ∨ (48 ≤ c ∧ c ≤ 57))
def restB (s : ByteArray) : Nat → Nat → Bool
  | 0,_ => true
  | d + 1,i => charB (bt s (i : Int)) && restB s d (i + 1)
theorem rest_succ (s : ByteArray) (d i : Nat) : restB s (d + 1) i = (charB (bt s (i : Int)) && restB s d (i + 1)) := rfl
def nameB (s : ByteArray) : Bool := decide (1 ≤ s.size ∧ s.size ≤ 16) && (letB (bt s 0) && restB s (s.size - 1) 1)
theorem let_char {c : Int} (h : letB c = true) : charB c = true := by
  unfold letB at h
  unfold charB
  have := of_decide_eq_true h
  exact decide_eq_true (.inl this)
theorem letter_f (c : Int) : schema_letter.f c = some (letB c) := by
  unfold schema_letter.f letB
  by_cases h : c ≥ 97
  · rw [if_pos h]
    congr 1
    by_cases h2 : c ≤ 122
    · rw [decide_eq_true h2,decide_eq_true ⟨h,h2⟩]
    · rw [decide_eq_false h2,decide_eq_false (by omega)]
  · rw [if_neg h,decide_eq_false (by omega)]
theorem name_l0 (s : ByteArray) (hs : s.size ≤ 16) : ∀ d i k,s.size - i = d → i ≤ s.size → d + 1 < k → schema_Name.l0 k s (s.size : Int) (i : Int) = some (restB s d i) := by
  intro d
  induction d with
  | zero =>
    intro i k hd hi hk
    obtain ⟨k,rfl⟩ : ∃ m,k = m + 1 := ⟨k - 1,by omega⟩
    simp only [schema_Name.l0]
    rw [if_neg (by omega)]
    rfl
  | succ d ih =>
    intro i k hd hi hk
    obtain ⟨k,rfl⟩ : ∃ m,k = m + 1 := ⟨k - 1,by omega⟩
    have hw : wrap64 ((i : Int) + 1) = ((i + 1 : Nat) : Int) := by unfold wrap64;omega
    have hn := ih (i + 1) k (by omega) (by omega) (by omega)
    simp only [schema_Name.l0]
    rw [if_pos (by omega),if_pos (by omega),if_pos (by omega),letter_f,Option.bind_some,hw,hn]
    rw [rest_succ]
    by_cases h1 : letB (bt s (i : Int)) = true
    · rw [if_pos h1,let_char h1];rfl
    · rw [if_neg h1]
      have h2 : ¬ (97 ≤ bt s (i : Int) ∧ bt s (i : Int) ≤ 122) := fun h => h1 (decide_eq_true h)
      by_cases h3 : bt s (i : Int) = 95
      · have hc : charB (bt s (i : Int)) = true := decide_eq_true (.inr (.inl h3))
        rw [hc,if_neg (by omega),if_pos (by omega),if_pos h3];rfl
      · by_cases h4 : bt s (i : Int) < 48
        · have hc : charB (bt s (i : Int)) = false := decide_eq_false (by omega)
          rw [hc,if_pos h4,if_neg h3];rfl
        · by_cases h5 : bt s (i : Int) > 57
          · have hc : charB (bt s (i : Int)) = false := decide_eq_false (by omega)
            rw [hc,if_neg h4,if_pos h5,if_neg h3];rfl
          · have hc : charB (bt s (i : Int)) = true := decide_eq_true (by omega)
            rw [hc,if_neg h4,if_neg h5];rfl
theorem name_f (s : ByteArray) (k : Nat) (hk : 40 < k) : schema_Name.f k s = some (nameB s) := by
  obtain ⟨k,rfl⟩ : ∃ m,k = m + 1 := ⟨k - 1,by omega⟩
  unfold schema_Name.f nameB
  by_cases h0 : s.toList = ([] : List UInt8)
  · have hz : s.size = 0 := by
      rw [ByteArray.toList_eq] at h0
      have := congrArg List.length h0
      simpa using this
    rw [if_pos h0,decide_eq_false (by omega)]
    simp [schema_Name.j0]
  · have hz : s.size ≠ 0 := by
      intro e
      apply h0
      rw [ByteArray.toList_eq]
      apply List.eq_nil_of_length_eq_zero
      rw [Array.length_toList]
      exact e
    rw [if_neg h0]
    by_cases h1 : (s.size : Int) > 16
    · rw [if_pos h1,decide_eq_false (by omega)]
      simp [schema_Name.j0]
    · rw [if_neg h1,if_pos (by omega),letter_f,Option.bind_some,decide_eq_true (show 1 ≤ s.size ∧ s.size ≤ 16 by omega)]
      simp only [schema_Name.j0,Bool.true_and]
      cases h2 : letB (bt s 0) with
      | false => simp
      | true =>
        rw [if_neg (by simp)]
        have h3 := name_l0 s (by omega) s.size 0 k (by omega) (by omega) (by omega)
        rw [show ((0 : Nat) : Int) = 0 from rfl] at h3
        rw [h3]
        obtain ⟨m,hm⟩ : ∃ m,s.size = m + 1 := ⟨s.size - 1,by omega⟩
        rw [hm]
        show some (charB (bt s ((0 : Nat) : Int)) && restB s m (0 + 1)) = some (true && restB s m 1)
        rw [show ((0 : Nat) : Int) = 0 from rfl,let_char h2]
theorem ref_name_l0 (s : ByteArray) (hs : s.size ≤ 16) : ∀ d i k,s.size - i = d → 1 ≤ i → i ≤ s.size → d + 1 < k → verdererref07_Name.l0 k s (i : Int) = some (restB s d i) := by
  intro d
  induction d with
  | zero =>
    intro i k hd h1 hi hk
    obtain ⟨k,rfl⟩ : ∃ m,k = m + 1 := ⟨k - 1,by omega⟩
    simp only [verdererref07_Name.l0]
    rw [if_neg (by omega)]
    rfl
  | succ d ih =>
    intro i k hd h1i hi hk
    obtain ⟨k,rfl⟩ : ∃ m,k = m + 1 := ⟨k - 1,by omega⟩
    have hw : wrap64 ((i : Int) + 1) = ((i + 1 : Nat) : Int) := by unfold wrap64;omega
    have hn := ih (i + 1) k (by omega) (by omega) (by omega) (by omega)
    simp only [verdererref07_Name.l0]
    rw [if_pos (by omega),if_pos (by omega),hw,hn]
    rw [rest_succ]
    have i0 : ¬ ((i : Int) = 0) := by omega
    generalize bt s (i : Int) = c
    by_cases h1 : c ≥ 97
    · rw [if_pos h1]
      by_cases h2 : c ≤ 122
      · have hc : charB c = true := decide_eq_true (by omega)
        rw [if_pos h2,hc];rfl
      · have hc : charB c = false := decide_eq_false (by omega)
        rw [if_neg h2,if_neg i0,if_neg (by omega),if_neg (by omega),if_pos (by omega),hc];rfl
    · rw [if_neg h1,if_neg i0]
      by_cases h3 : c = 95
      · have hc : charB c = true := decide_eq_true (by omega)
        rw [if_pos h3,hc];rfl
      · rw [if_neg h3]
        by_cases h4 : c < 48
        · have hc : charB c = false := decide_eq_false (by omega)
          rw [if_pos h4,hc];rfl
        · rw [if_neg h4]
          by_cases h5 : c > 57
          · have hc : charB c = false := decide_eq_false (by omega)
            rw [if_pos h5,hc];rfl
          · have hc : charB c = true := decide_eq_true (by omega)
            rw [if_neg h5,hc];rfl
theorem ref_name_f (s : ByteArray) (k : Nat) (hk : 40 < k) : verdererref07_Name.f k s = some (nameB s) := by
  obtain ⟨k,rfl⟩ : ∃ m,k = m + 2 := ⟨k - 2,by omega⟩
  unfold verdererref07_Name.f nameB
  by_cases h0 : (s.size : Int) < 1
  · rw [if_pos h0,decide_eq_false (by omega)]
    simp [verdererref07_Name.j0]
  · rw [if_neg h0]
    by_cases h1 : (s.size : Int) > 16
    · rw [decide_eq_true h1,decide_eq_false (by omega)]
      simp [verdererref07_Name.j0]
    · rw [decide_eq_false h1,decide_eq_true (show 1 ≤ s.size ∧ s.size ≤ 16 by omega)]
      simp only [verdererref07_Name.j0,Bool.true_and,Bool.false_eq_true,if_false]
      have h3 := ref_name_l0 s (by omega) (s.size - 1) 1 k (by omega) (by omega) (by omega) (by omega)
      simp only [verdererref07_Name.l0]
      rw [if_pos (by omega),if_pos (by omega),show wrap64 (0 + 1) = ((1 : Nat) : Int) from by unfold wrap64;decide,h3]
      unfold letB
      by_cases h4 : bt s 0 ≥ 97
      · rw [if_pos h4]
        by_cases h5 : bt s 0 ≤ 122
        · rw [if_pos h5,decide_eq_true (show 97 ≤ bt s 0 ∧ bt s 0 ≤ 122 from ⟨h4,h5⟩)];rfl
        · rw [if_neg h5,if_pos trivial,decide_eq_false (by omega)];rfl
      · rw [if_neg h4,if_pos trivial,decide_eq_false (by omega)];rfl
theorem name_size {s : ByteArray} (h : nameB s = true) : 1 ≤ s.size ∧ s.size ≤ 16 := by
  unfold nameB at h
  rw [Bool.and_eq_true] at h
  exact of_decide_eq_true h.1
end Go.Proofs.Ythfaimomcbmniaa.Z
end
section
namespace Go.Proofs.Ythfaimomcbmniaa.Z
set_option linter.unusedVariables false
set_option linter.unusedSimpArgs false
open Go.RowKit
inductive Ch (L : List Tn) : Nm → List Nm → Prop
  | stop {n : Nm} : getT L n = none → Ch L n []
  | go {n p : Nm} {l : List Nm} : getT L n = some p → Ch L p l → Ch L n (n :: l)
theorem Ch.up {L : List Tn} {n : Nm} {l : List Nm} (h : Ch L n l) : ∀ k,l.length < k → upL L k n = l := by
  induction h with
  | stop h =>
    intro k hk
    obtain ⟨k,rfl⟩ : ∃ m,k = m + 1 := ⟨k - 1,by simp at hk;omega⟩
    show (match getT L _ with | none => [] | some p => _ :: upL L k p) = []
    rw [h]
  | go h _ ih =>
    intro k hk
    obtain ⟨k,rfl⟩ : ∃ m,k = m + 1 := ⟨k - 1,by simp at hk;omega⟩
    show (match getT L _ with | none => [] | some p => _ :: upL L k p) = _
    rw [h]
    show _ :: upL L k _ = _
    rw [ih k (by simpa using hk)]
theorem Ch.uniq {L : List Tn} {n : Nm} {l : List Nm} (h : Ch L n l) : ∀ {m},Ch L n m → l = m := by
  induction h with
  | stop h =>
    intro m hm
    cases hm with
    | stop _ => rfl
    | go h2 _ => rw [h] at h2;cases h2
  | go h _ ih =>
    intro m hm
    cases hm with
    | stop h2 => rw [h] at h2;cases h2
    | go h2 h3 =>
      rw [h] at h2
      injection h2 with h2
      subst h2
      rw [ih h3]
theorem ch_of_up {L : List Tn} : ∀ k n,(upL L k n).length < k → Ch L n (upL L k n)
  | 0,n,h => absurd h (Nat.not_lt_zero _)
  | k + 1,n,h => by
    cases hg : getT L n with
    | none =>
      have e : upL L (k + 1) n = [] := by
        show (match getT L n with | none => [] | some p => n :: upL L k p) = []
        rw [hg]
      rw [e]
      exact .stop hg
    | some p =>
      have e : upL L (k + 1) n = n :: upL L k p := by
        show (match getT L n with | none => [] | some p => n :: upL L k p) = _
        rw [hg]
      rw [e] at h ⊢
      exact .go hg (ch_of_up k p (by simpa using h))
theorem Shallow.ch {L : List Tn} (h : Shallow L) (n : Nm) : Ch L n (abv L n) := ch_of_up 6 n (by have := h n;omega)
theorem shallow_of {L : List Tn} (h : ∀ n,∃ l,Ch L n l ∧ l.length ≤ 5) : Shallow L := fun n => by
  obtain ⟨l,h1,h2⟩ := h n
  rw [h1.up 6 (by omega)]
  exact h2
structure Ok (L : List Tn) : Prop where
  sh : Shallow L
  nm : ∀ p ∈ L,nameB p.1 = true
  pr : ∀ p ∈ L,p.2 = emp ∨ getT L p.2 ≠ none
  len : L.length ≤ 24
theorem name_emp : nameB emp = false := by
  unfold nameB
  rw [decide_eq_false (by show ¬ (1 ≤ 0 ∧ 0 ≤ 16);omega)]
  rfl
theorem Ok.key {L : List Tn} (h : Ok L) {n p : Nm} (hg : getT L n = some p) : nameB n = true := h.nm _ (getT_mem L n p hg)
theorem Ok.psize {L : List Tn} (h : Ok L) : ∀ p ∈ L,p.2.size ≤ maxLen := by
  intro p hp
  rcases h.pr p hp with e | e
  · rw [e];exact Nat.zero_le _
  · cases hg : getT L p.2 with
    | none => exact absurd hg e
    | some q =>
      have := (name_size (h.key hg)).2
      unfold maxLen
      omega
theorem Ok.nil : Ok [] := ⟨fun n => by show (match getT [] n with | none => [] | some p => n :: upL [] 5 p).length ≤ 5;exact Nat.zero_le _,by simp,by simp,by simp⟩
theorem Ch.stay {L L' : List Tn} {n : Nm} (hne : ∀ m,m ≠ n → getT L' m = getT L m) {x : Nm} {l : List Nm} (h : Ch L x l) : n ∉ l → (x = n → l ≠ []) → (∀ m ∈ l,∀ q,getT L m = some q → q = n → getT L n ≠ none) → Ch L' x l := by
  induction h with
  | stop h =>
    intro _ h2 _
    refine .stop ?_
    rw [hne _ (fun e => h2 e rfl)]
    exact h
  | @go m p l h hc ih =>
    intro h1 _ h3
    have hm : m ≠ n := fun e => h1 (by rw [e];exact List.mem_cons_self)
    refine .go (by rw [hne m hm];exact h) (ih (fun h4 => h1 (List.mem_cons_of_mem _ h4)) (fun e hl => ?_) (fun a ha => h3 a (List.mem_cons_of_mem _ ha)))
    subst hl
    cases hc with
    | stop h5 => exact h3 m List.mem_cons_self p h e (by rw [← e];exact h5)
def insL (x : Tn) : List Tn → List Tn
  | [] => [x]
  | y :: r => if (lk x.1).before (lk y.1) then x :: y :: r else y :: insL x r
def delL (n : Nm) (L : List Tn) : List Tn := L.filter fun q => !decide (q.1 = n)
def putL (n p : Nm) (L : List Tn) : List Tn := insL (n,p) (delL n L)
theorem ins_map (x : Tn) : ∀ L : List Tn,(insL x L).map (fun p => (lk p.1,(DataW.lit (lk p.2) : DataW Unit))) = DataW.insert (lk x.1,.lit (lk x.2)) (L.map fun p => (lk p.1,(DataW.lit (lk p.2) : DataW Unit)))
  | [] => rfl
  | y :: r => by
    unfold insL
    show _ = if (lk x.1).before (lk y.1) then _ else _
    by_cases h : (lk x.1).before (lk y.1) = true
    · rw [if_pos h,if_pos h];rfl
    · rw [if_neg h,if_neg h,List.map_cons,ins_map x r]
theorem del_map (n : Nm) (L : List Tn) : (delL n L).map (fun p => (lk p.1,(DataW.lit (lk p.2) : DataW Unit))) = (L.map fun p => (lk p.1,(DataW.lit (lk p.2) : DataW Unit))).filter (fun p => !p.1.sameKey (lk n)) := by
  unfold delL
  induction L with
  | nil => rfl
  | cons q r ih =>
    have e := same_lk q.1 n
    simp only [List.filter_cons,List.map_cons,e]
    cases decide (q.1 = n) with
    | true => simpa using ih
    | false => simpa using ih
theorem mapD_del (n : Nm) (L : List Tn) : mapD (delL n L) = (mapD L).del (lk n) := by
  unfold mapD
  show _ = DataW.map _
  rw [del_map]
theorem mapD_put (n p : Nm) (L : List Tn) : mapD (putL n p L) = (mapD L).put (lk n) (.lit (lk p)) := by
  unfold mapD putL
  show _ = DataW.map _
  rw [ins_map,del_map]
theorem mem_ins (x q : Tn) : ∀ L : List Tn,q ∈ insL x L ↔ q = x ∨ q ∈ L
  | [] => by simp [insL]
  | y :: r => by
    unfold insL
    split
    · simp
    · rw [List.mem_cons,mem_ins x q r,List.mem_cons]
      constructor
      · rintro (h | h | h)
        · exact .inr (.inl h)
        · exact .inl h
        · exact .inr (.inr h)
      · rintro (h | h | h)
        · exact .inr (.inl h)
        · exact .inl h
        · exact .inr (.inr h)
theorem mem_del (n : Nm) (q : Tn) (L : List Tn) : q ∈ delL n L ↔ q ∈ L ∧ q.1 ≠ n := by
  unfold delL
  rw [List.mem_filter]
  simp
theorem mem_put (n p : Nm) (q : Tn) (L : List Tn) : q ∈ putL n p L ↔ q = (n,p) ∨ (q ∈ L ∧ q.1 ≠ n) := by
  unfold putL
  rw [mem_ins,mem_del]
theorem getT_del (n m : Nm) : ∀ L : List Tn,getT (delL n L) m = if m = n then none else getT L m
  | [] => by unfold delL;simp [getT]
  | q :: r => by
    have ih := getT_del n m r
    unfold delL at ih ⊢
    rw [List.filter_cons]
    by_cases h : q.1 = n
    · rw [decide_eq_true h,if_neg (by simp),ih,getT_cons]
      by_cases h2 : m = n
      · rw [if_pos h2,if_pos h2]
      · rw [if_neg h2,if_neg h2,if_neg (fun e => h2 (by rw [← e,h]))]
    · rw [decide_eq_false h,if_pos (by rfl),getT_cons,ih,getT_cons]
      by_cases h2 : m = n
      · rw [if_pos h2,if_pos h2,if_neg (fun e => h (by rw [e,h2]))]
      · rw [if_neg h2,if_neg h2]
theorem getT_ins (n p m : Nm) : ∀ L : List Tn,(∀ q ∈ L,q.1 ≠ n) → getT (insL (n,p) L) m = if m = n then some p else getT L m
  | [],_ => by
    unfold insL
    rw [getT_cons]
    by_cases h : m = n
    · rw [if_pos h,if_pos h.symm]
    · rw [if_neg h,if_neg (fun e => h e.symm)]
  | y :: r,hy => by
    have ih := getT_ins n p m r (fun q hq => hy q (List.mem_cons_of_mem _ hq))
    have hy0 := hy y List.mem_cons_self
    unfold insL
    split
    · rw [getT_cons]
      by_cases h : m = n
      · rw [if_pos h,if_pos h.symm]
      · rw [if_neg h,if_neg (fun e => h e.symm)]
    · rw [getT_cons,ih,getT_cons]
      by_cases h : m = n
      · rw [if_pos h,if_pos h,if_neg (fun e => hy0 (by rw [e,h]))]
      · rw [if_neg h,if_neg h]
theorem getT_put (n p m : Nm) (L : List Tn) : getT (putL n p L) m = if m = n then some p else getT L m := by
  unfold putL
  rw [getT_ins n p m _ (fun q hq => ((mem_del n q L).1 hq).2),getT_del]
  by_cases h : m = n
  · rw [if_pos h,if_pos h]
  · rw [if_neg h,if_neg h,if_neg h]
theorem ins_len (x : Tn) : ∀ L : List Tn,(insL x L).length = L.length + 1
  | [] => rfl
  | y :: r => by
    unfold insL
    split
    · rfl
    · rw [List.length_cons,ins_len x r,List.length_cons]
theorem del_none {n : Nm} : ∀ {L : List Tn},getT L n = none → delL n L = L := by
  intro L h
  unfold delL
  rw [List.filter_eq_self]
  intro q hq
  rw [decide_eq_false ((getT_none L n).1 h q hq)]
  rfl
theorem put_len_new {n p : Nm} {L : List Tn} (h : getT L n = none) : (putL n p L).length = L.length + 1 := by
  unfold putL
  rw [ins_len,del_none h]
theorem del_len {n : Nm} : ∀ {L : List Tn},(L.map Prod.fst).Nodup → getT L n ≠ none → (delL n L).length + 1 = L.length
  | [],_,h => absurd rfl h
  | q :: r,hn,h => by
    rw [List.map_cons,List.nodup_cons] at hn
    unfold delL
    rw [List.filter_cons]
    by_cases e : q.1 = n
    · rw [decide_eq_true e,if_neg (by simp)]
      have h1 : getT r n = none := (getT_none r n).2 (fun p hp he => hn.1 (List.mem_map.2 ⟨p,hp,by rw [he,e]⟩))
      have h2 := del_none h1
      unfold delL at h2
      rw [h2,List.length_cons]
    · rw [decide_eq_false e,if_pos (by rfl),List.length_cons,List.length_cons]
      rw [getT_cons,if_neg e] at h
      have := del_len hn.2 h
      unfold delL at this
      omega
theorem put_len_old {n p : Nm} {L : List Tn} (hn : (L.map Prod.fst).Nodup) (h : getT L n ≠ none) : (putL n p L).length = L.length := by
  unfold putL
  rw [ins_len]
  exact del_len hn h
theorem Ok.add {L : List Tn} (h : Ok L) {n p : Nm} (hn : nameB n = true) (hg : getT L n = none) (hp : p = emp ∨ getT L p ≠ none) (hd : (abv L p).length < 5) (hl : L.length < 24) : Ok (putL n p L) := by
  have hsame : ∀ m,m ≠ n → getT (putL n p L) m = getT L m := fun m hm => by rw [getT_put,if_neg hm]
  have hpar : ∀ m q,getT L m = some q → q ≠ n := fun m q hmq e => by
    rcases h.pr _ (getT_mem L m q hmq) with h1 | h1
    · have h1 : q = emp := h1
      rw [← e,h1,name_emp] at hn;cases hn
    · exact h1 (by show getT L q = none;rw [e];exact hg)
  have hch : ∀ x,x ≠ n → Ch (putL n p L) x (abv L x) := fun x hx =>
    Ch.stay hsame (h.sh.ch x) (fun hm => by
      have : ∀ {x l},Ch L x l → ∀ m ∈ l,getT L m ≠ none := fun hc => by
        induction hc with
        | stop _ => intro m hm;cases hm
        | go h1 _ ih =>
          intro m hm
          rcases List.mem_cons.1 hm with rfl | hm
          · rw [h1];simp
          · exact ih m hm
      exact this (h.sh.ch x) n hm hg) (fun e => absurd e hx) (fun m _ q hq e => absurd e (hpar m q hq))
  have hpn : p ≠ n := fun e => by
    rcases hp with h1 | h1
    · rw [← e,h1,name_emp] at hn;cases hn
    · exact h1 (by rw [e];exact hg)
  refine ⟨shallow_of fun x => ?_,fun q hq => ?_,fun q hq => ?_,by rw [put_len_new hg];omega⟩
  · by_cases hx : x = n
    · subst hx
      exact ⟨_,.go (by rw [getT_put,if_pos rfl]) (hch p hpn),by rw [List.length_cons];omega⟩
    · exact ⟨_,hch x hx,h.sh x⟩
  · rcases (mem_put n p q L).1 hq with rfl | ⟨hq,_⟩
    · exact hn
    · exact h.nm q hq
  · rcases (mem_put n p q L).1 hq with rfl | ⟨hq,hqn⟩
    · rcases hp with h1 | h1
      · exact .inl h1
      · exact .inr (by show getT _ p ≠ none;rw [hsame p hpn];exact h1)
    · rcases h.pr q hq with h1 | h1
      · exact .inl h1
      · by_cases e : q.2 = n
        · exact .inr (by rw [e,getT_put,if_pos rfl];simp)
        · exact .inr (by rw [hsame _ e];exact h1)
end Go.Proofs.Ythfaimomcbmniaa.Z
end
section
namespace Go.Proofs.Ythfaimomcbmniaa.Z
set_option linter.unusedVariables false
set_option linter.unusedSimpArgs false
open Go.RowKit Go.Shelf Go.Maps Go.Proofs.YthfaimomcbmniaaW.PrintWords Go.Proofs.YthfaimomcbmniaaW.PrintLast Go.Proofs.YthfaimomcbmniaaW.PrintMore Go.Proofs.Ythfaimomcbmniaa.Cmp
theorem own_tight {w : World} {b n : Nat} {D : DataW Unit} (h : w.ownsMap Try.prog 9 RvS b n D) : w.ownsMap Try.prog 9 RvS b (Maps.size D) D := by
  obtain ⟨es,clock,h1,h2,h3,rfl⟩ := h
  refine ⟨es,clock,h1,h2,?_,rfl⟩
  rw [size_eq,length_sorted]
  simp
theorem TreeAt.turned {w w1 : World} {t b n : Nat} {L L' : List Tn} (h : TreeAt w t b L) (hg : w.grownBy w1 (some b)) (hm : w1.ownsMap Try.prog 9 RvS b n (mapD L')) : TreeAt w1 t b L' :=
  ⟨(hg.block t (blk_lt h.blk) (fun e => by
    injection e with e
    subst e
    obtain ⟨es,clock,h1,_⟩ := h.map
    rw [h.blk] at h1
    cases h1)).trans h.blk,by have := own_tight hm;rw [size_mapD] at this;exact this⟩
theorem grown_refl (w : World) (row : Option Nat) : w.grownBy w row := ⟨rfl,rfl,rfl,Nat.le_refl _,fun _ _ _ => rfl⟩
theorem grown_of_below {w w1 : World} (h : Below w.heap.size w w1) (row : Option Nat) : w.grownBy w1 row := ⟨h.os,h.tape,h.output,h.size,fun k hk _ => h.block k hk⟩
theorem grown_trans {a b c : World} {row : Option Nat} (h : a.grownBy b row) (k : b.grownBy c row) : a.grownBy c row :=
  ⟨k.os.trans h.os,k.tape.trans h.tape,k.output.trans h.output,Nat.le_trans h.size k.size,fun i hi hn => (k.block i (Nat.lt_of_lt_of_le hi h.size) hn).trans (h.block i hi hn)⟩
set_option maxHeartbeats 4000000 in
set_option maxRecDepth 100000 in
theorem ten_new (w : World) : Calls Try.prog 46 #[] w fun e w' => ∃ t b,e = .returned (.pointer (some ⟨t,0,none⟩)) ∧ TreeAt w' t b [] ∧ Below w.heap.size w w' ∧ w.heap.size ≤ t ∧ w.heap.size ≤ b := by
  have hmm := @run_makeMap Try.prog
  have HO := Aside0.mk (World.ownsMap_made w Try.prog 9 RvS)
  have HB := Aside0.mk (below_alloc (Below.refl w.heap.size w) (.map #[] 0))
  go_enter Try.func46,Try.ntmps46
  go_wp2
  go_ret
  refine ⟨_,w.heap.size,rfl,⟨by have := blk_new (w.alloc (.map #[] 0)) (.cells #[.map (some w.heap.size)] tT);simpa using this,?_⟩,below_alloc HB.out _,by simp,Nat.le_refl _⟩
  exact HO.out.alloc _
def orph (L : List Tn) (p : Nm) : Bool := !decide (p = emp) && (getT L p).isNone
theorem neS (x : Nm) : (ByteArray.toList x == ([] : List UInt8)) = decide (x = emp) := by
  have := eqS x emp
  rw [← this]
  congr 1
  rw [ByteArray.toList_eq]
  rfl
set_option maxHeartbeats 4000000 in
set_option maxRecDepth 100000 in
theorem ten_orphan {w : World} {n₀ : Nat} {v : Value} {L : List Tn} (h : TreeV w n₀ v L) (p : Nm) (hp : p.size ≤ maxLen) : Calls Try.prog 101 #[v,.string p] w fun e w' => e = .returned (.bool (orph L p)) ∧ w' = w := by
  have HH := Aside0.mk (ten_has h p hp)
  have HO := Aside0.mk (show orph L p = (!decide (p = emp) && (getT L p).isNone) from rfl)
  obtain ⟨q,hq⟩ : ∃ q,v = .pointer q := by rcases h.ptr with h | ⟨t,h⟩ <;> exact ⟨_,h⟩
  subst hq
  clear h
  by_cases he : p = emp
  · have q0 : (ByteArray.toList p == ([] : List UInt8)) = true := by rw [neS,decide_eq_true he]
    have HOE := Aside0.mk (show orph L p = false by rw [HO.out,decide_eq_true he];rfl)
    rw [HOE.out]
    clear he
    go_enter Try.func101,Try.ntmps101
    go_wp2_with (fail)
    go_ret
    exact ⟨rfl,rfl⟩
  · have q0 : (ByteArray.toList p == ([] : List UInt8)) = false := by rw [neS,decide_eq_false he]
    have HOE := Aside0.mk (show orph L p = !(getT L p).isSome by rw [HO.out,decide_eq_false he];cases getT L p <;> rfl)
    rw [HOE.out]
    generalize (getT L p).isSome = r at HH ⊢
    clear he
    go_enter Try.func101,Try.ntmps101
    go_wp2_with (fail)
    refine HH.out.mono ?_
    rintro e w' ⟨rfl,rfl⟩
    cases r
    · go_wp2_with (fail)
      go_ret
      exact ⟨rfl,rfl⟩
    · go_wp2_with (fail)
      go_ret
      exact ⟨rfl,rfl⟩
def addP (L : List Tn) (n p : Nm) : Int × List Tn :=
  if nameB n = false then (3,L) else if (getT L n).isSome = true then (4,L) else if orph L p = true then (18,L) else if 5 ≤ (abv L p).length then (17,L) else if 24 ≤ L.length then (6,L) else (0,putL n p L)
set_option maxHeartbeats 8000000 in
set_option maxRecDepth 100000 in
theorem ten_add {w : World} {t b : Nat} {L : List Tn} (h : TreeAt w t b L) (hO : Ok L) (n p : Nm) (hn : n.size ≤ maxLen) (hp : p.size ≤ maxLen) :
    Calls Try.prog 47 #[.pointer (some ⟨t,0,none⟩),.string n,.string p] w fun e w' => e = .returned (.int .i64 (addP L n p).1) ∧ TreeAt w' t b (addP L n p).2 ∧ w.grownBy w' (some b) := by
  have HA := Aside0.mk h
  have NM := Aside0.mk (fun w' => schema_Name.calls 41 n (nameB n) w' (name_f n 41 (by omega)))
  have HO := Aside0.mk hO
  have HP := Aside0.mk hp
  have HN := Aside0.mk hn
  have HD := Aside0.mk (show addP L n p = (if nameB n = false then (3,L) else if (getT L n).isSome = true then (4,L) else if orph L p = true then (18,L) else if 5 ≤ (abv L p).length then (17,L) else if 24 ≤ L.length then (6,L) else (0,putL n p L)) from rfl)
  clear h hO
  generalize addP L n p = R at HD ⊢
  go_enter Try.func47,Try.ntmps47
  go_wp2_with (fail)
  refine (NM.out w).mono ?_
  rintro e w1 ⟨rfl,hb1⟩
  have A1 := Aside0.mk (HA.out.below hb1.below)
  have G1 := Aside0.mk (grown_of_below hb1.below (some b))
  clear hb1 HA NM
  cases hnb : nameB n with
  | false =>
    rw [hnb,if_pos rfl] at HD
    go_wp2_with (fail)
    go_ret
    rw [HD.out]
    exact ⟨rfl,A1.out,G1.out⟩
  | true =>
    rw [hnb,if_neg (by simp)] at HD
    have NB := Aside0.mk hnb
    clear hnb
    go_wp2_with (fail)
    refine (ten_has A1.out.v n HN.out).mono ?_
    rintro e w2 ⟨rfl,rfl⟩
    cases hgn : (getT L n).isSome with
    | true =>
      rw [hgn,if_pos rfl] at HD
      go_wp2_with (fail)
      go_ret
      rw [HD.out]
      exact ⟨rfl,A1.out,G1.out⟩
    | false =>
      rw [hgn,if_neg (by simp)] at HD
      have NG := Aside0.mk hgn
      clear hgn
      go_wp2_with (fail)
      refine (ten_orphan A1.out.v p HP.out).mono ?_
      rintro e w3 ⟨rfl,rfl⟩
      cases hor : orph L p with
      | true =>
        rw [hor,if_pos rfl] at HD
        go_wp2_with (fail)
        go_ret
        rw [HD.out]
        exact ⟨rfl,A1.out,G1.out⟩
      | false =>
        rw [hor,if_neg (by simp)] at HD
        clear hor
        go_wp2_with (fail)
        refine (ten_depth A1.out.v HO.out.sh HO.out.psize p HP.out).mono ?_
        rintro e w4 ⟨rfl,hb4⟩
        have A4 := Aside0.mk (A1.out.below hb4)
        have G4 := Aside0.mk (grown_trans G1.out (grown_of_below hb4 (some b)))
        clear hb4 A1 G1
        by_cases hd : 5 ≤ (abv L p).length
        · rw [if_pos hd] at HD
          have q1 : decide (((abv L p).length : Int) ≥ 5) = true := decide_eq_true (by omega)
          have q2 : decide ((5 : Int) ≤ ((abv L p).length : Int)) = true := decide_eq_true (by omega)
          clear hd
          go_wp2_with (fail)
          go_ret
          rw [HD.out]
          exact ⟨rfl,A4.out,G4.out⟩
        · rw [if_neg hd] at HD
          have q1 : decide (((abv L p).length : Int) ≥ 5) = false := decide_eq_false (by omega)
          have q2 : decide ((5 : Int) ≤ ((abv L p).length : Int)) = false := decide_eq_false (by omega)
          have x0 : w4.cell? ⟨t,0,none⟩ = some (.map (some b)) := blk_cell A4.out.blk 0
          have HLN := Aside0.mk HO.out.len
          clear hd
          by_cases hl : 24 ≤ L.length
          · rw [if_pos hl] at HD
            have q3 : decide ((L.length : Int) ≥ 24) = true := decide_eq_true (by omega)
            have q4 : decide ((24 : Int) ≤ (L.length : Int)) = true := decide_eq_true (by omega)
            have LM := Aside0.mk (A4.out.map.len Try.underlying136 3)
            clear hl
            go_wp2_with (at_len;refine wpList_len_own w4 rfl _ tM rfl 9 9 Try.underlying136 RvS b L.length (mapD L) rfl A4.out.map ?_;rw [size_mapD])
            go_ret
            rw [HD.out]
            exact ⟨rfl,A4.out,G4.out⟩
          · rw [if_neg hl] at HD
            have q3 : decide ((L.length : Int) ≥ 24) = false := decide_eq_false (by omega)
            have q4 : decide ((24 : Int) ≤ (L.length : Int)) = false := decide_eq_false (by omega)
            clear hl
            go_wp2_with (first | (at_len;refine wpList_len_own w4 rfl _ tM rfl 9 9 Try.underlying136 RvS b L.length (mapD L) rfl A4.out.map ?_;rw [size_mapD]) | (at_mapUpdate;refine wpList_mapUpdate_own w4 rfl _ _ _ tM rfl 9 9 lawS Try.underlying136 RvS b L.length (mapD L) rfl A4.out.map (by have := HLN.out;unfold maxLen;omega) _ _ (lk n) rfl rfl (Go.WideMaps.keyOf_string_mk Try.underlying9 HN.out) (.lit (lk p)) [] (plainS p HP.out) ?_;intro w5 hown5 hg5))
            go_ret
            rw [HD.out]
            exact ⟨rfl,A4.out.turned hg5 (by rw [mapD_put];exact hown5),grown_trans G4.out hg5⟩
end Go.Proofs.Ythfaimomcbmniaa.Z
end
section
namespace Go.Proofs.Ythfaimomcbmniaa.Z
set_option linter.unusedVariables false
set_option linter.unusedSimpArgs false
open Go.RowKit Go.Shelf Go.Maps Go.Proofs.YthfaimomcbmniaaW.PrintWords Go.Proofs.YthfaimomcbmniaaW.PrintLast Go.Proofs.YthfaimomcbmniaaW.PrintMore Go.Proofs.Ythfaimomcbmniaa.Cmp
def lev (L : List Tn) (own : Int) (l : List Nm) (m : Int) : Int := l.foldl (fun m x => max m (((abv L x).length : Int) - own + 1)) m
def levL (L : List Tn) (n : Nm) : Int := lev L ((abv L n).length : Int) (undL L n) 0
theorem lev_snoc (L : List Tn) (own : Int) (l : List Nm) (x : Nm) (m : Int) : lev L own (l ++ [x]) m = max (lev L own l m) (((abv L x).length : Int) - own + 1) := by
  unfold lev
  rw [List.foldl_append]
  rfl
theorem lev_bound {L : List Tn} (hs : Shallow L) (own : Int) (h0 : 0 ≤ own) : ∀ (l : List Nm) (m : Int),0 ≤ m → m ≤ 6 → 0 ≤ lev L own l m ∧ lev L own l m ≤ 6
  | [],m,h1,h2 => ⟨h1,h2⟩
  | x :: r,m,h1,h2 => by
    have h3 := hs x
    have h4 : ((abv L x).length : Int) ≤ 5 := by unfold abv;omega
    exact lev_bound hs own h0 r (max m (((abv L x).length : Int) - own + 1)) (by omega) (by omega)
theorem und_lenL (L : List Tn) (n : Nm) : (undL L n).length ≤ L.length := by
  unfold undL
  have := List.length_filter_le (fun x => hasN (abv L x) n) (L.map Prod.fst)
  simpa using this
set_option maxHeartbeats 8000000 in
set_option maxRecDepth 100000 in
theorem ten_levels {w : World} {t b : Nat} {L : List Tn} (h : TreeAt w t b L) (hO : Ok L) (n : Nm) (hn : n.size ≤ maxLen) :
    Calls Try.prog 103 #[.pointer (some ⟨t,0,none⟩),.string n] w fun e w' => e = .returned (.int .i64 (levL L n)) ∧ Below w.heap.size w w' := by
  have HA := Aside0.mk h
  have HO := Aside0.mk hO
  have HN := Aside0.mk hn
  have HLV := Aside0.mk (show levL L n = lev L ((abv L n).length : Int) (undL L n) 0 from rfl)
  have HL5 := Aside0.mk (abv_len hO.sh n)
  clear h hO
  generalize levL L n = R at HLV ⊢
  go_enter Try.func103,Try.ntmps103
  go_wp2_with (fail)
  refine (ten_depth HA.out.v HO.out.sh HO.out.psize n HN.out).mono ?_
  rintro e w1 ⟨rfl,hb1⟩
  have A1 := Aside0.mk (HA.out.below hb1)
  have B1 := Aside0.mk (NextW.mk hb1 hb1.size)
  clear hb1
  obtain ⟨dn,hdn⟩ : ∃ dn,(abv L n).length = dn := ⟨_,rfl⟩
  rw [hdn] at HLV HL5 ⊢
  clear hdn
  go_wp2_with (fail)
  refine (ten_under A1.out HO.out.sh HO.out.psize (by have := HO.out.len;omega) n).mono ?_
  rintro e w2 ⟨v,rfl,hrow,hb2⟩
  obtain ⟨U,hU⟩ : ∃ U,undL L n = U := ⟨_,rfl⟩
  have UL := Aside0.mk (show U.length ≤ 24 by rw [← hU];have := und_lenL L n;have := HO.out.len;omega)
  have UM := Aside0.mk (show ∀ x ∈ U,x.size ≤ maxLen by
    rw [← hU]
    intro x hx
    unfold undL at hx
    obtain ⟨q,hq,rfl⟩ := List.mem_map.1 (List.mem_filter.1 hx).1
    have := (name_size (HO.out.nm q hq)).2
    unfold maxLen
    omega)
  rw [hU] at hrow HLV
  clear hU
  obtain ⟨Au,cu,rfl,_,hC⟩ := hrow.reads
  have A2 := Aside0.mk (A1.out.below hb2)
  have B2 := Aside0.mk (B1.out.next hb2)
  have HC := Aside0.mk hC
  clear hrow hb2 hC A1 B1
  go_wp2_with (fail)
  go_loopw [5,16] (fun mv iv wr => ∃ i : Nat,iv = .int .i64 (i : Int) ∧ i ≤ U.length ∧ mv = .int .i64 (lev L (dn : Int) (U.take i) 0) ∧ Aside0 (NextW w2.heap.size w2 wr)) (fun mv iv _ => U.length - (intOf iv).toNat)
  case atStart => exact ⟨0,rfl,Nat.zero_le _,rfl,⟨NextW.refl w2⟩⟩
  case round =>
    rename World => wr
    obtain ⟨i,rfl,hi,rfl,NW⟩ := hrel
    by_cases hlt : i < U.length
    · have k0 : decide ((i : Int) < (U.length : Int)) = true := decide_eq_true (by omega)
      have h24 := UL.out
      obtain ⟨ad,cs,rfl,_,hcs,hcell⟩ := Kd.C_get (Kd.C_below HC.out NW.out.below) emp (i : Int) (by omega) (by omega)
      have hx : U[i]? = some U[i] := List.getElem?_eq_getElem hlt
      have hcs2 : cs = [.string U[i]] := by
        have h1 : cs = [.string (U.getD (i : Int).toNat emp)] := hcs
        rw [Int.toNat_natCast,List.getD_eq_getElem?_getD,hx] at h1
        exact h1
      have c0 := hcell 0 (.string U[i]) (by rw [hcs2];rfl)
      have c1 : wr.cell? (ad.add i) = some (.string U[i]) := by
        rw [← c0]
        congr 2
        show i = (i : Int).toNat * 1 + 0
        omega
      have XS := Aside0.mk (UM.out _ (List.getElem_mem hlt))
      have TK := Aside0.mk (show U.take (i + 1) = U.take i ++ [U[i]] by rw [List.take_add_one,hx];rfl)
      obtain ⟨x,hxe⟩ : ∃ x,U[i] = x := ⟨_,rfl⟩
      rw [hxe] at c1 XS TK
      have p0 : (0 : Int) ≤ (i : Int) := by omega
      have p1 : (i : Int) < (U.length : Int) := by omega
      clear hcell hcs hcs2 c0 hx hxe
      have A3 := Aside0.mk (A2.out.below NW.out.below)
      obtain ⟨m0,hm0⟩ : ∃ m0,lev L (dn : Int) (U.take i) 0 = m0 := ⟨_,rfl⟩
      have HM := Aside0.mk hm0
      have hmb : 0 ≤ m0 ∧ m0 ≤ 6 := by rw [← hm0];exact lev_bound HO.out.sh _ (by omega) _ _ (by omega) (by omega)
      rw [hm0]
      clear hm0
      go_wp2_with (fail)
      refine (ten_depth A3.out.v HO.out.sh HO.out.psize x XS.out).mono ?_
      rintro e w3 ⟨rfl,hb3⟩
      have N3 := Aside0.mk (NW.out.next hb3)
      have hx5 := abv_len HO.out.sh x
      have hd5 := HL5.out
      clear hb3 A3
      obtain ⟨dx,hdx⟩ : ∃ dx,(abv L x).length = dx := ⟨_,rfl⟩
      have HDX := Aside0.mk hdx
      rw [hdx] at hx5 ⊢
      clear hdx
      have w0 : IntKind.i64.wrap ((dx : Int) - (dn : Int)) = (dx : Int) - (dn : Int) := by rw [IntKind.wrap_i64];omega
      have w1' : IntKind.i64.wrap ((dx : Int) - (dn : Int) + 1) = (dx : Int) - (dn : Int) + 1 := by rw [IntKind.wrap_i64];omega
      go_wp2_with (fail)
      exact ⟨⟨i + 1,by rw [show (((i + 1 : Nat)) : Int) = (i : Int) + 1 from by omega],hlt,by rw [TK.out,lev_snoc,HM.out,HDX.out],N3⟩,by simp [intOf];omega⟩
    · have k0 : decide ((i : Int) < (U.length : Int)) = false := decide_eq_false (by omega)
      obtain rfl : i = U.length := by omega
      rw [List.take_length] at *
      go_wp2_with (fail)
      go_ret
      exact ⟨by first | rfl | (rw [HLV.out];rfl),B2.out.below.trans (NW.out.below.mono B2.out.le)⟩
end Go.Proofs.Ythfaimomcbmniaa.Z
end
section
namespace Go.Proofs.Ythfaimomcbmniaa.Z
set_option linter.unusedVariables false
set_option linter.unusedSimpArgs false
open Go.RowKit Go.Shelf Go.Maps Go.Proofs.YthfaimomcbmniaaW.PrintWords Go.Proofs.YthfaimomcbmniaaW.PrintLast Go.Proofs.YthfaimomcbmniaaW.PrintMore Go.Proofs.Ythfaimomcbmniaa.Cmp
def moveP (L : List Tn) (n p : Nm) : Int × List Tn :=
  if (getT L n).isSome = false then (5,L) else if orph L p = true then (18,L) else if hasN (abv L p) n = true then (13,L) else if (5 : Int) < ((abv L p).length : Int) + levL L n then (17,L) else (0,putL n p L)
def dropP (L : List Tn) (n : Nm) : Int × List Tn :=
  if (getT L n).isSome = false then (5,L) else if 1 < (undL L n).length then (14,L) else (0,delL n L)
theorem levL_bound {L : List Tn} (hs : Shallow L) (n : Nm) : 0 ≤ levL L n ∧ levL L n ≤ 6 := lev_bound hs _ (by omega) _ _ (by omega) (by omega)
set_option maxHeartbeats 8000000 in
set_option maxRecDepth 100000 in
theorem ten_move {w : World} {t b : Nat} {L : List Tn} (h : TreeAt w t b L) (hO : Ok L) (n p : Nm) (hn : n.size ≤ maxLen) (hp : p.size ≤ maxLen) :
    Calls Try.prog 48 #[.pointer (some ⟨t,0,none⟩),.string n,.string p] w fun e w' => e = .returned (.int .i64 (moveP L n p).1) ∧ TreeAt w' t b (moveP L n p).2 ∧ w.grownBy w' (some b) := by
  have HA := Aside0.mk h
  have HO := Aside0.mk hO
  have HP := Aside0.mk hp
  have HN := Aside0.mk hn
  have HD := Aside0.mk (show moveP L n p = (if (getT L n).isSome = false then (5,L) else if orph L p = true then (18,L) else if hasN (abv L p) n = true then (13,L) else if (5 : Int) < ((abv L p).length : Int) + levL L n then (17,L) else (0,putL n p L)) from rfl)
  clear h hO
  generalize moveP L n p = R at HD ⊢
  go_enter Try.func48,Try.ntmps48
  go_wp2_with (fail)
  refine (ten_has HA.out.v n HN.out).mono ?_
  rintro e w1 ⟨rfl,rfl⟩
  cases hgn : (getT L n).isSome with
  | false =>
    rw [hgn,if_pos rfl] at HD
    go_wp2_with (fail)
    go_ret
    rw [HD.out]
    exact ⟨rfl,HA.out,grown_refl _ _⟩
  | true =>
    rw [hgn,if_neg (by simp)] at HD
    clear hgn
    go_wp2_with (fail)
    refine (ten_orphan HA.out.v p HP.out).mono ?_
    rintro e w2 ⟨rfl,rfl⟩
    cases hor : orph L p with
    | true =>
      rw [hor,if_pos rfl] at HD
      go_wp2_with (fail)
      go_ret
      rw [HD.out]
      exact ⟨rfl,HA.out,grown_refl _ _⟩
    | false =>
      rw [hor,if_neg (by simp)] at HD
      clear hor
      go_wp2_with (fail)
      rename World => w0
      refine (ten_below HA.out.v HO.out.sh HO.out.psize p n HP.out).mono ?_
      rintro e w3 ⟨rfl,hb3⟩
      have A3 := Aside0.mk (HA.out.below hb3)
      have G3 := Aside0.mk (grown_of_below hb3 (some b))
      clear hb3 HA
      cases hbl : hasN (abv L p) n with
      | true =>
        rw [hbl,if_pos rfl] at HD
        go_wp2_with (fail)
        go_ret
        rw [HD.out]
        exact ⟨rfl,A3.out,G3.out⟩
      | false =>
        rw [hbl,if_neg (by simp)] at HD
        clear hbl
        go_wp2_with (fail)
        refine (ten_depth A3.out.v HO.out.sh HO.out.psize p HP.out).mono ?_
        rintro e w4 ⟨rfl,hb4⟩
        have A4 := Aside0.mk (A3.out.below hb4)
        have G4 := Aside0.mk (grown_trans G3.out (grown_of_below hb4 (some b)))
        clear hb4 A3 G3
        go_wp2_with (fail)
        refine (ten_levels A4.out HO.out n HN.out).mono ?_
        rintro e w5 ⟨rfl,hb5⟩
        have A5 := Aside0.mk (A4.out.below hb5)
        have G5 := Aside0.mk (grown_trans G4.out (grown_of_below hb5 (some b)))
        clear hb5 A4 G4
        have hl5 := levL_bound HO.out.sh n
        have hd5 := abv_len HO.out.sh p
        have HLN := Aside0.mk HO.out.len
        obtain ⟨dp,hdp⟩ : ∃ dp,(abv L p).length = dp := ⟨_,rfl⟩
        obtain ⟨lv,hlv⟩ : ∃ lv,levL L n = lv := ⟨_,rfl⟩
        rw [hdp,hlv] at HD
        rw [hdp] at hd5 ⊢
        rw [hlv] at hl5 ⊢
        clear hdp hlv
        have w0' : IntKind.i64.wrap ((dp : Int) + lv) = (dp : Int) + lv := by rw [IntKind.wrap_i64];omega
        have x0 : w5.cell? ⟨t,0,none⟩ = some (.map (some b)) := blk_cell A5.out.blk 0
        by_cases hd : (5 : Int) < (dp : Int) + lv
        · rw [if_pos hd] at HD
          have q0 : decide ((5 : Int) < (dp : Int) + lv) = true := decide_eq_true hd
          clear hd
          go_wp2_with (fail)
          go_ret
          rw [HD.out]
          exact ⟨rfl,A5.out,G5.out⟩
        · rw [if_neg hd] at HD
          have q0 : decide ((5 : Int) < (dp : Int) + lv) = false := decide_eq_false hd
          clear hd
          go_wp2_with (at_mapUpdate;refine wpList_mapUpdate_own w5 rfl _ _ _ tM rfl 9 9 lawS Try.underlying136 RvS b L.length (mapD L) rfl A5.out.map (by have := HLN.out;unfold maxLen;omega) _ _ (lk n) rfl rfl (Go.WideMaps.keyOf_string_mk Try.underlying9 HN.out) (.lit (lk p)) [] (plainS p HP.out) ?_;intro w6 hown6 hg6)
          go_ret
          rw [HD.out]
          exact ⟨rfl,A5.out.turned hg6 (by rw [mapD_put];exact hown6),grown_trans G5.out hg6⟩
theorem turned_grown {w w1 : World} {b : Nat} (h : w.mapTurned w1 b) : w.grownBy w1 (some b) := h.grown
set_option maxHeartbeats 8000000 in
set_option maxRecDepth 100000 in
theorem ten_drop {w : World} {t b : Nat} {L : List Tn} (h : TreeAt w t b L) (hO : Ok L) (n : Nm) (hn : n.size ≤ maxLen) :
    Calls Try.prog 49 #[.pointer (some ⟨t,0,none⟩),.string n] w fun e w' => e = .returned (.int .i64 (dropP L n).1) ∧ TreeAt w' t b (dropP L n).2 ∧ w.grownBy w' (some b) := by
  have HA := Aside0.mk h
  have HO := Aside0.mk hO
  have HN := Aside0.mk hn
  have HD := Aside0.mk (show dropP L n = (if (getT L n).isSome = false then (5,L) else if 1 < (undL L n).length then (14,L) else (0,delL n L)) from rfl)
  clear h hO
  generalize dropP L n = R at HD ⊢
  go_enter Try.func49,Try.ntmps49
  go_wp2_with (fail)
  refine (ten_has HA.out.v n HN.out).mono ?_
  rintro e w1 ⟨rfl,rfl⟩
  cases hgn : (getT L n).isSome with
  | false =>
    rw [hgn,if_pos rfl] at HD
    go_wp2_with (fail)
    go_ret
    rw [HD.out]
    exact ⟨rfl,HA.out,grown_refl _ _⟩
  | true =>
    rw [hgn,if_neg (by simp)] at HD
    clear hgn
    go_wp2_with (fail)
    refine (ten_under HA.out HO.out.sh HO.out.psize (by have := HO.out.len;omega) n).mono ?_
    rintro e w3 ⟨v,rfl,hrow,hb3⟩
    obtain ⟨Au,cu,rfl,_,_⟩ := hrow.reads
    have A3 := Aside0.mk (HA.out.below hb3)
    have G3 := Aside0.mk (grown_of_below hb3 (some b))
    clear hb3 HA hrow
    have x0 : w3.cell? ⟨t,0,none⟩ = some (.map (some b)) := blk_cell A3.out.blk 0
    obtain ⟨du,hdu⟩ : ∃ du,(undL L n).length = du := ⟨_,rfl⟩
    rw [hdu] at HD ⊢
    clear hdu
    by_cases hd : 1 < du
    · rw [if_pos hd] at HD
      have q0 : decide ((1 : Int) < (du : Int)) = true := decide_eq_true (by omega)
      clear hd
      go_wp2_with (fail)
      go_ret
      rw [HD.out]
      exact ⟨rfl,A3.out,G3.out⟩
    · rw [if_neg hd] at HD
      have q0 : decide ((1 : Int) < (du : Int)) = false := decide_eq_false (by omega)
      clear hd
      go_wp2_with (at_delete;refine wpList_delete_own w3 rfl _ _ tM 9 rfl 9 lawS Try.underlying136 RvS b L.length (mapD L) rfl A3.out.map _ (lk n) rfl (Go.WideMaps.keyOf_string_mk Try.underlying9 HN.out) ?_;intro w6 hown6 hg6)
      go_ret
      rw [HD.out]
      exact ⟨rfl,A3.out.turned (turned_grown hg6) (by rw [mapD_del];exact hown6),grown_trans G3.out (turned_grown hg6)⟩
end Go.Proofs.Ythfaimomcbmniaa.Z
end
section
namespace Go.Proofs.Ythfaimomcbmniaa.Z
set_option linter.unusedVariables false
set_option linter.unusedSimpArgs false
open Go.RowKit Go.Shelf Go.Maps Go.Proofs.YthfaimomcbmniaaW.PrintWords Go.Proofs.YthfaimomcbmniaaW.PrintLast Go.Proofs.YthfaimomcbmniaaW.PrintMore Go.Proofs.Ythfaimomcbmniaa.Cmp
end Go.Proofs.Ythfaimomcbmniaa.Z
end
section
namespace Go.Proofs.Ythfaimomcbmniaa.Z
open Go.RowKit Go.Proofs.YthfaimomcbmniaaW.PrintWords Go.Proofs.YthfaimomcbmniaaW.PrintLast Go.Proofs.YthfaimomcbmniaaW.PrintMore
attribute [local go_sem] max2_int min2_int max_two min_two max_three min_three max_four min_four
set_option linter.unusedVariables false
set_option linter.unusedSimpArgs false
def verdererref09_Texts.l0 : Nat → List ByteArray → List ByteArray → Int → Option (Bool)
  | 0,_,_,_ => none
  | k + 1,x0,x1,x5 => if x5 < (x0.length : Int) then (if 0 ≤ x5 then (if x5 < (x1.length : Int) then (if (rdOf ByteArray.empty x0 x5).toList = (rdOf ByteArray.empty x1 x5).toList then (verdererref09_Texts.l0 k x0 x1 (wrap64 (x5 + 1))) else (some false)) else (none)) else (none)) else (some true)
def verdererref09_Texts.f (k : Nat) (l0 : List ByteArray) (l1 : List ByteArray) : Option (Bool) := if (l0.length : Int) = (l1.length : Int) then (verdererref09_Texts.l0 k l0 l1 0) else (some false)
theorem verdererref09_Texts.mono_l : ∀ k,(∀ y0 y1 y2,LeO (verdererref09_Texts.l0 k y0 y1 y2) (verdererref09_Texts.l0 (k + 1) y0 y1 y2))
  | 0 => fun _ _ _ r h => by simp [verdererref09_Texts.l0] at h
  | k + 1 => by
    have ih0 := verdererref09_Texts.mono_l k
    · intro y0 y1 y2
      unfold verdererref09_Texts.l0
      repeat' first
      | (with_reducible exact ih0 _ _ _)
      | (with_reducible exact LeO.refl _)
      | (with_reducible exact LeO.none _)
      | (with_reducible refine LeO.ite ?_ ?_)
      | (with_reducible refine LeO.bind ?_ (fun _ => ?_))
      | exact ih0 _ _ _
      | exact LeO.none _
      | refine LeO.ite ?_ ?_
      | refine LeO.bind ?_ (fun _ => ?_)
theorem verdererref09_Texts.mono : ∀ a0 a1 k,LeO (verdererref09_Texts.f k a0 a1) (verdererref09_Texts.f (k + 1) a0 a1) := by
  intro a0 a1 k
  have ih0 := verdererref09_Texts.mono_l k
  unfold verdererref09_Texts.f
  repeat' first
      | (with_reducible exact ih0 _ _ _)
      | (with_reducible exact LeO.refl _)
      | (with_reducible exact LeO.none _)
      | (with_reducible refine LeO.ite ?_ ?_)
      | (with_reducible refine LeO.bind ?_ (fun _ => ?_))
      | exact ih0 _ _ _
      | exact LeO.none _
      | refine LeO.ite ?_ ?_
      | refine LeO.bind ?_ (fun _ => ?_)
set_option maxHeartbeats 8000000 in
set_option maxRecDepth 100000 in
theorem verdererref09_Texts.calls (k : Nat) (A0 : Option Addr) (c0 : Nat) (l0 : List ByteArray) (A1 : Option Addr) (c1 : Nat) (l1 : List ByteArray) (r : Bool) (w : World) (hr0 : Kd.C Kd.string w A0 l0.length l0) (hc0 : l0.length ≤ c0) (hr1 : Kd.C Kd.string w A1 l1.length l1) (hc1 : l1.length ≤ c1) (h : verdererref09_Texts.f k l0 l1 = some r) :
    Calls Try.prog 37 #[.slice A0 l0.length c0,.slice A1 l1.length c1] w fun e w' => e = .returned (.bool r) ∧ Drawn0 w w' := by
  have HR0 := Aside0.mk hr0
  have HC0 := Aside0.mk hc0
  clear hr0 hc0
  have HR1 := Aside0.mk hr1
  have HC1 := Aside0.mk hc1
  clear hr1 hc1
  have H : (if (l0.length : Int) = (l1.length : Int) then (verdererref09_Texts.l0 k l0 l1 0) else (some false)) = some r := h
  clear h
  by_cases c3 : (l0.length : Int) = (l1.length : Int)
  · rw [if_pos c3] at H
    have c3b0 : ((l0.length : Int) == (l1.length : Int)) = true := beq_iff_eq.mpr c3
    have c3b1 : ((l0.length : Int) != (l1.length : Int)) = false := bne_eq_false_iff_eq.mpr c3
    have c3b2 : (l0.length == l1.length) = true := by first | simpa using c3 | (simp at c3 ⊢;omega)
    clear c3
    have H' := Aside0.mk H
    clear H
    go_enter Try.func37,Try.ntmps37
    go_wp2
    repeat (go_quiet (fail);try go_wp2)
    go_loopg [5] k (fun kq v5 w' => ∃ (x5_1 : Int),v5 = .int .i64 x5_1 ∧ Aside0 (verdererref09_Texts.l0 kq l0 l1 x5_1 = some r) ∧ Aside0 (kq ≤ k) ∧ Drawn0 w w')
    case atStart => exact ⟨(0),(by first | rfl | (simp;done) | (simp [*];done)),H',⟨Nat.le_refl _⟩,by repeat (first | exact Drawn0.refl _ | apply Drawn0.step)⟩
    case round =>
      clear H'
      try clear c1
      try clear p2
      try clear c3
      try clear c3b0
      try clear c3b1
      try clear c3b2
      obtain ⟨x5_1,rfl,HA,HK1,⟨m1,rfl⟩⟩ := hrel
      cases gk with
      | zero => exact absurd HA.out (by simp [verdererref09_Texts.l0])
      | succ k1 =>
        have H := HA.out
        clear HA
        simp only [verdererref09_Texts.l0] at H
        by_cases c4 : x5_1 < (l0.length : Int)
        · rw [if_pos c4] at H
          have c4b0 : decide (x5_1 < (l0.length : Int)) = true := decide_eq_true c4
          clear c4
          by_cases c5 : 0 ≤ x5_1
          · rw [if_pos c5] at H
            have c5b0 : decide (0 ≤ x5_1) = true := decide_eq_true c5
            clear c5
            by_cases c6 : x5_1 < (l1.length : Int)
            · rw [if_pos c6] at H
              have c6b0 : decide (x5_1 < (l1.length : Int)) = true := decide_eq_true c6
              clear c6
              by_cases c7 : (rdOf ByteArray.empty l0 x5_1).toList = (rdOf ByteArray.empty l1 x5_1).toList
              · rw [if_pos c7] at H
                have c7b0 : ((rdOf ByteArray.empty l0 x5_1).toList == (rdOf ByteArray.empty l1 x5_1).toList) = true := beq_iff_eq.mpr c7
                have c7b1 : ((rdOf ByteArray.empty l0 x5_1).toList != (rdOf ByteArray.empty l1 x5_1).toList) = false := bne_eq_false_iff_eq.mpr c7
                clear c7
                have H' := Aside0.mk H
                clear H
                have p249 : 0 ≤ (x5_1 : Int) := of_decide_eq_true (by first | (with_reducible assumption) | assumption)
                have q249 : x5_1 < (l0.length : Int) := of_decide_eq_true (by first | (with_reducible assumption) | assumption)
                obtain ⟨ad249,e249,hx249_0⟩ := Kd.at_string HR0.out x5_1 p249 q249
                cases e249
                replace p249 := eq_true p249
                replace q249 := eq_true q249
                have p250 : 0 ≤ (x5_1 : Int) := of_decide_eq_true (by first | (with_reducible assumption) | assumption)
                have q250 : x5_1 < (l1.length : Int) := of_decide_eq_true (by first | (with_reducible assumption) | assumption)
                obtain ⟨ad250,e250,hx250_0⟩ := Kd.at_string HR1.out x5_1 p250 q250
                cases e250
                replace p250 := eq_true p250
                replace q250 := eq_true q250
                go_wp2
                repeat (go_quiet (fail);try go_wp2)
                go_roundg k1
                case measure => have := HK1.out;omega
                case rel => exact ⟨(wrap64 (x5_1 + 1)),(by first | rfl | (simp;done) | (simp [*];done)),H',⟨by have := HK1.out;omega⟩,by repeat (first | exact Drawn0.refl _ | apply Drawn0.step)⟩
              · rw [if_neg c7] at H
                have c7b0 : ((rdOf ByteArray.empty l0 x5_1).toList == (rdOf ByteArray.empty l1 x5_1).toList) = false := beq_eq_false_iff_ne.mpr c7
                have c7b1 : ((rdOf ByteArray.empty l0 x5_1).toList != (rdOf ByteArray.empty l1 x5_1).toList) = true := bne_iff_ne.mpr c7
                obtain rfl := Option.some.inj H
                have p249 : 0 ≤ (x5_1 : Int) := of_decide_eq_true (by first | (with_reducible assumption) | assumption)
                have q249 : x5_1 < (l0.length : Int) := of_decide_eq_true (by first | (with_reducible assumption) | assumption)
                obtain ⟨ad249,e249,hx249_0⟩ := Kd.at_string HR0.out x5_1 p249 q249
                cases e249
                replace p249 := eq_true p249
                replace q249 := eq_true q249
                have p250 : 0 ≤ (x5_1 : Int) := of_decide_eq_true (by first | (with_reducible assumption) | assumption)
                have q250 : x5_1 < (l1.length : Int) := of_decide_eq_true (by first | (with_reducible assumption) | assumption)
                obtain ⟨ad250,e250,hx250_0⟩ := Kd.at_string HR1.out x5_1 p250 q250
                cases e250
                replace p250 := eq_true p250
                replace q250 := eq_true q250
                go_wp2
                repeat (go_quiet (fail);try go_wp2)
                go_ret
                exact ⟨by first | rfl | (simp;done) | (simp [*];done),by repeat (first | exact Drawn0.refl _ | apply Drawn0.step)⟩
            · rw [if_neg c6] at H
              exact absurd H (by simp)
          · rw [if_neg c5] at H
            exact absurd H (by simp)
        · rw [if_neg c4] at H
          have c4b0 : decide (x5_1 < (l0.length : Int)) = false := decide_eq_false c4
          clear c4
          obtain rfl := Option.some.inj H
          go_wp2
          repeat (go_quiet (fail);try go_wp2)
          go_ret
          exact ⟨by first | rfl | (simp;done) | (simp [*];done),by repeat (first | exact Drawn0.refl _ | apply Drawn0.step)⟩
  · rw [if_neg c3] at H
    have c3b0 : ((l0.length : Int) == (l1.length : Int)) = false := beq_eq_false_iff_ne.mpr c3
    have c3b1 : ((l0.length : Int) != (l1.length : Int)) = true := bne_iff_ne.mpr c3
    have c3b2 : (l0.length == l1.length) = false := by first | simpa using c3 | (simp at c3 ⊢;omega)
    obtain rfl := Option.some.inj H
    go_enter Try.func37,Try.ntmps37
    go_wp2
    repeat (go_quiet (fail);try go_wp2)
    go_ret
    exact ⟨by first | rfl | (simp;done) | (simp [*];done),by repeat (first | exact Drawn0.refl _ | apply Drawn0.step)⟩
end Go.Proofs.Ythfaimomcbmniaa.Z
end
section
namespace Go.Proofs.Ythfaimomcbmniaa.Z
set_option linter.unusedVariables false
set_option linter.unusedSimpArgs false
open Go.RowKit Go.Shelf Go.Maps Go.Proofs.YthfaimomcbmniaaW.PrintWords Go.Proofs.YthfaimomcbmniaaW.PrintLast Go.Proofs.YthfaimomcbmniaaW.PrintMore Go.Proofs.Ythfaimomcbmniaa.Cmp
theorem orph_false {L : List Tn} {p : Nm} (h : orph L p = false) : p = emp ∨ getT L p ≠ none := by
  unfold orph at h
  by_cases e : p = emp
  · exact .inl e
  · rw [decide_eq_false e] at h
    refine .inr (fun h2 => ?_)
    rw [h2] at h
    cases h
theorem Ok.addP {L : List Tn} (h : Ok L) (n p : Nm) : Ok (Z.addP L n p).2 := by
  unfold Z.addP
  split
  · exact h
  rename_i h1
  split
  · exact h
  rename_i h2
  split
  · exact h
  rename_i h3
  split
  · exact h
  rename_i h4
  split
  · exact h
  rename_i h5
  refine h.add (by cases hn : nameB n <;> simp_all) ?_ (orph_false (by simpa using h3)) (by omega) (by omega)
  cases hg : getT L n with
  | none => rfl
  | some q => rw [hg] at h2;exact absurd rfl h2
theorem texts_l0 (l : List Nm) (hl : l.length ≤ 1000000) : ∀ d i k,l.length - i = d → i ≤ l.length → d + 1 < k → verdererref09_Texts.l0 k l l (i : Int) = some true := by
  intro d
  induction d with
  | zero =>
    intro i k hd hi hk
    obtain ⟨k,rfl⟩ : ∃ m,k = m + 1 := ⟨k - 1,by omega⟩
    simp only [verdererref09_Texts.l0]
    rw [if_neg (by omega)]
  | succ d ih =>
    intro i k hd hi hk
    obtain ⟨k,rfl⟩ : ∃ m,k = m + 1 := ⟨k - 1,by omega⟩
    simp only [verdererref09_Texts.l0]
    rw [if_pos (by omega),if_pos (by omega),if_pos (by omega),if_pos trivial,show wrap64 ((i : Int) + 1) = ((i + 1 : Nat) : Int) by unfold wrap64;omega]
    exact ih (i + 1) k (by omega) (by omega) (by omega)
theorem texts_self (l : List Nm) (hl : l.length ≤ 1000000) : verdererref09_Texts.f (l.length + 2) l l = some true := by
  unfold verdererref09_Texts.f
  rw [if_pos rfl]
  exact texts_l0 l hl l.length 0 _ (by omega) (Nat.zero_le _) (by omega)
theorem texts_call {A0 A1 : Option Addr} {c0 c1 : Nat} {l : List Nm} {w : World} (hl : l.length ≤ 1000000) (h0 : Kd.C Kd.string w A0 l.length l) (k0 : l.length ≤ c0) (h1 : Kd.C Kd.string w A1 l.length l) (k1 : l.length ≤ c1) :
    Calls Try.prog 37 #[.slice A0 l.length c0,.slice A1 l.length c1] w fun e w' => e = .returned (.bool true) ∧ Below w.heap.size w w' := by
  refine (verdererref09_Texts.calls (l.length + 2) A0 c0 l A1 c1 l true w h0 k0 h1 k1 (texts_self l hl)).mono ?_
  rintro e w' ⟨rfl,h⟩
  exact ⟨rfl,h.below⟩
theorem two_row {w : World} {g : Nat} {a b : Nm} (h : w.heap[g]? = some (.cells #[.string a,.string b] 9 (0,0))) : Kd.C Kd.string w (some ⟨g,0,none⟩) 2 [a,b] :=
  ⟨rfl,by omega,fun _ => ⟨_,rfl,fun j p hj => by
    match j,hj with
    | 0,hj =>
      simp only [List.getElem?_cons_zero,Option.some.injEq] at hj
      subst hj
      exact ⟨[.string a],rfl,rfl,fun i u hu => by
        cases i with
        | succ i => simp at hu
        | zero =>
          rw [Addr.add_lit,show 0 + (0 * Kd.string.sz + 0) = 0 from rfl,blk_cell h 0]
          exact hu⟩
    | 1,hj =>
      simp only [List.getElem?_cons_succ,List.getElem?_cons_zero,Option.some.injEq] at hj
      subst hj
      exact ⟨[.string b],rfl,rfl,fun i u hu => by
        cases i with
        | succ i => simp at hu
        | zero =>
          rw [Addr.add_lit,show 0 + (1 * Kd.string.sz + 0) = 1 from rfl,blk_cell h 1]
          exact hu⟩⟩⟩
def sa : Nm := ⟨#[97]⟩
def sb : Nm := ⟨#[98]⟩
theorem kn1 : addP [] sa emp = (0,[(sa,emp)]) := by kernel_rfl
theorem kn2 : addP [(sa,emp)] sb sa = (0,[(sa,emp),(sb,sa)]) := by kernel_rfl
theorem kn3 : moveP [(sa,emp),(sb,sa)] sa sb = (13,[(sa,emp),(sb,sa)]) := by kernel_rfl
theorem kn4 : abv [(sa,emp),(sb,sa)] sb = [sb,sa] := by kernel_rfl
theorem kn5 : undL [(sa,emp),(sb,sa)] sa = [sa,sb] := by kernel_rfl
theorem ok1 : Ok [(sa,emp)] := by have := Ok.nil.addP sa emp;rw [kn1] at this;exact this
theorem ok2 : Ok [(sa,emp),(sb,sa)] := by have := ok1.addP sb sa;rw [kn2] at this;exact this
set_option maxHeartbeats 8000000 in
set_option maxRecDepth 100000 in
theorem known09 (w : World) : Calls Try.prog 55 #[] w fun e w' => e = .returned (.bool true) ∧ Below w.heap.size w w' := by
  go_enter Try.func55,Try.ntmps55
  go_wp2_with (fail)
  refine (ten_new w).mono ?_
  rintro e w1 ⟨t,b,rfl,hA,hB,ht,hb⟩
  have A1 := Aside0.mk hA
  have B1 := Aside0.mk hB
  have HB := Aside0.mk hb
  clear hA hB
  go_wp2_with (fail)
  refine (ten_add A1.out Ok.nil sa emp (by decide) (by decide)).mono ?_
  rintro e w2 ⟨rfl,hA,hg⟩
  rw [kn1] at hA ⊢
  have A2 := Aside0.mk hA
  have B2 := Aside0.mk (B1.out.grown hg B1.out.size (fun k e => by cases e;exact HB.out))
  clear hA hg A1 B1
  go_wp2_with (fail)
  refine (ten_add A2.out ok1 sb sa (by decide) (by decide)).mono ?_
  rintro e w3 ⟨rfl,hA,hg⟩
  rw [kn2] at hA ⊢
  have A3 := Aside0.mk hA
  have B3 := Aside0.mk (B2.out.grown hg B2.out.size (fun k e => by cases e;exact HB.out))
  clear hA hg A2 B2
  go_wp2_with (fail)
  refine (ten_move A3.out ok2 sa sb (by decide) (by decide)).mono ?_
  rintro e w4 ⟨rfl,hA,hg⟩
  rw [kn3] at hA ⊢
  have A4 := Aside0.mk hA
  have B4 := Aside0.mk (B3.out.grown hg B3.out.size (fun k e => by cases e;exact HB.out))
  clear hA hg A3 B3
  go_wp2_with (fail)
  refine (ten_depth A4.out.v ok2.sh ok2.psize sb (by decide)).mono ?_
  rintro e w5 ⟨rfl,hb5⟩
  rw [kn4]
  have A5 := Aside0.mk (A4.out.below hb5)
  have B5 := Aside0.mk (B4.out.trans (hb5.mono B4.out.size))
  clear hb5 A4 B4
  go_wp2_with (fail)
  refine (ten_under A5.out ok2.sh ok2.psize (by decide) sa).mono ?_
  rintro e w6 ⟨v6,rfl,hrow,hb6⟩
  rw [kn5] at hrow
  obtain ⟨A0,c0,rfl,hc0,hC0⟩ := hrow.reads
  have A6 := Aside0.mk (A5.out.below hb6)
  have B6 := Aside0.mk (B5.out.trans (hb6.mono B5.out.size))
  have R6 := Aside0.mk hC0
  clear hb6 A5 B5 hrow hC0
  go_wp2_with (fail)
  have BA := below_alloc (Below.refl w6.heap.size w6) (.cells #[.string sa,.string sb] 9)
  refine (texts_call (l := [sa,sb]) (by decide) (Kd.C_below R6.out BA) hc0 (two_row (blk_new w6 (.cells #[.string sa,.string sb] 9))) (Nat.le_refl 2)).mono ?_
  rintro e w7 ⟨rfl,hb7⟩
  have A7 := Aside0.mk ((A6.out.below BA).below hb7)
  have B7 := Aside0.mk (B6.out.trans ((BA.trans (hb7.mono BA.size)).mono B6.out.size))
  clear hb7 BA A6 B6 R6 hc0
  go_wp2_with (fail)
  refine (ten_above A7.out.v ok2.sh ok2.psize sb (by decide)).mono ?_
  rintro e w8 ⟨v8,rfl,hrow,hb8⟩
  rw [kn4] at hrow
  obtain ⟨A1,c1,rfl,hc1,hC1⟩ := hrow.reads
  have B8 := Aside0.mk (B7.out.trans (hb8.mono B7.out.size))
  have R8 := Aside0.mk hC1
  clear hb8 A7 B7 hrow hC1
  go_wp2_with (fail)
  have BA := below_alloc (Below.refl w8.heap.size w8) (.cells #[.string sb,.string sa] 9)
  refine (texts_call (l := [sb,sa]) (by decide) (Kd.C_below R8.out BA) hc1 (two_row (blk_new w8 (.cells #[.string sb,.string sa] 9))) (Nat.le_refl 2)).mono ?_
  rintro e w9 ⟨rfl,hb9⟩
  have B9 := Aside0.mk (B8.out.trans ((BA.trans (hb9.mono BA.size)).mono B8.out.size))
  clear hb9 BA B8 R8 hc1
  go_wp2_with (fail)
  go_ret
  exact ⟨rfl,B9.out⟩
end Go.Proofs.Ythfaimomcbmniaa.Z
end
section
namespace Go.Proofs.Ythfaimomcbmniaa.Z
set_option linter.unusedVariables false
set_option linter.unusedSimpArgs false
open Go.RowKit Go.Shelf Go.Maps Go.Proofs.YthfaimomcbmniaaW.PrintWords Go.Proofs.YthfaimomcbmniaaW.PrintLast Go.Proofs.YthfaimomcbmniaaW.PrintMore Go.Proofs.Ythfaimomcbmniaa.Cmp
theorem lev_mono (L : List Tn) (own : Int) : ∀ (l : List Nm) (m : Int),m ≤ lev L own l m
  | [],m => Int.le_refl m
  | x :: r,m => Int.le_trans (Int.le_max_left _ _) (lev_mono L own r _)
theorem lev_ge (L : List Tn) (own : Int) (x : Nm) : ∀ (l : List Nm) (m : Int),x ∈ l → ((abv L x).length : Int) - own + 1 ≤ lev L own l m
  | [],m,h => by cases h
  | y :: r,m,h => by
    rcases List.mem_cons.1 h with rfl | h
    · exact Int.le_trans (Int.le_max_right m _) (lev_mono L own r _)
    · exact lev_ge L own x r _ h
theorem Ch.keys {L : List Tn} {x : Nm} {l : List Nm} (h : Ch L x l) : ∀ m ∈ l,getT L m ≠ none := by
  induction h with
  | stop _ => intro m hm;cases hm
  | go h1 _ ih =>
    intro m hm
    rcases List.mem_cons.1 hm with rfl | hm
    · rw [h1];simp
    · exact ih m hm
theorem mem_undL {L : List Tn} {x n : Nm} (hx : getT L x ≠ none) (h : n ∈ abv L x) : x ∈ undL L n := by
  unfold undL
  rw [List.mem_filter]
  refine ⟨?_,(hasN_iff _ _).2 h⟩
  cases hg : getT L x with
  | none => exact absurd hg hx
  | some q => exact List.mem_map.2 ⟨_,getT_mem L x q hg,rfl⟩
theorem Ch.split {L L' : List Tn} {n p : Nm} {lp : List Nm} (hne : ∀ m,m ≠ n → getT L' m = getT L m) (hp : getT L' n = some p) (hlp : Ch L' p lp) {x : Nm} {l : List Nm} (h : Ch L x l) : n ∈ l → ∃ pre suf,l = pre ++ n :: suf ∧ Ch L n (n :: suf) ∧ Ch L' x (pre ++ n :: lp) := by
  induction h with
  | stop _ => intro h;cases h
  | @go m q l h hc ih =>
    intro hn
    by_cases e : m = n
    · subst e
      exact ⟨[],l,rfl,.go h hc,.go hp hlp⟩
    · obtain ⟨pre,suf,rfl,h2,h3⟩ := ih (by
        rcases List.mem_cons.1 hn with h4 | h4
        · exact absurd h4.symm e
        · exact h4)
      exact ⟨m :: pre,suf,rfl,h2,.go (by rw [hne m e];exact h) h3⟩
theorem hasN_false {l : List Nm} {n : Nm} (h : hasN l n = false) : n ∉ l := fun hm => by rw [(hasN_iff l n).2 hm] at h;cases h
theorem Ok.move {L : List Tn} (h : Ok L) (hnd : (L.map Prod.fst).Nodup) {n p : Nm} (hg : getT L n ≠ none) (hp : p = emp ∨ getT L p ≠ none) (hc : hasN (abv L p) n = false) (hd : ((abv L p).length : Int) + levL L n ≤ 5) : Ok (putL n p L) := by
  have hsame : ∀ m,m ≠ n → getT (putL n p L) m = getT L m := fun m hm => by rw [getT_put,if_neg hm]
  have hself : getT (putL n p L) n = some p := by rw [getT_put,if_pos rfl]
  have hstay : ∀ x,n ∉ abv L x → Ch (putL n p L) x (abv L x) := fun x hx =>
    Ch.stay hsame (h.sh.ch x) hx (fun e h2 => by
      subst e
      have := h.sh.ch x
      rw [h2] at this
      cases this with
      | stop h3 => exact hg h3) (fun _ _ _ _ _ => hg)
  have hpn : p ≠ n := fun e => by
    subst e
    obtain ⟨r,hr⟩ := abv_head h.sh hg
    exact hasN_false hc (by rw [hr];exact List.mem_cons_self)
  have hchp := hstay p (hasN_false hc)
  refine ⟨shallow_of fun x => ?_,fun q hq => ?_,fun q hq => ?_,by rw [put_len_old hnd hg];exact h.len⟩
  · by_cases hx : n ∈ abv L x
    · obtain ⟨pre,suf,h1,h2,h3⟩ := Ch.split hsame hself hchp (h.sh.ch x) hx
      refine ⟨_,h3,?_⟩
      have e1 : (abv L x).length = pre.length + (suf.length + 1) := by rw [h1,List.length_append,List.length_cons]
      have e2 : abv L n = n :: suf := (h.sh.ch n).uniq h2
      have h4 := lev_ge L ((abv L n).length : Int) x (undL L n) 0 (mem_undL (fun h0 => by rw [abv_none h0] at hx;cases hx) hx)
      have h5 : lev L ((abv L n).length : Int) (undL L n) 0 = levL L n := rfl
      rw [h5,e2,List.length_cons] at h4
      rw [List.length_append,List.length_cons]
      omega
    · exact ⟨_,hstay x hx,h.sh x⟩
  · rcases (mem_put n p q L).1 hq with rfl | ⟨hq,_⟩
    · cases hgn : getT L n with
      | none => exact absurd hgn hg
      | some q0 => exact h.key hgn
    · exact h.nm q hq
  · have hkeep : ∀ m,getT L m ≠ none → getT (putL n p L) m ≠ none := fun m hm => by
      by_cases e : m = n
      · rw [e,hself];simp
      · rw [hsame m e];exact hm
    rcases (mem_put n p q L).1 hq with rfl | ⟨hq,hqn⟩
    · rcases hp with h1 | h1
      · exact .inl h1
      · exact .inr (hkeep p h1)
    · rcases h.pr q hq with h1 | h1
      · exact .inl h1
      · exact .inr (hkeep _ h1)
theorem Ok.moveP {L : List Tn} (h : Ok L) (hnd : (L.map Prod.fst).Nodup) (n p : Nm) : Ok (Z.moveP L n p).2 := by
  unfold Z.moveP
  split
  · exact h
  rename_i h1
  split
  · exact h
  rename_i h2
  split
  · exact h
  rename_i h3
  split
  · exact h
  rename_i h4
  refine h.move hnd (fun hg => by rw [hg] at h1;exact h1 rfl) (orph_false (by simpa using h2)) (by simpa using h3) (by omega)
theorem nodup_eq : ∀ {L : List Tn},(L.map Prod.fst).Nodup → ∀ {n a b : Nm},(n,a) ∈ L → ∀ {q : Tn},q ∈ L → q.1 = n → q.2 = b → a = b
  | [],_,n,a,b,h,q,_,_,_ => by cases h
  | x :: r,hn,n,a,b,h,q,hq,h1,h2 => by
    rw [List.map_cons,List.nodup_cons] at hn
    rcases List.mem_cons.1 h with e | h
    · rcases List.mem_cons.1 hq with e2 | hq
      · rw [← h2,e2,← e]
      · exact absurd (List.mem_map.2 ⟨q,hq,by rw [h1,← e]⟩) hn.1
    · rcases List.mem_cons.1 hq with e2 | hq
      · exact absurd (List.mem_map.2 ⟨(n,a),h,by rw [← e2,h1]⟩) hn.1
      · exact nodup_eq hn.2 h hq h1 h2
theorem Ok.drop {L : List Tn} (h : Ok L) (hnd : (L.map Prod.fst).Nodup) {n : Nm} (hg : getT L n ≠ none) (hu : (undL L n).length ≤ 1) : Ok (delL n L) := by
  have hself : getT (delL n L) n = none := by rw [getT_del,if_pos rfl]
  have hsame : ∀ m,m ≠ n → getT (delL n L) m = getT L m := fun m hm => by rw [getT_del,if_neg hm]
  have hnn : n ∈ undL L n := mem_undL hg (by obtain ⟨r,hr⟩ := abv_head h.sh hg;rw [hr];exact List.mem_cons_self)
  have only : ∀ x,getT L x ≠ none → n ∈ abv L x → x = n := fun x hx hm => by
    have h1 := mem_undL hx hm
    match hU : undL L n,hu,hnn,h1 with
    | [],_,h2,_ => cases h2
    | [y],_,h2,h3 =>
      simp only [List.mem_singleton] at h2 h3
      rw [h2,h3]
    | y :: z :: r,h2,_,_ => simp at h2
  have hstay : ∀ x,n ∉ abv L x → Ch (delL n L) x (abv L x) := fun x hx =>
    Ch.stay hsame (h.sh.ch x) hx (fun e h2 => by
      subst e
      have := h.sh.ch x
      rw [h2] at this
      cases this with
      | stop h3 => exact hg h3) (fun _ _ _ _ _ => hg)
  refine ⟨shallow_of fun x => ?_,fun q hq => h.nm q ((mem_del n q L).1 hq).1,fun q hq => ?_,by have := del_len hnd hg;have := h.len;omega⟩
  · by_cases hx : n ∈ abv L x
    · have hk : getT L x ≠ none := fun h1 => by rw [abv_none h1] at hx;cases hx
      obtain rfl := only x hk hx
      exact ⟨[],.stop hself,by simp⟩
    · exact ⟨_,hstay x hx,h.sh x⟩
  · obtain ⟨hq,hqn⟩ := (mem_del n q L).1 hq
    rcases h.pr q hq with h1 | h1
    · exact .inl h1
    · by_cases e : q.2 = n
      · exfalso
        apply hqn
        have hgq : getT L q.1 ≠ none := fun h2 => (getT_none L q.1).1 h2 q hq rfl
        cases hgq2 : getT L q.1 with
        | none => exact absurd hgq2 hgq
        | some p2 =>
          have hp2 : p2 = q.2 := by
            have hm := getT_mem L q.1 p2 hgq2
            exact nodup_eq hnd hm hq rfl rfl
          refine only q.1 hgq ?_
          rw [abv_some h.sh hgq2,hp2,e]
          obtain ⟨r,hr⟩ := abv_head h.sh hg
          rw [hr]
          exact List.mem_cons_of_mem _ List.mem_cons_self
      · exact .inr (by rw [hsame _ e];exact h1)
theorem Ok.dropP {L : List Tn} (h : Ok L) (hnd : (L.map Prod.fst).Nodup) (n : Nm) : Ok (Z.dropP L n).2 := by
  unfold Z.dropP
  split
  · exact h
  rename_i h1
  split
  · exact h
  rename_i h2
  exact h.drop hnd (fun hg => by rw [hg] at h1;exact h1 rfl) (by omega)
end Go.Proofs.Ythfaimomcbmniaa.Z
end
section
namespace Go.Proofs.Ythfaimomcbmniaa.Z
set_option linter.unusedVariables false
set_option linter.unusedSimpArgs false
open Go.RowKit
def posL : List Tn → Nm → Nat
  | [],_ => 0
  | p :: r,n => if p.1 = n then 0 else posL r n + 1
theorem posL_cons (p : Tn) (r : List Tn) (n : Nm) : posL (p :: r) n = if p.1 = n then 0 else posL r n + 1 := rfl
def idx (L : List Tn) (n : Nm) : Int := if (getT L n).isSome then (posL L n : Int) else -1
theorem pos_le : ∀ (L : List Tn) (n : Nm),posL L n ≤ L.length
  | [],_ => Nat.le_refl _
  | p :: r,n => by
    rw [posL_cons]
    split
    · exact Nat.zero_le _
    · exact Nat.succ_le_succ (pos_le r n)
theorem pos_none : ∀ (L : List Tn) (n : Nm),posL L n = L.length → getT L n = none
  | [],_,_ => rfl
  | p :: r,n,h => by
    rw [posL_cons] at h
    rw [getT_cons]
    by_cases e : p.1 = n
    · rw [if_pos e] at h;simp at h
    · rw [if_neg e] at h ⊢
      exact pos_none r n (by simpa using h)
theorem pos_some : ∀ (L : List Tn) (n p : Nm),getT L n = some p → L[posL L n]? = some (n,p)
  | [],_,_,h => by cases h
  | q :: r,n,p,h => by
    rw [getT_cons] at h
    rw [posL_cons]
    by_cases e : q.1 = n
    · rw [if_pos e] at h ⊢
      injection h with h
      subst e
      subst h
      rfl
    · rw [if_neg e] at h ⊢
      rw [List.getElem?_cons_succ]
      exact pos_some r n p h
theorem pos_step : ∀ (L : List Tn) (n : Nm) (i : Nat) (x : Tn),i ≤ posL L n → L[i]? = some x → x.1 ≠ n → i + 1 ≤ posL L n
  | [],_,i,x,_,h,_ => by simp at h
  | q :: r,n,i,x,h,hx,hn => by
    rw [posL_cons] at h ⊢
    cases i with
    | zero =>
      simp only [List.getElem?_cons_zero,Option.some.injEq] at hx
      subst hx
      rw [if_neg hn]
      omega
    | succ i =>
      by_cases e : q.1 = n
      · rw [if_pos e] at h;omega
      · rw [if_neg e] at h ⊢
        have := pos_step r n i x (by omega) (by simpa using hx) hn
        omega
theorem pos_hit : ∀ (L : List Tn) (n : Nm) (i : Nat) (x : Tn),i ≤ posL L n → L[i]? = some x → x.1 = n → posL L n = i
  | [],_,i,x,_,h,_ => by simp at h
  | q :: r,n,i,x,h,hx,hn => by
    rw [posL_cons] at h ⊢
    cases i with
    | zero =>
      simp only [List.getElem?_cons_zero,Option.some.injEq] at hx
      subst hx
      rw [if_pos hn]
    | succ i =>
      by_cases e : q.1 = n
      · rw [if_pos e] at h;omega
      · rw [if_neg e] at h ⊢
        have := pos_hit r n i x (by omega) (by simpa using hx) hn
        omega
theorem get_pos : ∀ (L : List Tn) (n : Nm) (i : Nat) (x : Tn),i ≤ posL L n → L[i]? = some x → x.1 = n → getT L n = some x.2
  | [],_,i,x,_,h,_ => by simp at h
  | q :: r,n,i,x,h,hx,hn => by
    rw [posL_cons] at h
    rw [getT_cons]
    cases i with
    | zero =>
      simp only [List.getElem?_cons_zero,Option.some.injEq] at hx
      subst hx
      rw [if_pos hn]
    | succ i =>
      by_cases e : q.1 = n
      · rw [if_pos e] at h;omega
      · rw [if_neg e] at h ⊢
        exact get_pos r n i x (by omega) (by simpa using hx) hn
theorem Ch.tail {L : List Tn} {x : Nm} {l : List Nm} (h : Ch L x l) : ∀ m ∈ l,∃ s,Ch L m (m :: s) ∧ s.length < l.length := by
  induction h with
  | stop _ => intro m hm;cases hm
  | @go n p l h1 hc ih =>
    intro m hm
    rcases List.mem_cons.1 hm with rfl | hm
    · exact ⟨l,.go h1 hc,by simp⟩
    · obtain ⟨s,h2,h3⟩ := ih m hm
      exact ⟨s,h2,by rw [List.length_cons];omega⟩
theorem Ch.nodup {L : List Tn} {x : Nm} {l : List Nm} (h : Ch L x l) : l.Nodup := by
  induction h with
  | stop _ => exact List.nodup_nil
  | @go n p l h1 hc ih =>
    rw [List.nodup_cons]
    refine ⟨fun hm => ?_,ih⟩
    obtain ⟨s,h2,h3⟩ := hc.tail n hm
    have := (Ch.go h1 hc).uniq h2
    injection this with _ this
    rw [← this] at h3
    omega
theorem nodup_len : ∀ (l m : List (List UInt8)),l.Nodup → (∀ x ∈ l,x ∈ m) → l.length ≤ m.length
  | [],m,_,_ => Nat.zero_le _
  | a :: t,m,hn,hs => by
    rw [List.nodup_cons] at hn
    have ha := hs a List.mem_cons_self
    have h1 := nodup_len t (m.erase a) hn.2 (fun x hx => by
      have hne : x ≠ a := fun e => hn.1 (e ▸ hx)
      exact (List.mem_erase_of_ne hne).2 (hs x (List.mem_cons_of_mem _ hx)))
    rw [List.length_erase_of_mem ha] at h1
    have : 0 < m.length := List.length_pos_of_mem ha
    rw [List.length_cons]
    omega
theorem toB_inj2 {a b : Nm} (h : toB a = toB b) : a = b := by rw [← of_to a,← of_to b,h]
theorem abv_short {L : List Tn} (hs : Shallow L) (n : Nm) : (abv L n).length ≤ L.length := by
  have h1 := (hs.ch n).nodup
  have h2 : ((abv L n).map toB).Nodup := List.pairwise_map.2 (h1.imp (fun h e => h (toB_inj2 e)))
  have h3 := nodup_len _ ((L.map Prod.fst).map toB) h2 (fun x hx => by
    obtain ⟨m,hm,rfl⟩ := List.mem_map.1 hx
    have hk := (hs.ch n).keys m hm
    cases hg : getT L m with
    | none => exact absurd hg hk
    | some p => exact List.mem_map.2 ⟨m,List.mem_map.2 ⟨_,getT_mem L m p hg,rfl⟩,rfl⟩)
  simpa using h3
theorem up_abv {L : List Tn} (hs : Shallow L) (n : Nm) : upL L (L.length + 1) n = abv L n :=
  (hs.ch n).up _ (by have := abv_short hs n;omega)
theorem idx_some {L : List Tn} {n p : Nm} (h : getT L n = some p) : idx L n = (posL L n : Int) ∧ posL L n < L.length := by
  unfold idx
  rw [h,if_pos (by rfl)]
  refine ⟨rfl,?_⟩
  have := pos_le L n
  rcases Nat.lt_or_ge (posL L n) L.length with h1 | h1
  · exact h1
  · have := pos_none L n (by omega)
    rw [this] at h
    cases h
theorem idx_none {L : List Tn} {n : Nm} (h : getT L n = none) : idx L n = -1 := by
  unfold idx
  rw [h]
  rfl
end Go.Proofs.Ythfaimomcbmniaa.Z
end
section
namespace Go.Proofs.Ythfaimomcbmniaa.Z
set_option linter.unusedVariables false
set_option linter.unusedSimpArgs false
open Go.RowKit Go.Shelf Go.Maps Go.Proofs.YthfaimomcbmniaaW.PrintWords Go.Proofs.YthfaimomcbmniaaW.PrintLast Go.Proofs.YthfaimomcbmniaaW.PrintMore Go.Proofs.Ythfaimomcbmniaa.Cmp
abbrev tR : Nat := 91
abbrev tE : Nat := 85
abbrev STn := S85
abbrev kTn : Kd STn := k85
def tn (p : Tn) : STn := ⟨p.1,p.2⟩
structure RTree (w : World) (r N : Nat) (v : Value) (L : List Tn) : Prop where
  blk : w.heap[r]? = some (.cells #[v] tR (0,0))
  row : Kd.N kTn tE w N (fun k => k ≠ r) v (L.map tn)
  le : N ≤ r
theorem RTree.below {w w1 : World} {r N : Nat} {v : Value} {L : List Tn} (h : RTree w r N v L) (hb : Below w.heap.size w w1) : RTree w1 r N v L :=
  ⟨(hb.block r (blk_lt h.blk)).trans h.blk,Kd.N_below h.row hb,h.le⟩
structure RC (w : World) (r : Nat) (A : Option Addr) (c : Nat) (L : List Tn) : Prop where
  cell : w.cell? ⟨r,0,none⟩ = some (.slice A L.length c)
  lt : r < w.heap.size
  row : Kd.C kTn w A L.length (L.map tn)
  cap : L.length ≤ c
theorem RTree.rc {w : World} {r N : Nat} {v : Value} {L : List Tn} (h : RTree w r N v L) : ∃ A c,v = .slice A L.length c ∧ RC w r A c L := by
  obtain ⟨A,c,rfl,hc,hC⟩ := Kd.N_reads h.row
  rw [List.length_map] at hc hC
  exact ⟨A,c,by rw [List.length_map],⟨by rw [blk_cell h.blk 0,List.length_map];rfl,blk_lt h.blk,hC,hc⟩⟩
theorem RC.below {w w1 : World} {r : Nat} {A : Option Addr} {c : Nat} {L : List Tn} (h : RC w r A c L) (hb : Below w.heap.size w w1) : RC w1 r A c L :=
  ⟨(hb.cell (p := ⟨r,0,none⟩) h.lt).trans h.cell,Nat.lt_of_lt_of_le h.lt hb.size,Kd.C_below h.row hb,h.cap⟩
theorem RC.at_ {w : World} {r : Nat} {A : Option Addr} {c : Nat} {L : List Tn} (h : RC w r A c L) {i : Nat} {x : Tn} (hx : L[i]? = some x) :
    ∃ ad,A = some ad ∧ w.cell? (ad.add (i * 2)) = some (.string x.1) ∧ w.cell? ⟨(ad.add (i * 2)).block,(ad.add (i * 2)).off + 1,none⟩ = some (.string x.2) := by
  have hi : i < L.length := (List.getElem?_eq_some_iff.1 hx).1
  obtain ⟨ad,rfl,h1,h2⟩ := at_T85 h.row (i : Int) (by omega) (by omega)
  have e : rd_T85 (L.map tn) (i : Int) = tn x := by
    unfold rd_T85
    rw [Int.toNat_natCast,List.getD_eq_getElem?_getD,List.getElem?_map,hx]
    rfl
  rw [e,Int.toNat_natCast] at h1 h2
  exact ⟨ad,rfl,h1,h2⟩
set_option maxHeartbeats 4000000 in
set_option maxRecDepth 100000 in
theorem ref_find {w : World} {r : Nat} {A : Option Addr} {c : Nat} {L : List Tn} (h : RC w r A c L) (hL : L.length ≤ 1000) (n : Nm) :
    Calls Try.prog 111 #[.pointer (some ⟨r,0,none⟩),.string n] w fun e w' => e = .returned (.int .i64 (idx L n)) ∧ w' = w := by
  have HR := Aside0.mk h
  have x0 := h.cell
  have HI := Aside0.mk (show idx L n = (if (getT L n).isSome then (posL L n : Int) else -1) from rfl)
  clear h
  generalize idx L n = R at HI ⊢
  go_enter Try.func111,Try.ntmps111
  go_wp2_with (fail)
  go_loopw [5] (fun iv wr => ∃ i : Nat,iv = .int .i64 (i : Int) ∧ i ≤ L.length ∧ Aside0 (i ≤ posL L n) ∧ wr = w) (fun iv _ => L.length - (intOf iv).toNat)
  case atStart => exact ⟨0,rfl,Nat.zero_le _,⟨Nat.zero_le _⟩,rfl⟩
  case round =>
    obtain ⟨i,rfl,hi,HP,rfl⟩ := hrel
    by_cases hlt : i < L.length
    · have k0 : decide ((i : Int) < (L.length : Int)) = true := decide_eq_true (by omega)
      obtain ⟨x,hx⟩ : ∃ x,L[i]? = some x := ⟨L[i],List.getElem?_eq_getElem hlt⟩
      obtain ⟨ad,rfl,c0,_⟩ := HR.out.at_ hx
      have HX := Aside0.mk hx
      have p0 : (0 : Int) ≤ (i : Int) := by omega
      have p1 : (i : Int) < (L.length : Int) := by omega
      clear hx
      by_cases hn : x.1 = n
      · have q0 : (ByteArray.toList x.1 == ByteArray.toList n) = true := by rw [eqS,decide_eq_true hn]
        have HE := Aside0.mk (show R = (i : Int) by
          rw [HI.out,get_pos L n i x HP.out HX.out hn,pos_hit L n i x HP.out HX.out hn]
          rfl)
        clear hn
        go_wp2_with (fail)
        go_ret
        exact ⟨by rw [HE.out];rfl,rfl⟩
      · have q0 : (ByteArray.toList x.1 == ByteArray.toList n) = false := by rw [eqS,decide_eq_false hn]
        have HS := Aside0.mk (pos_step L n i x HP.out HX.out hn)
        clear hn
        go_wp2_with (fail)
        go_roundw
        case rel => exact ⟨i + 1,by go_num,hlt,HS,by trivial⟩
        case measure => simp [intOf];omega
    · have k0 : decide ((i : Int) < (L.length : Int)) = false := decide_eq_false (by omega)
      have HE := Aside0.mk (show R = -1 by
        rw [HI.out,pos_none L n (by have := pos_le L n;have := HP.out;omega)]
        rfl)
      go_wp2_with (fail)
      go_ret
      exact ⟨by rw [HE.out];rfl,rfl⟩
set_option maxHeartbeats 4000000 in
set_option maxRecDepth 100000 in
theorem ref_has {w : World} {r : Nat} {A : Option Addr} {c : Nat} {L : List Tn} (h : RC w r A c L) (hL : L.length ≤ 1000) (n : Nm) :
    Calls Try.prog 60 #[.pointer (some ⟨r,0,none⟩),.string n] w fun e w' => e = .returned (.bool (getT L n).isSome) ∧ w' = w := by
  have HF := Aside0.mk (ref_find h hL n)
  clear h
  cases hg : getT L n with
  | none =>
    rw [idx_none hg] at HF
    clear hg
    go_enter Try.func60,Try.ntmps60
    go_wp2_with (fail)
    refine HF.out.mono ?_
    rintro e w' ⟨rfl,rfl⟩
    go_wp2_with (fail)
    go_ret
    exact ⟨rfl,rfl⟩
  | some p =>
    rw [(idx_some hg).1] at HF
    clear hg
    generalize posL L n = k at HF ⊢
    have q0 : decide ((0 : Int) ≤ (k : Int)) = true := decide_eq_true (by omega)
    go_enter Try.func60,Try.ntmps60
    go_wp2_with (fail)
    refine HF.out.mono ?_
    rintro e w' ⟨rfl,rfl⟩
    go_wp2_with (fail)
    go_ret
    exact ⟨rfl,rfl⟩
set_option maxHeartbeats 8000000 in
set_option maxRecDepth 100000 in
theorem ref_above {w : World} {r : Nat} {A : Option Addr} {c : Nat} {L : List Tn} (h : RC w r A c L) (hL : L.length ≤ 24) (hs : Shallow L) (n : Nm) :
    Calls Try.prog 62 #[.pointer (some ⟨r,0,none⟩),.string n] w fun e w' => ∃ v,e = .returned v ∧ SRow w' w.heap.size v (abv L n) ∧ Below w.heap.size w w' := by
  have HR := Aside0.mk h
  have HAB := Aside0.mk (up_abv hs n)
  have HA5 := Aside0.mk (abv_len hs n)
  clear h
  generalize abv L n = U at HAB HA5 ⊢
  go_enter Try.func62,Try.ntmps62
  go_wp2_with (fail)
  refine (ref_find HR.out (by omega) n).mono ?_
  rintro e w1 ⟨rfl,rfl⟩
  go_wp2_with (fail)
  rename World => w
  go_loopw [5,6,7] (fun ov av iv wr => ∃ (i : Nat) (x : Nm) (pre : List Nm),iv = .int .i64 (i : Int) ∧ i ≤ L.length + 1 ∧ av = .int .i64 (idx L x) ∧ Aside0 (U = pre ++ upL L (L.length + 1 - i) x) ∧ Aside0 (SRow wr w.heap.size ov pre) ∧ Aside0 (NextW w.heap.size w wr)) (fun _ _ iv _ => L.length + 1 - (intOf iv).toNat)
  case atStart => exact ⟨0,n,[],rfl,Nat.zero_le _,rfl,⟨HAB.out.symm⟩,⟨World.ownsRow_nil _ _ _ _⟩,⟨NextW.refl _⟩⟩
  case round =>
    rename World => wr
    obtain ⟨i,x,pre,rfl,hi,rfl,HU,HS,NW⟩ := hrel
    have R1 := Aside0.mk (HR.out.below NW.out.below)
    have x0 := R1.out.cell
    obtain ⟨Av,cv,rfl,_⟩ := HS.out.reads
    by_cases hlt : i ≤ L.length
    · have k0 : decide ((i : Int) ≤ (L.length : Int)) = true := decide_eq_true (by omega)
      cases hg : getT L x with
      | none =>
        have HE := Aside0.mk (show U = pre by
          rw [HU.out,show L.length + 1 - i = (L.length - i) + 1 by omega]
          show pre ++ (match getT L x with | none => [] | some p => x :: upL L (L.length - i) p) = pre
          rw [hg,List.append_nil])
        rw [idx_none hg]
        clear hg
        go_wp2_with (fail)
        go_ret
        exact ⟨_,rfl,by rw [HE.out];exact HS.out,NW.out.below⟩
      | some p =>
        obtain ⟨he,hpl⟩ := idx_some hg
        rw [he]
        have hx := pos_some L x p hg
        have HU2 := Aside0.mk (show U = (pre ++ [x]) ++ upL L (L.length + 1 - (i + 1)) p by
          rw [HU.out,show L.length + 1 - i = (L.length + 1 - (i + 1)) + 1 by omega]
          show pre ++ (match getT L x with | none => [] | some p => x :: upL L (L.length + 1 - (i + 1)) p) = _
          rw [hg]
          simp)
        obtain ⟨k,hk⟩ : ∃ k,posL L x = k := ⟨_,rfl⟩
        rw [hk] at hpl hx ⊢
        obtain ⟨ad,rfl,c0,c1⟩ := R1.out.at_ hx
        have PL := Aside0.mk (show pre.length < 5 by have h1 := congrArg List.length HU2.out;have := HA5.out;rw [List.length_append,List.length_append,List.length_singleton] at h1;omega)
        obtain ⟨m,hm⟩ : ∃ m,pre.length = m := ⟨_,rfl⟩
        have HM := Aside0.mk hm
        have HSR := Aside0.mk (show wr.ownsRow w.heap.size 9 1 (.slice Av m cv) m (pre.map strV) by rw [← hm];exact HS.out)
        rw [hm]
        obtain ⟨i0,hi0,hz0,hz1,hz2⟩ := info_parts info9
        have p0 : (0 : Int) ≤ (k : Int) := by omega
        have p1 : (k : Int) < (L.length : Int) := by omega
        have q0 : decide ((0 : Int) ≤ (k : Int)) = true := decide_eq_true (by omega)
        have GE := Aside0.mk NW.out.le
        have HXX := Aside0.mk hx
        clear hg he hk hm hx
        go_wp2_with (at_builtin;refine wpList_append_own _ rfl _ _ tS rfl w.heap.size 9 i0 (.string ⟨#[]⟩) 1 16 Try.underlying59 hi0 hz0 hz1 hz2 rfl (by decide) _ _ _ rfl (HSR.out.alloc _) ⟨wr.heap.size,0,none⟩ 1 1 [.string x] rfl rfl (cell_one_new _ _ _) (by simp [Value.oneCell']) (by have := PL.out;have := HM.out;unfold maxLen;omega) (by have := PL.out;have := HM.out;omega) (by have := GE.out;simp;omega) ?_;intro v' w3 hown' hgrow _;obtain ⟨g',cap',rfl⟩ := ownsRow_succ hown';have hall := (World.grownBy_alloc wr (Obj.cells #[.string x] 9) _).trans hgrow;have hbr := NW.out.below.grown hall GE.out (fun j e => HS.out.lt j (by rw [HM.out];exact e));have hr3 : some r ≠ (Value.slice Av m cv).ownBlock := row_ne_low HSR.out HR.out.lt;have R3 := Aside0.mk (HR.out.below hbr);have N3 := Aside0.mk (NextW.mk hbr (Nat.le_trans GE.out hall.size));have x3 := R3.out.cell;obtain ⟨ad3,e3,c30,c31⟩ := R3.out.at_ HXX.out;obtain rfl := Option.some.inj e3;have HS3 := Aside0.mk (show SRow w3 w.heap.size (.slice (some ⟨g',0,none⟩) (m + 1) cap') (pre ++ [x]) by (unfold SRow;rw [List.length_append,HM.out,List.map_append];exact hown'));clear hown' hgrow hall hbr)
        refine (ref_find R3.out (by omega) p).mono ?_
        rintro e w4 ⟨rfl,rfl⟩
        go_wp2_with (fail)
        go_roundw
        case rel => exact ⟨i + 1,p,pre ++ [x],by go_num,by omega,rfl,HU2,HS3,N3⟩
        case measure => simp [intOf];omega
    · have k0 : decide ((i : Int) ≤ (L.length : Int)) = false := decide_eq_false (by omega)
      have HE := Aside0.mk (show U = pre by
        rw [HU.out,show L.length + 1 - i = 0 by omega]
        exact List.append_nil pre)
      go_wp2_with (fail)
      go_ret
      exact ⟨_,rfl,by rw [HE.out];exact HS.out,NW.out.below⟩
end Go.Proofs.Ythfaimomcbmniaa.Z
end
section
namespace Go.Proofs.Ythfaimomcbmniaa.Z
set_option linter.unusedVariables false
set_option linter.unusedSimpArgs false
open Go.RowKit Go.Shelf Go.Maps Go.Proofs.YthfaimomcbmniaaW.PrintWords Go.Proofs.YthfaimomcbmniaaW.PrintLast Go.Proofs.YthfaimomcbmniaaW.PrintMore Go.Proofs.Ythfaimomcbmniaa.Cmp
set_option maxHeartbeats 4000000 in
set_option maxRecDepth 100000 in
theorem ref_depth {w : World} {r : Nat} {A : Option Addr} {c : Nat} {L : List Tn} (h : RC w r A c L) (hL : L.length ≤ 24) (hs : Shallow L) (n : Nm) :
    Calls Try.prog 61 #[.pointer (some ⟨r,0,none⟩),.string n] w fun e w' => e = .returned (.int .i64 ((abv L n).length : Int)) ∧ Below w.heap.size w w' := by
  have HA := Aside0.mk (ref_above h hL hs n)
  obtain ⟨m,hm⟩ : ∃ m,(abv L n).length = m := ⟨_,rfl⟩
  have HM := Aside0.mk hm
  rw [hm]
  clear h hm
  go_enter Try.func61,Try.ntmps61
  go_wp2_with (fail)
  refine HA.out.mono ?_
  rintro e w1 ⟨v,rfl,hrow,hb⟩
  obtain ⟨Au,cu,rfl,_,_⟩ := hrow.reads
  have B1 := Aside0.mk hb
  rw [HM.out]
  clear hb hrow
  go_wp2_with (fail)
  go_ret
  exact ⟨rfl,B1.out⟩
def undI (L : List Tn) (n : Nm) (i : Nat) : List Nm := ((L.take i).map Prod.fst).filter (fun x => hasN (abv L x) n)
theorem undI_all (L : List Tn) (n : Nm) {i : Nat} (h : L.length ≤ i) : undI L n i = undL L n := by
  unfold undI undL
  rw [List.take_of_length_le h]
theorem undI_succ (L : List Tn) (n : Nm) {i : Nat} {x : Tn} (hx : L[i]? = some x) : undI L n (i + 1) = undI L n i ++ (if hasN (abv L x.1) n then [x.1] else []) := by
  unfold undI
  rw [List.take_add_one,hx]
  simp only [Option.toList_some,List.map_append,List.map_cons,List.map_nil,List.filter_append]
  congr 1
  rw [List.filter_cons]
  split <;> rfl
theorem undI_len (L : List Tn) (n : Nm) (i : Nat) : (undI L n i).length ≤ i := by
  unfold undI
  refine Nat.le_trans (List.length_filter_le _ _) ?_
  rw [List.length_map]
  exact List.length_take_le _ _
theorem has_take_succ (l : List Nm) (n : Nm) {k : Nat} {y : Nm} (hy : l[k]? = some y) : hasN (l.take (k + 1)) n = (hasN (l.take k) n || decide (y = n)) := by
  unfold hasN
  rw [List.take_add_one,hy,List.any_append]
  simp
theorem has_take_nodup {l : List Nm} {n : Nm} (hn : l.Nodup) {k : Nat} (hy : l[k]? = some n) : hasN (l.take k) n = false := by
  rw [Bool.eq_false_iff]
  intro h
  rw [hasN_iff] at h
  obtain ⟨j,hj,e⟩ := List.mem_take_iff_getElem.1 h
  have hk := (List.getElem?_eq_some_iff.1 hy)
  obtain ⟨hk,ek⟩ := hk
  have := (List.getElem_inj hn).1 (e.trans ek.symm)
  omega
theorem kept_or {a b : Option Nat} (h : ∀ g,b = some g → a ≠ some g) : a = none ∨ a ≠ b := by
  cases a with
  | none => exact .inl rfl
  | some g => exact .inr (fun e => h g e.symm rfl)
theorem str_at {w : World} {A : Option Addr} {m : Nat} {l : List Nm} (h : Kd.C Kd.string w A m l) {k : Nat} {y : Nm} (hy : l[k]? = some y) : ∃ ad,A = some ad ∧ w.cell? (ad.add k) = some (.string y) := by
  have hk : k < l.length := (List.getElem?_eq_some_iff.1 hy).1
  have hm : m = l.length := h.1.symm
  obtain ⟨au,cs,rfl,_,hcs,hcell⟩ := Kd.C_get h emp (k : Int) (by omega) (by omega)
  refine ⟨au,rfl,?_⟩
  have h1 : cs = [.string (l.getD (k : Int).toNat emp)] := hcs
  have h2 := hcell 0 (.string y) (by rw [h1,Int.toNat_natCast,List.getD_eq_getElem?_getD,hy];rfl)
  rw [← h2,Int.toNat_natCast]
  show w.cell? (au.add k) = w.cell? (au.add (k * 1 + 0))
  rw [Nat.mul_one,Nat.add_zero]
theorem abv_nodup {L : List Tn} (h : Shallow L) (n : Nm) : (abv L n).Nodup := (h.ch n).nodup
set_option maxHeartbeats 8000000 in
set_option maxRecDepth 100000 in
theorem ref_under {w : World} {r : Nat} {A : Option Addr} {c : Nat} {L : List Tn} (h : RC w r A c L) (hL : L.length ≤ 24) (hs : Shallow L) (n : Nm) :
    Calls Try.prog 63 #[.pointer (some ⟨r,0,none⟩),.string n] w fun e w' => ∃ v,e = .returned v ∧ SRow w' w.heap.size v (undL L n) ∧ Below w.heap.size w w' := by
  have HR := Aside0.mk h
  clear h
  go_enter Try.func63,Try.ntmps63
  go_wp2_with (fail)
  go_loopw [5,6] (fun ov iv wr => ∃ (i : Nat),iv = .int .i64 (i : Int) ∧ i ≤ L.length ∧ Aside0 (SRow wr w.heap.size ov (undI L n i)) ∧ Aside0 (NextW w.heap.size w wr)) (fun _ iv _ => L.length - (intOf iv).toNat)
  case atStart => exact ⟨0,rfl,Nat.zero_le _,⟨World.ownsRow_nil _ _ _ _⟩,⟨NextW.refl _⟩⟩
  case round =>
    rename World => wr
    obtain ⟨i,rfl,hi,HS,NW⟩ := hrel
    have R1 := Aside0.mk (HR.out.below NW.out.below)
    have x0 := R1.out.cell
    by_cases hlt : i < L.length
    · have k0 : decide ((i : Int) < (L.length : Int)) = true := decide_eq_true (by omega)
      obtain ⟨x,hx⟩ : ∃ x,L[i]? = some x := ⟨L[i],List.getElem?_eq_getElem hlt⟩
      obtain ⟨ad,rfl,c0,c1⟩ := R1.out.at_ hx
      have HX := Aside0.mk hx
      have p0 : (0 : Int) ≤ (i : Int) := by omega
      have p1 : (i : Int) < (L.length : Int) := by omega
      clear hx
      go_wp2_with (fail)
      refine (ref_above R1.out hL hs x.1).mono ?_
      rintro e w2 ⟨v2,rfl,hrow,hb2⟩
      obtain ⟨U,hU⟩ : ∃ U,abv L x.1 = U := ⟨_,rfl⟩
      have HU := Aside0.mk hU
      rw [hU] at hrow
      obtain ⟨Au,cu,rfl,hcu,hCu⟩ := hrow.reads
      obtain ⟨m,hm⟩ : ∃ m,U.length = m := ⟨_,rfl⟩
      have HM := Aside0.mk hm
      have m5 : m ≤ 5 := by
        have := abv_len hs x.1
        rw [hU,hm] at this
        exact this
      rw [hm] at hrow ⊢
      have UR := Aside0.mk hrow
      have N2 := Aside0.mk (NW.out.next hb2)
      have S2 := Aside0.mk (World.ownsRow.kept HS.out (below_none hb2) (by
        cases h : Value.ownBlock _ with
        | none => exact .inl rfl
        | some k => exact .inr (by simp)))
      clear hU hm hrow hb2 hcu hCu
      go_wp2_with (fail)
      go_loopw [5,8] (fun ov kv wr2 => ∃ (k : Nat),kv = .int .i64 (k : Int) ∧ k ≤ m ∧ Aside0 (SRow wr2 w.heap.size ov (undI L n i ++ (if hasN (U.take k) n then [x.1] else []))) ∧ Aside0 (SRow wr2 wr.heap.size (.slice Au m cu) U) ∧ Aside0 (hasN (U.take k) n = false → ∀ g,ov.ownBlock = some g → (Value.slice Au m cu).ownBlock ≠ some g) ∧ Aside0 (NextW w.heap.size w wr2)) (fun _ kv _ => m - (intOf kv).toNat)
      case atStart => exact ⟨0,rfl,Nat.zero_le _,⟨by rw [show U.take 0 = [] from rfl];simp [hasN];exact S2.out⟩,UR,⟨fun _ g hg h2 => by have h3 := (UR.out.lt g h2);have h4 := (World.ownsRow.lt HS.out g hg).2;omega⟩,N2⟩
      case round =>
        rename World => wr2
        obtain ⟨k,rfl,hk,HS3,UR3,HNE,NW3⟩ := hrel
        by_cases hlt2 : k < m
        · have k2 : decide ((k : Int) < (m : Int)) = true := decide_eq_true (by omega)
          obtain ⟨y,hy⟩ : ∃ y,U[k]? = some y := ⟨U[k]'(by rw [HM.out];exact hlt2),List.getElem?_eq_getElem _⟩
          obtain ⟨au,rfl,u0⟩ : ∃ au,Au = some au ∧ wr2.cell? (au.add k) = some (.string y) := by
            obtain ⟨Aq,cq,eq,_,hCq⟩ := UR3.out.reads
            injection eq with e1 e2 e3
            obtain ⟨au,ha,hc⟩ := str_at hCq hy
            exact ⟨au,e1.trans ha,hc⟩
          have r0 : (0 : Int) ≤ (k : Int) := by omega
          have r1 : (k : Int) < (m : Int) := by omega
          have HTS := Aside0.mk (has_take_succ U n hy)
          by_cases hn : y = n
          · have q0 : (ByteArray.toList y == ByteArray.toList n) = true := by rw [eqS,decide_eq_true hn]
            have HT := Aside0.mk (has_take_nodup (n := n) (show U.Nodup from HU.out ▸ abv_nodup hs x.1) (hn ▸ hy))
            subst hn
            have R3 := Aside0.mk (HR.out.below NW3.out.below)
            have x3 := R3.out.cell
            obtain ⟨ad3,e4,c30,c31⟩ := R3.out.at_ HX.out
            obtain rfl := Option.some.inj e4
            have GE := Aside0.mk NW3.out.le
            obtain ⟨q,hq⟩ : ∃ q,(undI L y i).length = q := ⟨_,rfl⟩
            have HQ := Aside0.mk (show q ≤ i from hq ▸ undI_len L y i)
            have HSS := HS3.out
            rw [HT.out,if_neg (by simp),List.append_nil] at HSS
            obtain ⟨Av,cv,rfl,_⟩ := HSS.reads
            have HQE := Aside0.mk hq
            have HSR := Aside0.mk (show wr2.ownsRow w.heap.size 9 1 (.slice Av q cv) q ((undI L y i).map strV) by rw [← hq];exact HSS)
            have hnq := HNE.out HT.out
            rw [hq] at hnq ⊢
            have HNQ := Aside0.mk hnq
            obtain ⟨i0,hi0,hz0,hz1,hz2⟩ := info_parts info9
            have HTT := Aside0.mk (show hasN (U.take (k + 1)) y = true by rw [HTS.out];simp)
            clear HSS hq HS3 hy hnq HNE
            go_wp2_with (at_builtin;refine wpList_append_own _ rfl _ _ tS rfl w.heap.size 9 i0 (.string ⟨#[]⟩) 1 16 Try.underlying59 hi0 hz0 hz1 hz2 rfl (by decide) _ _ _ rfl (HSR.out.alloc _) ⟨wr2.heap.size,0,none⟩ 1 1 [.string x.1] rfl rfl (cell_one_new _ _ _) (by simp [Value.oneCell']) (by have := HQ.out;unfold maxLen;omega) (by have := HQ.out;omega) (by have := GE.out;simp;omega) ?_;intro v' w3 hown' hgrow _;obtain ⟨g',cap',rfl⟩ := ownsRow_succ hown';have hall := (World.grownBy_alloc wr2 (Obj.cells #[.string x.1] 9) _).trans hgrow;have hbr := NW3.out.below.grown hall GE.out (fun j e => (World.ownsRow.lt HSR.out j e).1);have N3 := Aside0.mk (NextW.mk hbr (Nat.le_trans GE.out hall.size));have HS4 := Aside0.mk (show SRow w3 w.heap.size (.slice (some ⟨g',0,none⟩) (q + 1) cap') (undI L y i ++ [x.1]) by (unfold SRow;rw [List.length_append,HQE.out,List.map_append];exact hown'));have UR4 := Aside0.mk (show SRow w3 wr.heap.size (.slice (some au) m cu) U from World.ownsRow.kept UR3.out hall (kept_or HNQ.out));clear hown' hgrow hall hbr)
            go_roundw
            case rel => exact ⟨k + 1,by go_num,by omega,⟨by rw [HTT.out,if_pos rfl];exact HS4.out⟩,UR4,⟨fun h => by rw [HTT.out] at h;cases h⟩,N3⟩
            case measure => simp [intOf];omega
          · have q0 : (ByteArray.toList y == ByteArray.toList n) = false := by rw [eqS,decide_eq_false hn]
            have HTT := Aside0.mk (show hasN (U.take (k + 1)) n = hasN (U.take k) n by rw [HTS.out,decide_eq_false hn,Bool.or_false])
            clear hy hn
            go_wp2_with (fail)
            go_roundw
            case rel => exact ⟨k + 1,by go_num,by omega,⟨by rw [HTT.out];exact HS3.out⟩,UR3,⟨by rw [HTT.out];exact HNE.out⟩,NW3⟩
            case measure => simp [intOf];omega
        · have k2 : decide ((k : Int) < (m : Int)) = false := decide_eq_false (by omega)
          have HE := Aside0.mk (show undI L n (i + 1) = undI L n i ++ (if hasN (U.take k) n then [x.1] else []) by
            rw [undI_succ L n HX.out,HU.out,List.take_of_length_le (by rw [HM.out];omega)])
          go_wp2_with (fail)
          go_roundw
          case rel => exact ⟨i + 1,by go_num,by omega,⟨by rw [HE.out];exact HS3.out⟩,NW3⟩
          case measure => simp [intOf];omega
    · have k0 : decide ((i : Int) < (L.length : Int)) = false := decide_eq_false (by omega)
      have HE := Aside0.mk (undI_all L n (i := i) (by omega))
      go_wp2_with (fail)
      go_ret
      exact ⟨_,rfl,by rw [← HE.out];exact HS.out,NW.out.below⟩
end Go.Proofs.Ythfaimomcbmniaa.Z
end
section
namespace Go.Proofs.Ythfaimomcbmniaa.Z
set_option linter.unusedVariables false
set_option linter.unusedSimpArgs false
open Go.RowKit Go.Shelf Go.Maps Go.Proofs.YthfaimomcbmniaaW.PrintWords Go.Proofs.YthfaimomcbmniaaW.PrintLast Go.Proofs.YthfaimomcbmniaaW.PrintMore Go.Proofs.Ythfaimomcbmniaa.Cmp
end Go.Proofs.Ythfaimomcbmniaa.Z
end
section
namespace Go.Proofs.Ythfaimomcbmniaa.Z
open Go.RowKit Go.Proofs.YthfaimomcbmniaaW.PrintWords Go.Proofs.YthfaimomcbmniaaW.PrintLast Go.Proofs.YthfaimomcbmniaaW.PrintMore
attribute [local go_sem] max2_int min2_int max_two min_two max_three min_three max_four min_four
set_option linter.unusedVariables false
set_option linter.unusedSimpArgs false
def cmp_isNaN_132.f (a0 : ByteArray) : Option (Bool) := some (a0.toList != a0.toList)
set_option maxHeartbeats 8000000 in
set_option maxRecDepth 100000 in
theorem cmp_isNaN_132.calls (a0 : ByteArray) (r : Bool) (w : World) (h : cmp_isNaN_132.f a0 = some r) :
    Calls Try.prog 132 #[.string a0] w fun e w' => e = .returned (.bool r) ∧ Drawn0 w w' := by
  have H : (some (a0.toList != a0.toList)) = some r := h
  clear h
  obtain rfl := Option.some.inj H
  go_enter Try.func132,Try.ntmps132
  go_wp2
  go_ret
  exact ⟨by first | rfl | (simp;done) | (simp [*];done),by repeat (first | exact Drawn0.refl _ | apply Drawn0.step)⟩
end Go.Proofs.Ythfaimomcbmniaa.Z
end
section
namespace Go.Proofs.Ythfaimomcbmniaa.Z
set_option linter.unusedVariables false
open Go.RowKit Go.Proofs.YthfaimomcbmniaaW.PrintWords Go.Proofs.YthfaimomcbmniaaW.PrintLast Go.Proofs.YthfaimomcbmniaaW.PrintMore Go.Proofs.Ythfaimomcbmniaa.Cmp
def cmp_Compare_115.f (a0 a1 : ByteArray) : Option Int := some (cmpB a0.data.toList a1.data.toList)
theorem less_cmp : ∀ a b : List UInt8,(Op.bytesLess a b = true ↔ cmpB a b < 0)
  | [],[] => by simp [Op.bytesLess,cmpB,lexC]
  | [],b :: bs => by simp [Op.bytesLess,cmpB,lexC]
  | a :: as',[] => by simp [Op.bytesLess,cmpB,lexC]
  | a :: as',b :: bs => by
    have ih := less_cmp as' bs
    simp only [Op.bytesLess,cmpB,lexC,Bool.or_eq_true,Bool.and_eq_true,decide_eq_true_eq,beq_iff_eq] at ih ⊢
    have hlt : a < b ↔ a.toNat < b.toNat := UInt8.lt_iff_toNat_lt
    have heq : a = b ↔ a.toNat = b.toNat := UInt8.toNat_inj.symm
    rw [hlt,heq]
    by_cases h1 : a.toNat = b.toNat
    · have h0 : cmpI (a.toNat : Int) (b.toNat : Int) = 0 := cmpI_eq.2 (by omega)
      rw [if_pos h0,← ih]
      constructor
      · rintro (h | ⟨_,h⟩)
        · omega
        · exact h
      · exact fun h => .inr ⟨h1,h⟩
    · have h0 : ¬ cmpI (a.toNat : Int) (b.toNat : Int) = 0 := fun h => h1 (by have := cmpI_eq.1 h;omega)
      rw [if_neg h0]
      unfold cmpI
      constructor
      · rintro (h | ⟨h,_⟩)
        · rw [if_pos (by omega)];omega
        · exact absurd h h1
      · intro h
        refine .inl ?_
        split at h
        · omega
        · split at h <;> omega
theorem cmpB_gt (a b : List UInt8) : Op.bytesLess b a = true ↔ 0 < cmpB a b := by
  rw [less_cmp b a,cmpB_law.anti a b]
  omega
theorem cmpB_lo (a b : List UInt8) : -1 ≤ cmpB a b ∧ cmpB a b ≤ 1 := ⟨cmpB_law.lo a b,cmpB_law.hi a b⟩
set_option maxHeartbeats 1000000 in
theorem cmp_Compare_115.calls (a0 a1 : ByteArray) (r : Int) (w : World) (h : cmp_Compare_115.f a0 a1 = some r) :
    Calls Try.prog 115 #[.string a0,.string a1] w fun e w' => e = .returned (.int .i64 r) ∧ Below w.heap.size w w' := by
  obtain rfl := Option.some.inj h
  have N0 := Aside0.mk (fun W => cmp_isNaN_132.calls a0 false W (by unfold cmp_isNaN_132.f;simp))
  have N1 := Aside0.mk (fun W => cmp_isNaN_132.calls a1 false W (by unfold cmp_isNaN_132.f;simp))
  have l1 := cmpB_lo a0.data.toList a1.data.toList
  have h1 := less_cmp a0.data.toList a1.data.toList
  have h2 := cmpB_gt a0.data.toList a1.data.toList
  have h3 : (a0.toList == a1.toList) = decide (cmpB a0.data.toList a1.data.toList = 0) := by
    rw [ByteArray.toList_eq,ByteArray.toList_eq]
    by_cases e : a0.data.toList = a1.data.toList
    · rw [e,cmpB_law.self];simp
    · have : ¬ cmpB a0.data.toList a1.data.toList = 0 := fun q => e (cmpB_eq q)
      rw [decide_eq_false this]
      exact beq_eq_false_iff_ne.2 e
  rw [← ByteArray.toList_eq,← ByteArray.toList_eq] at *
  generalize cmpB a0.toList a1.toList = q at *
  by_cases c1 : q < 0
  · obtain rfl : q = -1 := by omega
    have b1 : Op.bytesLess a0.toList a1.toList = true := h1.2 c1
    clear h3 h1 h2 l1 c1 h
    go_enter Try.func115,Try.ntmps115
    go_wp2_with (fail)
    refine (N0.out _).mono ?_
    rintro e w1 ⟨rfl,hd⟩
    have B1 := Aside0.mk hd.below
    clear hd
    go_wp2_with (fail)
    refine (N1.out _).mono ?_
    rintro e w2 ⟨rfl,hd⟩
    have B2 := Aside0.mk (B1.out.trans (hd.below.mono B1.out.size))
    clear hd B1
    go_wp2_with (fail)
    go_ret
    exact ⟨rfl,B2.out⟩
  · have b1 : Op.bytesLess a0.toList a1.toList = false := Bool.eq_false_iff.2 (fun h => c1 (h1.1 h))
    by_cases c2 : 0 < q
    · obtain rfl : q = 1 := by omega
      have b2 : Op.bytesLess a1.toList a0.toList = true := h2.2 c2
      have b3 : (a0.toList == a1.toList) = false := h3.trans (by decide)
      clear h3 h1 h2 l1 c1 c2 h
      go_enter Try.func115,Try.ntmps115
      go_wp2_with (fail)
      refine (N0.out _).mono ?_
      rintro e w1 ⟨rfl,hd⟩
      have B1 := Aside0.mk hd.below
      clear hd
      go_wp2_with (fail)
      refine (N1.out _).mono ?_
      rintro e w2 ⟨rfl,hd⟩
      have B2 := Aside0.mk (B1.out.trans (hd.below.mono B1.out.size))
      clear hd B1
      go_wp2_with (fail)
      go_ret
      exact ⟨rfl,B2.out⟩
    · obtain rfl : q = 0 := by omega
      have b2 : Op.bytesLess a1.toList a0.toList = false := Bool.eq_false_iff.2 (fun h => c2 (h2.1 h))
      have b3 : (a0.toList == a1.toList) = true := h3.trans (by decide)
      clear h3 h1 h2 l1 c1 c2 h
      go_enter Try.func115,Try.ntmps115
      go_wp2_with (fail)
      refine (N0.out _).mono ?_
      rintro e w1 ⟨rfl,hd⟩
      have B1 := Aside0.mk hd.below
      clear hd
      go_wp2_with (fail)
      refine (N1.out _).mono ?_
      rintro e w2 ⟨rfl,hd⟩
      have B2 := Aside0.mk (B1.out.trans (hd.below.mono B1.out.size))
      clear hd B1
      go_wp2_with (fail)
      go_ret
      exact ⟨rfl,B2.out⟩
end Go.Proofs.Ythfaimomcbmniaa.Z
end
section
namespace Go.Proofs.Ythfaimomcbmniaa.Z
set_option linter.unusedVariables false
set_option linter.unusedSimpArgs false
open Go.RowKit Go.Shelf Go.Maps Go.Proofs.Ythfaimomcbmniaa.Cmp
theorem bb_less : ∀ a b : List UInt8,bytesBefore a b = Op.bytesLess a b
  | [],[] => rfl
  | [],b :: s => rfl
  | a :: r,[] => rfl
  | a :: r,b :: s => by
    unfold bytesBefore Op.bytesLess
    rw [bb_less r s]
def cmpN (a b : Nm) : Int := cmpB a.data.toList b.data.toList
theorem before_cmp (a b : Nm) : (lk a).before (lk b) = true ↔ cmpN a b < 0 := by
  show bytesBefore _ _ = true ↔ _
  rw [bb_less,less_cmp]
  exact Iff.rfl
theorem cmpN_ne {a b : Nm} (h : a ≠ b) : cmpN a b ≠ 0 := fun e => h (toB_inj (cmpB_eq e))
theorem cmpN_anti (a b : Nm) : cmpN b a = -cmpN a b := cmpB_law.anti _ _
def posI : List Tn → Nm → Nat
  | [],_ => 0
  | y :: r,n => if cmpN y.1 n < 0 then posI r n + 1 else 0
theorem posI_le : ∀ (L : List Tn) (n : Nm),posI L n ≤ L.length
  | [],_ => Nat.le_refl _
  | y :: r,n => by
    unfold posI
    split
    · exact Nat.succ_le_succ (posI_le r n)
    · exact Nat.zero_le _
theorem posI_step : ∀ (L : List Tn) (n : Nm) (i : Nat) (x : Tn),i ≤ posI L n → L[i]? = some x → cmpN x.1 n < 0 → i + 1 ≤ posI L n
  | [],_,i,x,_,h,_ => by simp at h
  | y :: r,n,i,x,h,hx,hn => by
    unfold posI at h ⊢
    cases i with
    | zero =>
      simp only [List.getElem?_cons_zero,Option.some.injEq] at hx
      subst hx
      rw [if_pos hn]
      omega
    | succ i =>
      by_cases e : cmpN y.1 n < 0
      · rw [if_pos e] at h ⊢
        have := posI_step r n i x (by omega) (by simpa using hx) hn
        omega
      · rw [if_neg e] at h;omega
theorem posI_stop : ∀ (L : List Tn) (n : Nm) (i : Nat) (x : Tn),i ≤ posI L n → L[i]? = some x → ¬ cmpN x.1 n < 0 → posI L n = i
  | [],_,i,x,_,h,_ => by simp at h
  | y :: r,n,i,x,h,hx,hn => by
    unfold posI at h ⊢
    cases i with
    | zero =>
      simp only [List.getElem?_cons_zero,Option.some.injEq] at hx
      subst hx
      rw [if_neg hn]
    | succ i =>
      by_cases e : cmpN y.1 n < 0
      · rw [if_pos e] at h ⊢
        have := posI_stop r n i x (by omega) (by simpa using hx) hn
        omega
      · rw [if_neg e] at h;omega
theorem ins_at (n p : Nm) : ∀ L : List Tn,(∀ q ∈ L,q.1 ≠ n) → insL (n,p) L = L.take (posI L n) ++ (n,p) :: L.drop (posI L n)
  | [],_ => rfl
  | y :: r,h => by
    have hy := h y List.mem_cons_self
    have hc := cmpN_ne hy
    have ha := cmpN_anti y.1 n
    unfold insL posI
    by_cases e : cmpN y.1 n < 0
    · rw [if_neg (by rw [before_cmp];show ¬ cmpN n y.1 < 0;omega),if_pos e,ins_at n p r (fun q hq => h q (List.mem_cons_of_mem _ hq))]
      rfl
    · rw [if_pos (by rw [before_cmp];show cmpN n y.1 < 0;omega),if_neg e]
      rfl
theorem del_gone {n : Nm} {L : List Tn} (h : ∀ q ∈ L,q.1 ≠ n) : delL n L = L := by
  unfold delL
  rw [List.filter_eq_self]
  intro q hq
  simp [h q hq]
theorem put_new {L : List Tn} {n p : Nm} (h : getT L n = none) : putL n p L = L.take (posI L n) ++ (n,p) :: L.drop (posI L n) := by
  have h1 := (getT_none L n).1 h
  unfold putL
  rw [del_gone h1]
  exact ins_at n p L h1
theorem before_of_lt {a b : Nm} (h : toB a < toB b) : cmpN a b < 0 := by
  by_cases e : cmpN a b < 0
  · exact e
  · exfalso
    have hne : a ≠ b := fun q => by rw [q] at h;exact List.lt_irrefl _ h
    have h1 := cmpN_ne hne
    have h2 := cmpN_anti a b
    have h3 : (lk b).before (lk a) = true := (before_cmp b a).2 (by omega)
    exact absurd (before_lt _ _ h3) (List.lt_asymm h)
theorem put_old {n p : Nm} : ∀ {L : List Tn},L.Pairwise (fun p q => toB p.1 < toB q.1) → getT L n ≠ none → putL n p L = L.set (posL L n) (n,p)
  | [],_,h => absurd rfl h
  | y :: r,hp,h => by
    rw [List.pairwise_cons] at hp
    rw [getT_cons] at h
    rw [posL_cons]
    unfold putL delL
    by_cases e : y.1 = n
    · rw [if_pos e,List.filter_cons,if_neg (by simp [e])]
      have hd : (∀ q ∈ r,q.1 ≠ n) := fun q hq he => by
        have := hp.1 q hq
        rw [e,he] at this
        exact List.lt_irrefl _ this
      have h2 := del_gone hd
      unfold delL at h2
      rw [h2]
      cases r with
      | nil => rfl
      | cons z s =>
        unfold insL
        rw [if_pos ((before_cmp n z.1).2 (before_of_lt (by rw [← e];exact hp.1 z List.mem_cons_self)))]
        rfl
    · rw [if_neg e] at h ⊢
      rw [List.filter_cons,if_pos (by simp [e])]
      unfold insL
      have hn : toB y.1 < toB n := by
        cases hg : getT r n with
        | none => exact absurd hg h
        | some q => exact hp.1 _ (getT_mem r n q hg)
      have h3 := before_of_lt hn
      have h4 := cmpN_anti y.1 n
      rw [if_neg (by rw [before_cmp];show ¬ cmpN n y.1 < 0;omega),List.set_cons_succ]
      congr 1
      exact put_old hp.2 h
theorem del_old {n : Nm} : ∀ {L : List Tn},L.Pairwise (fun p q => toB p.1 < toB q.1) → getT L n ≠ none → delL n L = L.take (posL L n) ++ L.drop (posL L n + 1)
  | [],_,h => absurd rfl h
  | y :: r,hp,h => by
    rw [List.pairwise_cons] at hp
    rw [getT_cons] at h
    rw [posL_cons]
    by_cases e : y.1 = n
    · rw [if_pos e]
      have hd : (∀ q ∈ r,q.1 ≠ n) := fun q hq he => by
        have := hp.1 q hq
        rw [e,he] at this
        exact List.lt_irrefl _ this
      have h2 := del_gone hd
      show delL n (y :: r) = r
      unfold delL at h2 ⊢
      rw [List.filter_cons,if_neg (by simp [e]),h2]
    · rw [if_neg e] at h ⊢
      have ih := del_old hp.2 h
      unfold delL at ih ⊢
      rw [List.filter_cons,if_pos (by simp [e]),ih]
      rfl
end Go.Proofs.Ythfaimomcbmniaa.Z
end
section
namespace Go.Proofs.Ythfaimomcbmniaa.Z
open Go.RowKit Go.Proofs.YthfaimomcbmniaaW.PrintWords Go.Proofs.YthfaimomcbmniaaW.PrintLast Go.Proofs.YthfaimomcbmniaaW.PrintMore
attribute [local go_sem] max2_int min2_int max_two min_two max_three min_three max_four min_four
set_option linter.unusedVariables false
set_option linter.unusedSimpArgs false
mutual
def verdererref01_Text.l0 : Nat → ByteArray → ByteArray → Int → Option (Int)
  | 0,_,_,_ => none
  | k + 1,x0,x1,x5 => if x5 < (x0.size : Int) then (verdererref01_Text.j1 k x0 x1 x5 (decide (x5 < (x1.size : Int)))) else (verdererref01_Text.j1 k x0 x1 x5 false)
def verdererref01_Text.j1 : Nat → ByteArray → ByteArray → Int → Bool → Option (Int)
  | 0,_,_,_,_ => none
  | k + 1,x0,x1,x5,x15 => if x15 = true then (if 0 ≤ x5 then (if x5 < (x0.size : Int) then (if x5 < (x1.size : Int) then (if (bt x0 x5) < (bt x1 x5) then (some (-1)) else (if (bt x0 x5) > (bt x1 x5) then (some 1) else (verdererref01_Text.l0 k x0 x1 (wrap64 (x5 + 1))))) else (none)) else (none)) else (none)) else (if (x0.size : Int) < (x1.size : Int) then (some (-1)) else (if (x0.size : Int) > (x1.size : Int) then (some 1) else (some 0)))
end
def verdererref01_Text.f (k : Nat) (a0 : ByteArray) (a1 : ByteArray) : Option (Int) := verdererref01_Text.l0 k a0 a1 0
theorem verdererref01_Text.mono_l : ∀ k,(∀ y0 y1 y2,LeO (verdererref01_Text.l0 k y0 y1 y2) (verdererref01_Text.l0 (k + 1) y0 y1 y2)) ∧ (∀ y0 y1 y2 y3,LeO (verdererref01_Text.j1 k y0 y1 y2 y3) (verdererref01_Text.j1 (k + 1) y0 y1 y2 y3))
  | 0 => ⟨fun _ _ _ r h => by simp [verdererref01_Text.l0] at h,fun _ _ _ _ r h => by simp [verdererref01_Text.j1] at h⟩
  | k + 1 => by
    obtain ⟨ih0,ih1⟩ := verdererref01_Text.mono_l k
    refine ⟨?_,?_⟩
    · intro y0 y1 y2
      unfold verdererref01_Text.l0
      repeat' first
      | (with_reducible exact ih0 _ _ _)
      | (with_reducible exact ih1 _ _ _ _)
      | (with_reducible exact LeO.refl _)
      | (with_reducible exact LeO.none _)
      | (with_reducible refine LeO.ite ?_ ?_)
      | (with_reducible refine LeO.bind ?_ (fun _ => ?_))
      | exact ih0 _ _ _
      | exact ih1 _ _ _ _
      | exact LeO.none _
      | refine LeO.ite ?_ ?_
      | refine LeO.bind ?_ (fun _ => ?_)
    · intro y0 y1 y2 y3
      unfold verdererref01_Text.j1
      repeat' first
      | (with_reducible exact ih0 _ _ _)
      | (with_reducible exact ih1 _ _ _ _)
      | (with_reducible exact LeO.refl _)
      | (with_reducible exact LeO.none _)
      | (with_reducible refine LeO.ite ?_ ?_)
      | (with_reducible refine LeO.bind ?_ (fun _ => ?_))
      | exact ih0 _ _ _
      | exact ih1 _ _ _ _
      | exact LeO.none _
      | refine LeO.ite ?_ ?_
      | refine LeO.bind ?_ (fun _ => ?_)
theorem verdererref01_Text.mono : ∀ a0 a1 k,LeO (verdererref01_Text.f k a0 a1) (verdererref01_Text.f (k + 1) a0 a1) := by
  intro a0 a1 k
  obtain ⟨ih0,ih1⟩ := verdererref01_Text.mono_l k
  unfold verdererref01_Text.f
  repeat' first
      | (with_reducible exact ih0 _ _ _)
      | (with_reducible exact ih1 _ _ _ _)
      | (with_reducible exact LeO.refl _)
      | (with_reducible exact LeO.none _)
      | (with_reducible refine LeO.ite ?_ ?_)
      | (with_reducible refine LeO.bind ?_ (fun _ => ?_))
      | exact ih0 _ _ _
      | exact ih1 _ _ _ _
      | exact LeO.none _
      | refine LeO.ite ?_ ?_
      | refine LeO.bind ?_ (fun _ => ?_)
set_option maxHeartbeats 8000000 in
set_option maxRecDepth 100000 in
theorem verdererref01_Text.calls (k : Nat) (a0 : ByteArray) (a1 : ByteArray) (r : Int) (w : World) (h : verdererref01_Text.f k a0 a1 = some r) :
    Calls Try.prog 81 #[.string a0,.string a1] w fun e w' => e = .returned (.int .i64 r) ∧ Drawn0 w w' := by
  have H : (verdererref01_Text.l0 k a0 a1 0) = some r := h
  clear h
  have H' := Aside0.mk H
  clear H
  go_enter Try.func81,Try.ntmps81
  go_wp2
  repeat (go_quiet (fail);try go_wp2)
  go_loopg [5] k (fun kq v5 w' => ∃ (x5_1 : Int),v5 = .int .i64 x5_1 ∧ Aside0 (verdererref01_Text.l0 kq a0 a1 x5_1 = some r) ∧ Aside0 (kq ≤ k) ∧ Drawn0 w w')
  case atStart => exact ⟨(0),(by first | rfl | (simp;done) | (simp [*];done)),H',⟨Nat.le_refl _⟩,by repeat (first | exact Drawn0.refl _ | apply Drawn0.step)⟩
  case round =>
    clear H'
    try clear p2
    obtain ⟨x5_1,rfl,HA,HK1,⟨m1,rfl⟩⟩ := hrel
    cases gk with
    | zero => exact absurd HA.out (by simp [verdererref01_Text.l0])
    | succ k1 =>
      have H := HA.out
      clear HA
      simp only [verdererref01_Text.l0] at H
      have HC3 := Aside0.mk H
      clear H
      go_upto_region 2 with (fail)
      repeat (go_quiet (fail);go_upto_region 2 with (fail))
      go_cut [15] (fun v15 wc => ∃ (kq : Nat) (x15_2 : Bool),v15 = .bool x15_2 ∧ Aside0 (verdererref01_Text.j1 kq a0 a1 x5_1 x15_2 = some r) ∧ Aside0 (kq ≤ k1) ∧ Drawn0 w wc)
      case first =>
        have H := HC3.out
        clear HC3
        by_cases c4 : x5_1 < (a0.size : Int)
        · rw [if_pos c4] at H
          have c4b0 : decide (x5_1 < (a0.size : Int)) = true := decide_eq_true c4
          clear c4
          (first | rw [c4b0] | (simp only [i64_w,i32_w];rw [c4b0]) | skip)
          have H' := Aside0.mk H
          clear H
          go_wp2
          repeat (go_quiet (fail);try go_wp2)
          go_meet
          case rel => exact ⟨_,(decide (x5_1 < (a1.size : Int))),(by first | rfl | (simp;done) | (simp [*];done)),H',⟨by have := HK1.out;first | omega | exact Nat.le_refl _⟩,by repeat (first | exact Drawn0.refl _ | apply Drawn0.step)⟩
        · rw [if_neg c4] at H
          have c4b0 : decide (x5_1 < (a0.size : Int)) = false := decide_eq_false c4
          clear c4
          (first | rw [c4b0] | (simp only [i64_w,i32_w];rw [c4b0]) | skip)
          have H' := Aside0.mk H
          clear H
          go_wp2
          repeat (go_quiet (fail);try go_wp2)
          go_meet
          case rel => exact ⟨_,(false),(by first | rfl | (simp;done) | (simp [*];done)),H',⟨by have := HK1.out;first | omega | exact Nat.le_refl _⟩,by repeat (first | exact Drawn0.refl _ | apply Drawn0.step)⟩
      case rest =>
        clear HC3
        try clear p2
        try clear c4
        try clear c4b0
        try clear p2
        obtain ⟨kq,x15_2,rfl,HA,HJ2,⟨mc2,rfl⟩⟩ := hcut
        cases kq with
        | zero => exact absurd HA.out (by simp [verdererref01_Text.j1])
        | succ kj2 =>
          have H := HA.out
          clear HA
          simp only [verdererref01_Text.j1] at H
          by_cases c5 : x15_2 = true
          · subst c5
            have H1 : (if 0 ≤ x5_1 then (if x5_1 < (a0.size : Int) then (if x5_1 < (a1.size : Int) then (if (bt a0 x5_1) < (bt a1 x5_1) then (some (-1)) else (if (bt a0 x5_1) > (bt a1 x5_1) then (some 1) else (verdererref01_Text.l0 kj2 a0 a1 (wrap64 (x5_1 + 1))))) else (none)) else (none)) else (none)) = some r := by rw [if_pos rfl] at H;exact H
            clear H
            have H := H1
            clear H1
            by_cases c6 : 0 ≤ x5_1
            · rw [if_pos c6] at H
              have c6b0 : decide (0 ≤ x5_1) = true := decide_eq_true c6
              clear c6
              by_cases c7 : x5_1 < (a0.size : Int)
              · rw [if_pos c7] at H
                have c7b0 : decide (x5_1 < (a0.size : Int)) = true := decide_eq_true c7
                clear c7
                by_cases c9 : x5_1 < (a1.size : Int)
                · rw [if_pos c9] at H
                  have c9b0 : decide (x5_1 < (a1.size : Int)) = true := decide_eq_true c9
                  clear c9
                  by_cases c11 : (bt a0 x5_1) < (bt a1 x5_1)
                  · rw [if_pos c11] at H
                    have c11b0 : decide ((bt a0 x5_1) < (bt a1 x5_1)) = true := decide_eq_true c11
                    clear c11
                    obtain rfl := Option.some.inj H
                    have p8 : 0 ≤ (x5_1 : Int) := of_decide_eq_true (by first | (with_reducible assumption) | assumption)
                    have q8 : x5_1 < (a0.size : Int) := of_decide_eq_true (by first | (with_reducible assumption) | assumption)
                    have hx8 := bt_at a0 x5_1
                    replace p8 := eq_true p8
                    replace q8 := eq_true q8
                    have p10 : 0 ≤ (x5_1 : Int) := of_decide_eq_true (by first | (with_reducible assumption) | assumption)
                    have q10 : x5_1 < (a1.size : Int) := of_decide_eq_true (by first | (with_reducible assumption) | assumption)
                    have hx10 := bt_at a1 x5_1
                    replace p10 := eq_true p10
                    replace q10 := eq_true q10
                    go_wp2
                    repeat (go_quiet (fail);try go_wp2)
                    go_ret
                    exact ⟨by first | rfl | (simp;done) | (simp [*];done),by repeat (first | exact Drawn0.refl _ | apply Drawn0.step)⟩
                  · rw [if_neg c11] at H
                    have c11b0 : decide ((bt a0 x5_1) < (bt a1 x5_1)) = false := decide_eq_false c11
                    clear c11
                    by_cases c14 : (bt a0 x5_1) > (bt a1 x5_1)
                    · rw [if_pos c14] at H
                      have c14b0 : decide ((bt a1 x5_1) < (bt a0 x5_1)) = true := decide_eq_true c14
                      clear c14
                      obtain rfl := Option.some.inj H
                      have p8 : 0 ≤ (x5_1 : Int) := of_decide_eq_true (by first | (with_reducible assumption) | assumption)
                      have q8 : x5_1 < (a0.size : Int) := of_decide_eq_true (by first | (with_reducible assumption) | assumption)
                      have hx8 := bt_at a0 x5_1
                      replace p8 := eq_true p8
                      replace q8 := eq_true q8
                      have p10 : 0 ≤ (x5_1 : Int) := of_decide_eq_true (by first | (with_reducible assumption) | assumption)
                      have q10 : x5_1 < (a1.size : Int) := of_decide_eq_true (by first | (with_reducible assumption) | assumption)
                      have hx10 := bt_at a1 x5_1
                      replace p10 := eq_true p10
                      replace q10 := eq_true q10
                      have p12 : 0 ≤ (x5_1 : Int) := of_decide_eq_true (by first | (with_reducible assumption) | assumption)
                      have q12 : x5_1 < (a0.size : Int) := of_decide_eq_true (by first | (with_reducible assumption) | assumption)
                      have hx12 := bt_at a0 x5_1
                      replace p12 := eq_true p12
                      replace q12 := eq_true q12
                      have p13 : 0 ≤ (x5_1 : Int) := of_decide_eq_true (by first | (with_reducible assumption) | assumption)
                      have q13 : x5_1 < (a1.size : Int) := of_decide_eq_true (by first | (with_reducible assumption) | assumption)
                      have hx13 := bt_at a1 x5_1
                      replace p13 := eq_true p13
                      replace q13 := eq_true q13
                      go_wp2
                      repeat (go_quiet (fail);try go_wp2)
                      go_ret
                      exact ⟨by first | rfl | (simp;done) | (simp [*];done),by repeat (first | exact Drawn0.refl _ | apply Drawn0.step)⟩
                    · rw [if_neg c14] at H
                      have c14b0 : decide ((bt a1 x5_1) < (bt a0 x5_1)) = false := decide_eq_false c14
                      clear c14
                      have H' := Aside0.mk H
                      clear H
                      have p8 : 0 ≤ (x5_1 : Int) := of_decide_eq_true (by first | (with_reducible assumption) | assumption)
                      have q8 : x5_1 < (a0.size : Int) := of_decide_eq_true (by first | (with_reducible assumption) | assumption)
                      have hx8 := bt_at a0 x5_1
                      replace p8 := eq_true p8
                      replace q8 := eq_true q8
                      have p10 : 0 ≤ (x5_1 : Int) := of_decide_eq_true (by first | (with_reducible assumption) | assumption)
                      have q10 : x5_1 < (a1.size : Int) := of_decide_eq_true (by first | (with_reducible assumption) | assumption)
                      have hx10 := bt_at a1 x5_1
                      replace p10 := eq_true p10
                      replace q10 := eq_true q10
                      have p12 : 0 ≤ (x5_1 : Int) := of_decide_eq_true (by first | (with_reducible assumption) | assumption)
                      have q12 : x5_1 < (a0.size : Int) := of_decide_eq_true (by first | (with_reducible assumption) | assumption)
                      have hx12 := bt_at a0 x5_1
                      replace p12 := eq_true p12
                      replace q12 := eq_true q12
                      have p13 : 0 ≤ (x5_1 : Int) := of_decide_eq_true (by first | (with_reducible assumption) | assumption)
                      have q13 : x5_1 < (a1.size : Int) := of_decide_eq_true (by first | (with_reducible assumption) | assumption)
                      have hx13 := bt_at a1 x5_1
                      replace p13 := eq_true p13
                      replace q13 := eq_true q13
                      go_wp2
                      repeat (go_quiet (fail);try go_wp2)
                      go_roundg kj2
                      case measure => have := HK1.out;have := HJ2.out;omega
                      case rel => exact ⟨(wrap64 (x5_1 + 1)),(by first | rfl | (simp;done) | (simp [*];done)),H',⟨by have := HK1.out;have := HJ2.out;omega⟩,by repeat (first | exact Drawn0.refl _ | apply Drawn0.step)⟩
                · rw [if_neg c9] at H
                  exact absurd H (by simp)
              · rw [if_neg c7] at H
                exact absurd H (by simp)
            · rw [if_neg c6] at H
              exact absurd H (by simp)
          · replace c5 := Bool.eq_false_iff.mpr c5
            subst c5
            have H1 : (if (a0.size : Int) < (a1.size : Int) then (some (-1)) else (if (a0.size : Int) > (a1.size : Int) then (some 1) else (some 0))) = some r := by rw [if_neg (show ¬ (false = true) by decide)] at H;exact H
            clear H
            have H := H1
            clear H1
            by_cases c15 : (a0.size : Int) < (a1.size : Int)
            · rw [if_pos c15] at H
              have c15b0 : decide ((a0.size : Int) < (a1.size : Int)) = true := decide_eq_true c15
              have c15b1 : decide (a0.size < a1.size) = true := decide_eq_true (Int.ofNat_lt.mp c15)
              clear c15
              obtain rfl := Option.some.inj H
              go_wp2
              repeat (go_quiet (fail);try go_wp2)
              go_ret
              exact ⟨by first | rfl | (simp;done) | (simp [*];done),by repeat (first | exact Drawn0.refl _ | apply Drawn0.step)⟩
            · rw [if_neg c15] at H
              have c15b0 : decide ((a0.size : Int) < (a1.size : Int)) = false := decide_eq_false c15
              have c15b1 : decide (a0.size < a1.size) = false := decide_eq_false (fun h => c15 (Int.ofNat_lt.mpr h))
              clear c15
              by_cases c16 : (a0.size : Int) > (a1.size : Int)
              · rw [if_pos c16] at H
                have c16b0 : decide ((a1.size : Int) < (a0.size : Int)) = true := decide_eq_true c16
                have c16b1 : decide (a1.size < a0.size) = true := decide_eq_true (Int.ofNat_lt.mp c16)
                clear c16
                obtain rfl := Option.some.inj H
                go_wp2
                repeat (go_quiet (fail);try go_wp2)
                go_ret
                exact ⟨by first | rfl | (simp;done) | (simp [*];done),by repeat (first | exact Drawn0.refl _ | apply Drawn0.step)⟩
              · rw [if_neg c16] at H
                have c16b0 : decide ((a1.size : Int) < (a0.size : Int)) = false := decide_eq_false c16
                have c16b1 : decide (a1.size < a0.size) = false := decide_eq_false (fun h => c16 (Int.ofNat_lt.mpr h))
                clear c16
                obtain rfl := Option.some.inj H
                go_wp2
                repeat (go_quiet (fail);try go_wp2)
                go_ret
                exact ⟨by first | rfl | (simp;done) | (simp [*];done),by repeat (first | exact Drawn0.refl _ | apply Drawn0.step)⟩
end Go.Proofs.Ythfaimomcbmniaa.Z
end
section
namespace Go.Proofs.Ythfaimomcbmniaa.Z
open Go.RowKit Go.Proofs.YthfaimomcbmniaaW.PrintWords Go.Proofs.YthfaimomcbmniaaW.PrintLast Go.Proofs.YthfaimomcbmniaaW.PrintMore
attribute [local go_sem] max2_int min2_int max_two min_two max_three min_three max_four min_four
set_option linter.unusedVariables false
set_option linter.unusedSimpArgs false
def verdererref01_Compare.f (k : Nat) (a0_0 : Int) (a0_1 : Bool) (a0_2 : Int) (a0_3 : ByteArray) (a1_0 : Int) (a1_1 : Bool) (a1_2 : Int) (a1_3 : ByteArray) : Option (Int) := if a0_0 < a1_0 then (some (-1)) else (if a0_0 > a1_0 then (some 1) else (if a0_0 = 1 then (if (a0_1 == a1_1) = true then (some 0) else (if a1_1 = true then (some (-1)) else (some 1))) else (if a0_0 = 2 then (if a0_2 < a1_2 then (some (-1)) else (if a0_2 > a1_2 then (some 1) else (some 0))) else (if a0_0 = 3 then ((verdererref01_Text.f k a0_3 a1_3).bind fun t130 => (some t130)) else (some 0)))))
theorem verdererref01_Compare.mono : ∀ a0 a1 a2 a3 a4 a5 a6 a7 k,LeO (verdererref01_Compare.f k a0 a1 a2 a3 a4 a5 a6 a7) (verdererref01_Compare.f (k + 1) a0 a1 a2 a3 a4 a5 a6 a7) := by
  intro a0 a1 a2 a3 a4 a5 a6 a7 k
  unfold verdererref01_Compare.f
  repeat' first
      | (with_reducible exact verdererref01_Text.mono _ _ _)
      | (with_reducible exact LeO.refl _)
      | (with_reducible exact LeO.none _)
      | (with_reducible refine LeO.ite ?_ ?_)
      | (with_reducible refine LeO.bind ?_ (fun _ => ?_))
      | exact verdererref01_Text.mono _ _ _
      | exact LeO.none _
      | refine LeO.ite ?_ ?_
      | refine LeO.bind ?_ (fun _ => ?_)
set_option maxHeartbeats 8000000 in
set_option maxRecDepth 100000 in
theorem verdererref01_Compare.calls (k : Nat) (a0_0 : Int) (a0_1 : Bool) (a0_2 : Int) (a0_3 : ByteArray) (a1_0 : Int) (a1_1 : Bool) (a1_2 : Int) (a1_3 : ByteArray) (r : Int) (w : World) (h : verdererref01_Compare.f k a0_0 a0_1 a0_2 a0_3 a1_0 a1_1 a1_2 a1_3 = some r) :
    Calls Try.prog 120 #[.agg #[.int .i64 a0_0,.bool a0_1,.int .i64 a0_2,.string a0_3],.agg #[.int .i64 a1_0,.bool a1_1,.int .i64 a1_2,.string a1_3]] w fun e w' => e = .returned (.int .i64 r) ∧ Below w.heap.size w w' := by
  have hu149 := Try.underlying149
  have HB := Aside0.mk (Below.refl w.heap.size w)
  have H : (if a0_0 < a1_0 then (some (-1)) else (if a0_0 > a1_0 then (some 1) else (if a0_0 = 1 then (if (a0_1 == a1_1) = true then (some 0) else (if a1_1 = true then (some (-1)) else (some 1))) else (if a0_0 = 2 then (if a0_2 < a1_2 then (some (-1)) else (if a0_2 > a1_2 then (some 1) else (some 0))) else (if a0_0 = 3 then ((verdererref01_Text.f k a0_3 a1_3).bind fun t130 => (some t130)) else (some 0)))))) = some r := h
  clear h
  by_cases c3 : a0_0 < a1_0
  · rw [if_pos c3] at H
    have c3b0 : decide (a0_0 < a1_0) = true := decide_eq_true c3
    clear c3
    obtain rfl := Option.some.inj H
    go_enter Try.func120,Try.ntmps120
    go_wp2_with (first | ((with_reducible refine gate_dst (N := 2) rfl ?_);refine box_event ?hg (N := 2) ?hd (cs := #[.int .i64 a0_0,.bool a0_1,.int .i64 a0_2,.string a0_3]) (t := 149) ?hr ?_;(case hd => rfl);(case hg => rfl);(case hr => first | (go_simp;done) | (go_simp;rfl));intro gb128 hg w4 hbox hb;have n0_ := Aside0.mk (below_step (by repeat (first | (with_reducible first | exact HB.out | apply below_alloc | apply pw_below_drewN | apply below_drew1) | exact HB.out)) hb);have n1_ := Aside0.mk (hbox);have n2_ := Aside0.mk ((by rw [hg];exact (below_size (by repeat (first | (with_reducible first | exact HB.out | apply below_alloc | apply pw_below_drewN | apply below_drew1) | exact HB.out))) : w.heap.size ≤ gb128));have n3_ := Aside0.mk ((by rw [hg];exact (below_size (by repeat (first | (with_reducible first | exact HB.out | apply below_alloc | apply pw_below_drewN | apply below_drew1) | exact HB.out))) : w.heap.size ≤ gb128));clear HB;have HB := n0_;have BK128 := n1_;have GW128 := n2_;have GE128 := n3_;clear n0_ n1_ n2_ n3_;clear hb hbox hg) | ((with_reducible refine gate_dst (N := 3) rfl ?_);refine box_event ?hg (N := 3) ?hd (cs := #[.int .i64 a1_0,.bool a1_1,.int .i64 a1_2,.string a1_3]) (t := 149) ?hr ?_;(case hd => rfl);(case hg => rfl);(case hr => first | (go_simp;done) | (go_simp;rfl));intro gb129 hg w5 hbox hb;have n0_ := Aside0.mk (blk_below (g := gb128) (o := .cells #[.int .i64 a0_0,.bool a0_1,.int .i64 a0_2,.string a0_3] 149 (0,0)) (by (with_reducible repeat (first | refine blk_drewN ?_ _ | refine blk_drew ?_ | refine blk_alloc ?_ _));exact BK128.out) hb);have n1_ := Aside0.mk (below_step (by repeat (first | (with_reducible first | exact HB.out | apply below_alloc | apply pw_below_drewN | apply below_drew1 | refine below_set ?_ GE128.out) | exact HB.out)) hb);have n2_ := Aside0.mk (hbox);have n3_ := Aside0.mk ((by rw [hg];exact (below_size (by repeat (first | (with_reducible first | exact HB.out | apply below_alloc | apply pw_below_drewN | apply below_drew1 | refine below_set ?_ GE128.out) | exact HB.out))) : w.heap.size ≤ gb129));have n4_ := Aside0.mk ((by rw [hg];exact (below_size (by repeat (first | (with_reducible first | exact HB.out | apply below_alloc | apply pw_below_drewN | apply below_drew1 | refine below_set ?_ GE128.out) | exact HB.out))) : w.heap.size ≤ gb129));have n5_ := Aside0.mk ((by rw [hg];exact Nat.ne_of_lt (blk_lt (g := gb128) (o := .cells #[.int .i64 a0_0,.bool a0_1,.int .i64 a0_2,.string a0_3] 149 (0,0)) (by (with_reducible repeat (first | refine blk_drewN ?_ _ | refine blk_drew ?_ | refine blk_alloc ?_ _));exact BK128.out)) : gb128 ≠ gb129));have n6_ := Aside0.mk ((by rw [hg];exact Nat.ne_of_gt (blk_lt (g := gb128) (o := .cells #[.int .i64 a0_0,.bool a0_1,.int .i64 a0_2,.string a0_3] 149 (0,0)) (by (with_reducible repeat (first | refine blk_drewN ?_ _ | refine blk_drew ?_ | refine blk_alloc ?_ _));exact BK128.out)) : gb129 ≠ gb128));clear BK128;clear HB;have BK128 := n0_;have HB := n1_;have BK129 := n2_;have GW129 := n3_;have GE129 := n4_;have NB128_129 := n5_;have NB129_128 := n6_;clear n0_ n1_ n2_ n3_ n4_ n5_ n6_;clear hb hbox hg;have hnb6 := NB128_129.out;have hnc6 := NB129_128.out;have hcz7_0 : w5.cell? ⟨gb128,0,none⟩ = some (.int .i64 a0_0) := (blk_cell BK128.out 0).trans rfl;have hcz7_1 : w5.cell? ⟨gb128,1,none⟩ = some (.bool a0_1) := (blk_cell BK128.out 1).trans rfl;have hcz7_2 : w5.cell? ⟨gb128,2,none⟩ = some (.int .i64 a0_2) := (blk_cell BK128.out 2).trans rfl;have hcz7_3 : w5.cell? ⟨gb128,3,none⟩ = some (.string a0_3) := (blk_cell BK128.out 3).trans rfl;have hfz7_0 := blk_frozen BK128.out 0;have hfz7_1 := blk_frozen BK128.out 1;have hfz7_2 := blk_frozen BK128.out 2;have hfz7_3 := blk_frozen BK128.out 3;have hcz8_0 : w5.cell? ⟨gb129,0,none⟩ = some (.int .i64 a1_0) := (blk_cell BK129.out 0).trans rfl;have hcz8_1 : w5.cell? ⟨gb129,1,none⟩ = some (.bool a1_1) := (blk_cell BK129.out 1).trans rfl;have hcz8_2 : w5.cell? ⟨gb129,2,none⟩ = some (.int .i64 a1_2) := (blk_cell BK129.out 2).trans rfl;have hcz8_3 : w5.cell? ⟨gb129,3,none⟩ = some (.string a1_3) := (blk_cell BK129.out 3).trans rfl;have hfz8_0 := blk_frozen BK129.out 0;have hfz8_1 := blk_frozen BK129.out 1;have hfz8_2 := blk_frozen BK129.out 2;have hfz8_3 := blk_frozen BK129.out 3))
    go_ret
    exact ⟨by first | rfl | (simp [errW_none,errW_some] <;> rfl) | (simp [*,errW_none,errW_some] <;> rfl),by repeat (first | (with_reducible first | exact HB.out | apply below_alloc | apply pw_below_drewN | apply below_drew1 | refine below_set ?_ GE128.out | refine below_set ?_ GE129.out) | exact HB.out)⟩
  · rw [if_neg c3] at H
    have c3b0 : decide (a0_0 < a1_0) = false := decide_eq_false c3
    clear c3
    by_cases c9 : a0_0 > a1_0
    · rw [if_pos c9] at H
      have c9b0 : decide (a1_0 < a0_0) = true := decide_eq_true c9
      clear c9
      obtain rfl := Option.some.inj H
      go_enter Try.func120,Try.ntmps120
      go_wp2_with (first | ((with_reducible refine gate_dst (N := 2) rfl ?_);refine box_event ?hg (N := 2) ?hd (cs := #[.int .i64 a0_0,.bool a0_1,.int .i64 a0_2,.string a0_3]) (t := 149) ?hr ?_;(case hd => rfl);(case hg => rfl);(case hr => first | (go_simp;done) | (go_simp;rfl));intro gb128 hg w10 hbox hb;have n0_ := Aside0.mk (below_step (by repeat (first | (with_reducible first | exact HB.out | apply below_alloc | apply pw_below_drewN | apply below_drew1) | exact HB.out)) hb);have n1_ := Aside0.mk (hbox);have n2_ := Aside0.mk ((by rw [hg];exact (below_size (by repeat (first | (with_reducible first | exact HB.out | apply below_alloc | apply pw_below_drewN | apply below_drew1) | exact HB.out))) : w.heap.size ≤ gb128));have n3_ := Aside0.mk ((by rw [hg];exact (below_size (by repeat (first | (with_reducible first | exact HB.out | apply below_alloc | apply pw_below_drewN | apply below_drew1) | exact HB.out))) : w.heap.size ≤ gb128));clear HB;have HB := n0_;have BK128 := n1_;have GW128 := n2_;have GE128 := n3_;clear n0_ n1_ n2_ n3_;clear hb hbox hg) | ((with_reducible refine gate_dst (N := 3) rfl ?_);refine box_event ?hg (N := 3) ?hd (cs := #[.int .i64 a1_0,.bool a1_1,.int .i64 a1_2,.string a1_3]) (t := 149) ?hr ?_;(case hd => rfl);(case hg => rfl);(case hr => first | (go_simp;done) | (go_simp;rfl));intro gb129 hg w11 hbox hb;have n0_ := Aside0.mk (blk_below (g := gb128) (o := .cells #[.int .i64 a0_0,.bool a0_1,.int .i64 a0_2,.string a0_3] 149 (0,0)) (by (with_reducible repeat (first | refine blk_drewN ?_ _ | refine blk_drew ?_ | refine blk_alloc ?_ _));exact BK128.out) hb);have n1_ := Aside0.mk (below_step (by repeat (first | (with_reducible first | exact HB.out | apply below_alloc | apply pw_below_drewN | apply below_drew1 | refine below_set ?_ GE128.out) | exact HB.out)) hb);have n2_ := Aside0.mk (hbox);have n3_ := Aside0.mk ((by rw [hg];exact (below_size (by repeat (first | (with_reducible first | exact HB.out | apply below_alloc | apply pw_below_drewN | apply below_drew1 | refine below_set ?_ GE128.out) | exact HB.out))) : w.heap.size ≤ gb129));have n4_ := Aside0.mk ((by rw [hg];exact (below_size (by repeat (first | (with_reducible first | exact HB.out | apply below_alloc | apply pw_below_drewN | apply below_drew1 | refine below_set ?_ GE128.out) | exact HB.out))) : w.heap.size ≤ gb129));have n5_ := Aside0.mk ((by rw [hg];exact Nat.ne_of_lt (blk_lt (g := gb128) (o := .cells #[.int .i64 a0_0,.bool a0_1,.int .i64 a0_2,.string a0_3] 149 (0,0)) (by (with_reducible repeat (first | refine blk_drewN ?_ _ | refine blk_drew ?_ | refine blk_alloc ?_ _));exact BK128.out)) : gb128 ≠ gb129));have n6_ := Aside0.mk ((by rw [hg];exact Nat.ne_of_gt (blk_lt (g := gb128) (o := .cells #[.int .i64 a0_0,.bool a0_1,.int .i64 a0_2,.string a0_3] 149 (0,0)) (by (with_reducible repeat (first | refine blk_drewN ?_ _ | refine blk_drew ?_ | refine blk_alloc ?_ _));exact BK128.out)) : gb129 ≠ gb128));clear BK128;clear HB;have BK128 := n0_;have HB := n1_;have BK129 := n2_;have GW129 := n3_;have GE129 := n4_;have NB128_129 := n5_;have NB129_128 := n6_;clear n0_ n1_ n2_ n3_ n4_ n5_ n6_;clear hb hbox hg;have hnb12 := NB128_129.out;have hnc12 := NB129_128.out;have hcz13_0 : w11.cell? ⟨gb128,0,none⟩ = some (.int .i64 a0_0) := (blk_cell BK128.out 0).trans rfl;have hcz13_1 : w11.cell? ⟨gb128,1,none⟩ = some (.bool a0_1) := (blk_cell BK128.out 1).trans rfl;have hcz13_2 : w11.cell? ⟨gb128,2,none⟩ = some (.int .i64 a0_2) := (blk_cell BK128.out 2).trans rfl;have hcz13_3 : w11.cell? ⟨gb128,3,none⟩ = some (.string a0_3) := (blk_cell BK128.out 3).trans rfl;have hfz13_0 := blk_frozen BK128.out 0;have hfz13_1 := blk_frozen BK128.out 1;have hfz13_2 := blk_frozen BK128.out 2;have hfz13_3 := blk_frozen BK128.out 3;have hcz14_0 : w11.cell? ⟨gb129,0,none⟩ = some (.int .i64 a1_0) := (blk_cell BK129.out 0).trans rfl;have hcz14_1 : w11.cell? ⟨gb129,1,none⟩ = some (.bool a1_1) := (blk_cell BK129.out 1).trans rfl;have hcz14_2 : w11.cell? ⟨gb129,2,none⟩ = some (.int .i64 a1_2) := (blk_cell BK129.out 2).trans rfl;have hcz14_3 : w11.cell? ⟨gb129,3,none⟩ = some (.string a1_3) := (blk_cell BK129.out 3).trans rfl;have hfz14_0 := blk_frozen BK129.out 0;have hfz14_1 := blk_frozen BK129.out 1;have hfz14_2 := blk_frozen BK129.out 2;have hfz14_3 := blk_frozen BK129.out 3))
      go_ret
      exact ⟨by first | rfl | (simp [errW_none,errW_some] <;> rfl) | (simp [*,errW_none,errW_some] <;> rfl),by repeat (first | (with_reducible first | exact HB.out | apply below_alloc | apply pw_below_drewN | apply below_drew1 | refine below_set ?_ GE128.out | refine below_set ?_ GE129.out) | exact HB.out)⟩
    · rw [if_neg c9] at H
      have c9b0 : decide (a1_0 < a0_0) = false := decide_eq_false c9
      clear c9
      by_cases c15 : a0_0 = 1
      · rw [if_pos c15] at H
        have c15b0 : (a0_0 == 1) = true := beq_iff_eq.mpr c15
        have c15b1 : (a0_0 != 1) = false := bne_eq_false_iff_eq.mpr c15
        clear c15
        by_cases c16 : (a0_1 == a1_1) = true
        · rw [if_pos c16] at H
          have c16b0 : (a0_1 == a1_1) = true := c16
          (try (have c16b1 : decide (a0_1 = a1_1) = true := by simpa using c16))
          (try (have c16b2 : (a0_1 == a1_1) = true := by simpa using c16))
          clear c16
          obtain rfl := Option.some.inj H
          go_enter Try.func120,Try.ntmps120
          go_wp2_with (first | ((with_reducible refine gate_dst (N := 2) rfl ?_);refine box_event ?hg (N := 2) ?hd (cs := #[.int .i64 a0_0,.bool a0_1,.int .i64 a0_2,.string a0_3]) (t := 149) ?hr ?_;(case hd => rfl);(case hg => rfl);(case hr => first | (go_simp;done) | (go_simp;rfl));intro gb128 hg w17 hbox hb;have n0_ := Aside0.mk (below_step (by repeat (first | (with_reducible first | exact HB.out | apply below_alloc | apply pw_below_drewN | apply below_drew1) | exact HB.out)) hb);have n1_ := Aside0.mk (hbox);have n2_ := Aside0.mk ((by rw [hg];exact (below_size (by repeat (first | (with_reducible first | exact HB.out | apply below_alloc | apply pw_below_drewN | apply below_drew1) | exact HB.out))) : w.heap.size ≤ gb128));have n3_ := Aside0.mk ((by rw [hg];exact (below_size (by repeat (first | (with_reducible first | exact HB.out | apply below_alloc | apply pw_below_drewN | apply below_drew1) | exact HB.out))) : w.heap.size ≤ gb128));clear HB;have HB := n0_;have BK128 := n1_;have GW128 := n2_;have GE128 := n3_;clear n0_ n1_ n2_ n3_;clear hb hbox hg) | ((with_reducible refine gate_dst (N := 3) rfl ?_);refine box_event ?hg (N := 3) ?hd (cs := #[.int .i64 a1_0,.bool a1_1,.int .i64 a1_2,.string a1_3]) (t := 149) ?hr ?_;(case hd => rfl);(case hg => rfl);(case hr => first | (go_simp;done) | (go_simp;rfl));intro gb129 hg w18 hbox hb;have n0_ := Aside0.mk (blk_below (g := gb128) (o := .cells #[.int .i64 a0_0,.bool a0_1,.int .i64 a0_2,.string a0_3] 149 (0,0)) (by (with_reducible repeat (first | refine blk_drewN ?_ _ | refine blk_drew ?_ | refine blk_alloc ?_ _));exact BK128.out) hb);have n1_ := Aside0.mk (below_step (by repeat (first | (with_reducible first | exact HB.out | apply below_alloc | apply pw_below_drewN | apply below_drew1 | refine below_set ?_ GE128.out) | exact HB.out)) hb);have n2_ := Aside0.mk (hbox);have n3_ := Aside0.mk ((by rw [hg];exact (below_size (by repeat (first | (with_reducible first | exact HB.out | apply below_alloc | apply pw_below_drewN | apply below_drew1 | refine below_set ?_ GE128.out) | exact HB.out))) : w.heap.size ≤ gb129));have n4_ := Aside0.mk ((by rw [hg];exact (below_size (by repeat (first | (with_reducible first | exact HB.out | apply below_alloc | apply pw_below_drewN | apply below_drew1 | refine below_set ?_ GE128.out) | exact HB.out))) : w.heap.size ≤ gb129));have n5_ := Aside0.mk ((by rw [hg];exact Nat.ne_of_lt (blk_lt (g := gb128) (o := .cells #[.int .i64 a0_0,.bool a0_1,.int .i64 a0_2,.string a0_3] 149 (0,0)) (by (with_reducible repeat (first | refine blk_drewN ?_ _ | refine blk_drew ?_ | refine blk_alloc ?_ _));exact BK128.out)) : gb128 ≠ gb129));have n6_ := Aside0.mk ((by rw [hg];exact Nat.ne_of_gt (blk_lt (g := gb128) (o := .cells #[.int .i64 a0_0,.bool a0_1,.int .i64 a0_2,.string a0_3] 149 (0,0)) (by (with_reducible repeat (first | refine blk_drewN ?_ _ | refine blk_drew ?_ | refine blk_alloc ?_ _));exact BK128.out)) : gb129 ≠ gb128));clear BK128;clear HB;have BK128 := n0_;have HB := n1_;have BK129 := n2_;have GW129 := n3_;have GE129 := n4_;have NB128_129 := n5_;have NB129_128 := n6_;clear n0_ n1_ n2_ n3_ n4_ n5_ n6_;clear hb hbox hg;have hnb19 := NB128_129.out;have hnc19 := NB129_128.out;have hcz20_0 : w18.cell? ⟨gb128,0,none⟩ = some (.int .i64 a0_0) := (blk_cell BK128.out 0).trans rfl;have hcz20_1 : w18.cell? ⟨gb128,1,none⟩ = some (.bool a0_1) := (blk_cell BK128.out 1).trans rfl;have hcz20_2 : w18.cell? ⟨gb128,2,none⟩ = some (.int .i64 a0_2) := (blk_cell BK128.out 2).trans rfl;have hcz20_3 : w18.cell? ⟨gb128,3,none⟩ = some (.string a0_3) := (blk_cell BK128.out 3).trans rfl;have hfz20_0 := blk_frozen BK128.out 0;have hfz20_1 := blk_frozen BK128.out 1;have hfz20_2 := blk_frozen BK128.out 2;have hfz20_3 := blk_frozen BK128.out 3;have hcz21_0 : w18.cell? ⟨gb129,0,none⟩ = some (.int .i64 a1_0) := (blk_cell BK129.out 0).trans rfl;have hcz21_1 : w18.cell? ⟨gb129,1,none⟩ = some (.bool a1_1) := (blk_cell BK129.out 1).trans rfl;have hcz21_2 : w18.cell? ⟨gb129,2,none⟩ = some (.int .i64 a1_2) := (blk_cell BK129.out 2).trans rfl;have hcz21_3 : w18.cell? ⟨gb129,3,none⟩ = some (.string a1_3) := (blk_cell BK129.out 3).trans rfl;have hfz21_0 := blk_frozen BK129.out 0;have hfz21_1 := blk_frozen BK129.out 1;have hfz21_2 := blk_frozen BK129.out 2;have hfz21_3 := blk_frozen BK129.out 3))
          go_ret
          exact ⟨by first | rfl | (simp [errW_none,errW_some] <;> rfl) | (simp [*,errW_none,errW_some] <;> rfl),by repeat (first | (with_reducible first | exact HB.out | apply below_alloc | apply pw_below_drewN | apply below_drew1 | refine below_set ?_ GE128.out | refine below_set ?_ GE129.out) | exact HB.out)⟩
        · rw [if_neg c16] at H
          have c16b0 : (a0_1 == a1_1) = false := by simpa using c16
          (try (have c16b1 : decide (a0_1 = a1_1) = false := by simpa using c16))
          (try (have c16b2 : (a0_1 == a1_1) = false := by simpa using c16))
          (try (have c16b3 : ¬ (a0_1 = a1_1) := by simpa using c16))
          clear c16
          by_cases c22 : a1_1 = true
          · subst c22
            have H1 : (some (-1)) = some r := by rw [if_pos rfl] at H;exact H
            clear H
            have H := H1
            clear H1
            obtain rfl := Option.some.inj H
            go_enter Try.func120,Try.ntmps120
            go_wp2_with (first | ((with_reducible refine gate_dst (N := 2) rfl ?_);refine box_event ?hg (N := 2) ?hd (cs := #[.int .i64 a0_0,.bool a0_1,.int .i64 a0_2,.string a0_3]) (t := 149) ?hr ?_;(case hd => rfl);(case hg => rfl);(case hr => first | (go_simp;done) | (go_simp;rfl));intro gb128 hg w23 hbox hb;have n0_ := Aside0.mk (below_step (by repeat (first | (with_reducible first | exact HB.out | apply below_alloc | apply pw_below_drewN | apply below_drew1) | exact HB.out)) hb);have n1_ := Aside0.mk (hbox);have n2_ := Aside0.mk ((by rw [hg];exact (below_size (by repeat (first | (with_reducible first | exact HB.out | apply below_alloc | apply pw_below_drewN | apply below_drew1) | exact HB.out))) : w.heap.size ≤ gb128));have n3_ := Aside0.mk ((by rw [hg];exact (below_size (by repeat (first | (with_reducible first | exact HB.out | apply below_alloc | apply pw_below_drewN | apply below_drew1) | exact HB.out))) : w.heap.size ≤ gb128));clear HB;have HB := n0_;have BK128 := n1_;have GW128 := n2_;have GE128 := n3_;clear n0_ n1_ n2_ n3_;clear hb hbox hg) | ((with_reducible refine gate_dst (N := 3) rfl ?_);refine box_event ?hg (N := 3) ?hd (cs := #[.int .i64 a1_0,.bool true,.int .i64 a1_2,.string a1_3]) (t := 149) ?hr ?_;(case hd => rfl);(case hg => rfl);(case hr => first | (go_simp;done) | (go_simp;rfl));intro gb129 hg w24 hbox hb;have n0_ := Aside0.mk (blk_below (g := gb128) (o := .cells #[.int .i64 a0_0,.bool a0_1,.int .i64 a0_2,.string a0_3] 149 (0,0)) (by (with_reducible repeat (first | refine blk_drewN ?_ _ | refine blk_drew ?_ | refine blk_alloc ?_ _));exact BK128.out) hb);have n1_ := Aside0.mk (below_step (by repeat (first | (with_reducible first | exact HB.out | apply below_alloc | apply pw_below_drewN | apply below_drew1 | refine below_set ?_ GE128.out) | exact HB.out)) hb);have n2_ := Aside0.mk (hbox);have n3_ := Aside0.mk ((by rw [hg];exact (below_size (by repeat (first | (with_reducible first | exact HB.out | apply below_alloc | apply pw_below_drewN | apply below_drew1 | refine below_set ?_ GE128.out) | exact HB.out))) : w.heap.size ≤ gb129));have n4_ := Aside0.mk ((by rw [hg];exact (below_size (by repeat (first | (with_reducible first | exact HB.out | apply below_alloc | apply pw_below_drewN | apply below_drew1 | refine below_set ?_ GE128.out) | exact HB.out))) : w.heap.size ≤ gb129));have n5_ := Aside0.mk ((by rw [hg];exact Nat.ne_of_lt (blk_lt (g := gb128) (o := .cells #[.int .i64 a0_0,.bool a0_1,.int .i64 a0_2,.string a0_3] 149 (0,0)) (by (with_reducible repeat (first | refine blk_drewN ?_ _ | refine blk_drew ?_ | refine blk_alloc ?_ _));exact BK128.out)) : gb128 ≠ gb129));have n6_ := Aside0.mk ((by rw [hg];exact Nat.ne_of_gt (blk_lt (g := gb128) (o := .cells #[.int .i64 a0_0,.bool a0_1,.int .i64 a0_2,.string a0_3] 149 (0,0)) (by (with_reducible repeat (first | refine blk_drewN ?_ _ | refine blk_drew ?_ | refine blk_alloc ?_ _));exact BK128.out)) : gb129 ≠ gb128));clear BK128;clear HB;have BK128 := n0_;have HB := n1_;have BK129 := n2_;have GW129 := n3_;have GE129 := n4_;have NB128_129 := n5_;have NB129_128 := n6_;clear n0_ n1_ n2_ n3_ n4_ n5_ n6_;clear hb hbox hg;have hnb25 := NB128_129.out;have hnc25 := NB129_128.out;have hcz26_0 : w24.cell? ⟨gb128,0,none⟩ = some (.int .i64 a0_0) := (blk_cell BK128.out 0).trans rfl;have hcz26_1 : w24.cell? ⟨gb128,1,none⟩ = some (.bool a0_1) := (blk_cell BK128.out 1).trans rfl;have hcz26_2 : w24.cell? ⟨gb128,2,none⟩ = some (.int .i64 a0_2) := (blk_cell BK128.out 2).trans rfl;have hcz26_3 : w24.cell? ⟨gb128,3,none⟩ = some (.string a0_3) := (blk_cell BK128.out 3).trans rfl;have hfz26_0 := blk_frozen BK128.out 0;have hfz26_1 := blk_frozen BK128.out 1;have hfz26_2 := blk_frozen BK128.out 2;have hfz26_3 := blk_frozen BK128.out 3;have hcz27_0 : w24.cell? ⟨gb129,0,none⟩ = some (.int .i64 a1_0) := (blk_cell BK129.out 0).trans rfl;have hcz27_1 : w24.cell? ⟨gb129,1,none⟩ = some (.bool true) := (blk_cell BK129.out 1).trans rfl;have hcz27_2 : w24.cell? ⟨gb129,2,none⟩ = some (.int .i64 a1_2) := (blk_cell BK129.out 2).trans rfl;have hcz27_3 : w24.cell? ⟨gb129,3,none⟩ = some (.string a1_3) := (blk_cell BK129.out 3).trans rfl;have hfz27_0 := blk_frozen BK129.out 0;have hfz27_1 := blk_frozen BK129.out 1;have hfz27_2 := blk_frozen BK129.out 2;have hfz27_3 := blk_frozen BK129.out 3))
            go_ret
            exact ⟨by first | rfl | (simp [errW_none,errW_some] <;> rfl) | (simp [*,errW_none,errW_some] <;> rfl),by repeat (first | (with_reducible first | exact HB.out | apply below_alloc | apply pw_below_drewN | apply below_drew1 | refine below_set ?_ GE128.out | refine below_set ?_ GE129.out) | exact HB.out)⟩
          · replace c22 := Bool.eq_false_iff.mpr c22
            subst c22
            have H1 : (some 1) = some r := by rw [if_neg (show ¬ (false = true) by decide)] at H;exact H
            clear H
            have H := H1
            clear H1
            obtain rfl := Option.some.inj H
            go_enter Try.func120,Try.ntmps120
            go_wp2_with (first | ((with_reducible refine gate_dst (N := 2) rfl ?_);refine box_event ?hg (N := 2) ?hd (cs := #[.int .i64 a0_0,.bool a0_1,.int .i64 a0_2,.string a0_3]) (t := 149) ?hr ?_;(case hd => rfl);(case hg => rfl);(case hr => first | (go_simp;done) | (go_simp;rfl));intro gb128 hg w28 hbox hb;have n0_ := Aside0.mk (below_step (by repeat (first | (with_reducible first | exact HB.out | apply below_alloc | apply pw_below_drewN | apply below_drew1) | exact HB.out)) hb);have n1_ := Aside0.mk (hbox);have n2_ := Aside0.mk ((by rw [hg];exact (below_size (by repeat (first | (with_reducible first | exact HB.out | apply below_alloc | apply pw_below_drewN | apply below_drew1) | exact HB.out))) : w.heap.size ≤ gb128));have n3_ := Aside0.mk ((by rw [hg];exact (below_size (by repeat (first | (with_reducible first | exact HB.out | apply below_alloc | apply pw_below_drewN | apply below_drew1) | exact HB.out))) : w.heap.size ≤ gb128));clear HB;have HB := n0_;have BK128 := n1_;have GW128 := n2_;have GE128 := n3_;clear n0_ n1_ n2_ n3_;clear hb hbox hg) | ((with_reducible refine gate_dst (N := 3) rfl ?_);refine box_event ?hg (N := 3) ?hd (cs := #[.int .i64 a1_0,.bool false,.int .i64 a1_2,.string a1_3]) (t := 149) ?hr ?_;(case hd => rfl);(case hg => rfl);(case hr => first | (go_simp;done) | (go_simp;rfl));intro gb129 hg w29 hbox hb;have n0_ := Aside0.mk (blk_below (g := gb128) (o := .cells #[.int .i64 a0_0,.bool a0_1,.int .i64 a0_2,.string a0_3] 149 (0,0)) (by (with_reducible repeat (first | refine blk_drewN ?_ _ | refine blk_drew ?_ | refine blk_alloc ?_ _));exact BK128.out) hb);have n1_ := Aside0.mk (below_step (by repeat (first | (with_reducible first | exact HB.out | apply below_alloc | apply pw_below_drewN | apply below_drew1 | refine below_set ?_ GE128.out) | exact HB.out)) hb);have n2_ := Aside0.mk (hbox);have n3_ := Aside0.mk ((by rw [hg];exact (below_size (by repeat (first | (with_reducible first | exact HB.out | apply below_alloc | apply pw_below_drewN | apply below_drew1 | refine below_set ?_ GE128.out) | exact HB.out))) : w.heap.size ≤ gb129));have n4_ := Aside0.mk ((by rw [hg];exact (below_size (by repeat (first | (with_reducible first | exact HB.out | apply below_alloc | apply pw_below_drewN | apply below_drew1 | refine below_set ?_ GE128.out) | exact HB.out))) : w.heap.size ≤ gb129));have n5_ := Aside0.mk ((by rw [hg];exact Nat.ne_of_lt (blk_lt (g := gb128) (o := .cells #[.int .i64 a0_0,.bool a0_1,.int .i64 a0_2,.string a0_3] 149 (0,0)) (by (with_reducible repeat (first | refine blk_drewN ?_ _ | refine blk_drew ?_ | refine blk_alloc ?_ _));exact BK128.out)) : gb128 ≠ gb129));have n6_ := Aside0.mk ((by rw [hg];exact Nat.ne_of_gt (blk_lt (g := gb128) (o := .cells #[.int .i64 a0_0,.bool a0_1,.int .i64 a0_2,.string a0_3] 149 (0,0)) (by (with_reducible repeat (first | refine blk_drewN ?_ _ | refine blk_drew ?_ | refine blk_alloc ?_ _));exact BK128.out)) : gb129 ≠ gb128));clear BK128;clear HB;have BK128 := n0_;have HB := n1_;have BK129 := n2_;have GW129 := n3_;have GE129 := n4_;have NB128_129 := n5_;have NB129_128 := n6_;clear n0_ n1_ n2_ n3_ n4_ n5_ n6_;clear hb hbox hg;have hnb30 := NB128_129.out;have hnc30 := NB129_128.out;have hcz31_0 : w29.cell? ⟨gb128,0,none⟩ = some (.int .i64 a0_0) := (blk_cell BK128.out 0).trans rfl;have hcz31_1 : w29.cell? ⟨gb128,1,none⟩ = some (.bool a0_1) := (blk_cell BK128.out 1).trans rfl;have hcz31_2 : w29.cell? ⟨gb128,2,none⟩ = some (.int .i64 a0_2) := (blk_cell BK128.out 2).trans rfl;have hcz31_3 : w29.cell? ⟨gb128,3,none⟩ = some (.string a0_3) := (blk_cell BK128.out 3).trans rfl;have hfz31_0 := blk_frozen BK128.out 0;have hfz31_1 := blk_frozen BK128.out 1;have hfz31_2 := blk_frozen BK128.out 2;have hfz31_3 := blk_frozen BK128.out 3;have hcz32_0 : w29.cell? ⟨gb129,0,none⟩ = some (.int .i64 a1_0) := (blk_cell BK129.out 0).trans rfl;have hcz32_1 : w29.cell? ⟨gb129,1,none⟩ = some (.bool false) := (blk_cell BK129.out 1).trans rfl;have hcz32_2 : w29.cell? ⟨gb129,2,none⟩ = some (.int .i64 a1_2) := (blk_cell BK129.out 2).trans rfl;have hcz32_3 : w29.cell? ⟨gb129,3,none⟩ = some (.string a1_3) := (blk_cell BK129.out 3).trans rfl;have hfz32_0 := blk_frozen BK129.out 0;have hfz32_1 := blk_frozen BK129.out 1;have hfz32_2 := blk_frozen BK129.out 2;have hfz32_3 := blk_frozen BK129.out 3))
            go_ret
            exact ⟨by first | rfl | (simp [errW_none,errW_some] <;> rfl) | (simp [*,errW_none,errW_some] <;> rfl),by repeat (first | (with_reducible first | exact HB.out | apply below_alloc | apply pw_below_drewN | apply below_drew1 | refine below_set ?_ GE128.out | refine below_set ?_ GE129.out) | exact HB.out)⟩
      · rw [if_neg c15] at H
        have c15b0 : (a0_0 == 1) = false := beq_eq_false_iff_ne.mpr c15
        have c15b1 : (a0_0 != 1) = true := bne_iff_ne.mpr c15
        by_cases c33 : a0_0 = 2
        · rw [if_pos c33] at H
          have c33b0 : (a0_0 == 2) = true := beq_iff_eq.mpr c33
          have c33b1 : (a0_0 != 2) = false := bne_eq_false_iff_eq.mpr c33
          clear c33
          by_cases c34 : a0_2 < a1_2
          · rw [if_pos c34] at H
            have c34b0 : decide (a0_2 < a1_2) = true := decide_eq_true c34
            clear c34
            obtain rfl := Option.some.inj H
            go_enter Try.func120,Try.ntmps120
            go_wp2_with (first | ((with_reducible refine gate_dst (N := 2) rfl ?_);refine box_event ?hg (N := 2) ?hd (cs := #[.int .i64 a0_0,.bool a0_1,.int .i64 a0_2,.string a0_3]) (t := 149) ?hr ?_;(case hd => rfl);(case hg => rfl);(case hr => first | (go_simp;done) | (go_simp;rfl));intro gb128 hg w35 hbox hb;have n0_ := Aside0.mk (below_step (by repeat (first | (with_reducible first | exact HB.out | apply below_alloc | apply pw_below_drewN | apply below_drew1) | exact HB.out)) hb);have n1_ := Aside0.mk (hbox);have n2_ := Aside0.mk ((by rw [hg];exact (below_size (by repeat (first | (with_reducible first | exact HB.out | apply below_alloc | apply pw_below_drewN | apply below_drew1) | exact HB.out))) : w.heap.size ≤ gb128));have n3_ := Aside0.mk ((by rw [hg];exact (below_size (by repeat (first | (with_reducible first | exact HB.out | apply below_alloc | apply pw_below_drewN | apply below_drew1) | exact HB.out))) : w.heap.size ≤ gb128));clear HB;have HB := n0_;have BK128 := n1_;have GW128 := n2_;have GE128 := n3_;clear n0_ n1_ n2_ n3_;clear hb hbox hg) | ((with_reducible refine gate_dst (N := 3) rfl ?_);refine box_event ?hg (N := 3) ?hd (cs := #[.int .i64 a1_0,.bool a1_1,.int .i64 a1_2,.string a1_3]) (t := 149) ?hr ?_;(case hd => rfl);(case hg => rfl);(case hr => first | (go_simp;done) | (go_simp;rfl));intro gb129 hg w36 hbox hb;have n0_ := Aside0.mk (blk_below (g := gb128) (o := .cells #[.int .i64 a0_0,.bool a0_1,.int .i64 a0_2,.string a0_3] 149 (0,0)) (by (with_reducible repeat (first | refine blk_drewN ?_ _ | refine blk_drew ?_ | refine blk_alloc ?_ _));exact BK128.out) hb);have n1_ := Aside0.mk (below_step (by repeat (first | (with_reducible first | exact HB.out | apply below_alloc | apply pw_below_drewN | apply below_drew1 | refine below_set ?_ GE128.out) | exact HB.out)) hb);have n2_ := Aside0.mk (hbox);have n3_ := Aside0.mk ((by rw [hg];exact (below_size (by repeat (first | (with_reducible first | exact HB.out | apply below_alloc | apply pw_below_drewN | apply below_drew1 | refine below_set ?_ GE128.out) | exact HB.out))) : w.heap.size ≤ gb129));have n4_ := Aside0.mk ((by rw [hg];exact (below_size (by repeat (first | (with_reducible first | exact HB.out | apply below_alloc | apply pw_below_drewN | apply below_drew1 | refine below_set ?_ GE128.out) | exact HB.out))) : w.heap.size ≤ gb129));have n5_ := Aside0.mk ((by rw [hg];exact Nat.ne_of_lt (blk_lt (g := gb128) (o := .cells #[.int .i64 a0_0,.bool a0_1,.int .i64 a0_2,.string a0_3] 149 (0,0)) (by (with_reducible repeat (first | refine blk_drewN ?_ _ | refine blk_drew ?_ | refine blk_alloc ?_ _));exact BK128.out)) : gb128 ≠ gb129));have n6_ := Aside0.mk ((by rw [hg];exact Nat.ne_of_gt (blk_lt (g := gb128) (o := .cells #[.int .i64 a0_0,.bool a0_1,.int .i64 a0_2,.string a0_3] 149 (0,0)) (by (with_reducible repeat (first | refine blk_drewN ?_ _ | refine blk_drew ?_ | refine blk_alloc ?_ _));exact BK128.out)) : gb129 ≠ gb128));clear BK128;clear HB;have BK128 := n0_;have HB := n1_;have BK129 := n2_;have GW129 := n3_;have GE129 := n4_;have NB128_129 := n5_;have NB129_128 := n6_;clear n0_ n1_ n2_ n3_ n4_ n5_ n6_;clear hb hbox hg;have hnb37 := NB128_129.out;have hnc37 := NB129_128.out;have hcz38_0 : w36.cell? ⟨gb128,0,none⟩ = some (.int .i64 a0_0) := (blk_cell BK128.out 0).trans rfl;have hcz38_1 : w36.cell? ⟨gb128,1,none⟩ = some (.bool a0_1) := (blk_cell BK128.out 1).trans rfl;have hcz38_2 : w36.cell? ⟨gb128,2,none⟩ = some (.int .i64 a0_2) := (blk_cell BK128.out 2).trans rfl;have hcz38_3 : w36.cell? ⟨gb128,3,none⟩ = some (.string a0_3) := (blk_cell BK128.out 3).trans rfl;have hfz38_0 := blk_frozen BK128.out 0;have hfz38_1 := blk_frozen BK128.out 1;have hfz38_2 := blk_frozen BK128.out 2;have hfz38_3 := blk_frozen BK128.out 3;have hcz39_0 : w36.cell? ⟨gb129,0,none⟩ = some (.int .i64 a1_0) := (blk_cell BK129.out 0).trans rfl;have hcz39_1 : w36.cell? ⟨gb129,1,none⟩ = some (.bool a1_1) := (blk_cell BK129.out 1).trans rfl;have hcz39_2 : w36.cell? ⟨gb129,2,none⟩ = some (.int .i64 a1_2) := (blk_cell BK129.out 2).trans rfl;have hcz39_3 : w36.cell? ⟨gb129,3,none⟩ = some (.string a1_3) := (blk_cell BK129.out 3).trans rfl;have hfz39_0 := blk_frozen BK129.out 0;have hfz39_1 := blk_frozen BK129.out 1;have hfz39_2 := blk_frozen BK129.out 2;have hfz39_3 := blk_frozen BK129.out 3))
            go_ret
            exact ⟨by first | rfl | (simp [errW_none,errW_some] <;> rfl) | (simp [*,errW_none,errW_some] <;> rfl),by repeat (first | (with_reducible first | exact HB.out | apply below_alloc | apply pw_below_drewN | apply below_drew1 | refine below_set ?_ GE128.out | refine below_set ?_ GE129.out) | exact HB.out)⟩
          · rw [if_neg c34] at H
            have c34b0 : decide (a0_2 < a1_2) = false := decide_eq_false c34
            clear c34
            by_cases c40 : a0_2 > a1_2
            · rw [if_pos c40] at H
              have c40b0 : decide (a1_2 < a0_2) = true := decide_eq_true c40
              clear c40
              obtain rfl := Option.some.inj H
              go_enter Try.func120,Try.ntmps120
              go_wp2_with (first | ((with_reducible refine gate_dst (N := 2) rfl ?_);refine box_event ?hg (N := 2) ?hd (cs := #[.int .i64 a0_0,.bool a0_1,.int .i64 a0_2,.string a0_3]) (t := 149) ?hr ?_;(case hd => rfl);(case hg => rfl);(case hr => first | (go_simp;done) | (go_simp;rfl));intro gb128 hg w41 hbox hb;have n0_ := Aside0.mk (below_step (by repeat (first | (with_reducible first | exact HB.out | apply below_alloc | apply pw_below_drewN | apply below_drew1) | exact HB.out)) hb);have n1_ := Aside0.mk (hbox);have n2_ := Aside0.mk ((by rw [hg];exact (below_size (by repeat (first | (with_reducible first | exact HB.out | apply below_alloc | apply pw_below_drewN | apply below_drew1) | exact HB.out))) : w.heap.size ≤ gb128));have n3_ := Aside0.mk ((by rw [hg];exact (below_size (by repeat (first | (with_reducible first | exact HB.out | apply below_alloc | apply pw_below_drewN | apply below_drew1) | exact HB.out))) : w.heap.size ≤ gb128));clear HB;have HB := n0_;have BK128 := n1_;have GW128 := n2_;have GE128 := n3_;clear n0_ n1_ n2_ n3_;clear hb hbox hg) | ((with_reducible refine gate_dst (N := 3) rfl ?_);refine box_event ?hg (N := 3) ?hd (cs := #[.int .i64 a1_0,.bool a1_1,.int .i64 a1_2,.string a1_3]) (t := 149) ?hr ?_;(case hd => rfl);(case hg => rfl);(case hr => first | (go_simp;done) | (go_simp;rfl));intro gb129 hg w42 hbox hb;have n0_ := Aside0.mk (blk_below (g := gb128) (o := .cells #[.int .i64 a0_0,.bool a0_1,.int .i64 a0_2,.string a0_3] 149 (0,0)) (by (with_reducible repeat (first | refine blk_drewN ?_ _ | refine blk_drew ?_ | refine blk_alloc ?_ _));exact BK128.out) hb);have n1_ := Aside0.mk (below_step (by repeat (first | (with_reducible first | exact HB.out | apply below_alloc | apply pw_below_drewN | apply below_drew1 | refine below_set ?_ GE128.out) | exact HB.out)) hb);have n2_ := Aside0.mk (hbox);have n3_ := Aside0.mk ((by rw [hg];exact (below_size (by repeat (first | (with_reducible first | exact HB.out | apply below_alloc | apply pw_below_drewN | apply below_drew1 | refine below_set ?_ GE128.out) | exact HB.out))) : w.heap.size ≤ gb129));have n4_ := Aside0.mk ((by rw [hg];exact (below_size (by repeat (first | (with_reducible first | exact HB.out | apply below_alloc | apply pw_below_drewN | apply below_drew1 | refine below_set ?_ GE128.out) | exact HB.out))) : w.heap.size ≤ gb129));have n5_ := Aside0.mk ((by rw [hg];exact Nat.ne_of_lt (blk_lt (g := gb128) (o := .cells #[.int .i64 a0_0,.bool a0_1,.int .i64 a0_2,.string a0_3] 149 (0,0)) (by (with_reducible repeat (first | refine blk_drewN ?_ _ | refine blk_drew ?_ | refine blk_alloc ?_ _));exact BK128.out)) : gb128 ≠ gb129));have n6_ := Aside0.mk ((by rw [hg];exact Nat.ne_of_gt (blk_lt (g := gb128) (o := .cells #[.int .i64 a0_0,.bool a0_1,.int .i64 a0_2,.string a0_3] 149 (0,0)) (by (with_reducible repeat (first | refine blk_drewN ?_ _ | refine blk_drew ?_ | refine blk_alloc ?_ _));exact BK128.out)) : gb129 ≠ gb128));clear BK128;clear HB;have BK128 := n0_;have HB := n1_;have BK129 := n2_;have GW129 := n3_;have GE129 := n4_;have NB128_129 := n5_;have NB129_128 := n6_;clear n0_ n1_ n2_ n3_ n4_ n5_ n6_;clear hb hbox hg;have hnb43 := NB128_129.out;have hnc43 := NB129_128.out;have hcz44_0 : w42.cell? ⟨gb128,0,none⟩ = some (.int .i64 a0_0) := (blk_cell BK128.out 0).trans rfl;have hcz44_1 : w42.cell? ⟨gb128,1,none⟩ = some (.bool a0_1) := (blk_cell BK128.out 1).trans rfl;have hcz44_2 : w42.cell? ⟨gb128,2,none⟩ = some (.int .i64 a0_2) := (blk_cell BK128.out 2).trans rfl;have hcz44_3 : w42.cell? ⟨gb128,3,none⟩ = some (.string a0_3) := (blk_cell BK128.out 3).trans rfl;have hfz44_0 := blk_frozen BK128.out 0;have hfz44_1 := blk_frozen BK128.out 1;have hfz44_2 := blk_frozen BK128.out 2;have hfz44_3 := blk_frozen BK128.out 3;have hcz45_0 : w42.cell? ⟨gb129,0,none⟩ = some (.int .i64 a1_0) := (blk_cell BK129.out 0).trans rfl;have hcz45_1 : w42.cell? ⟨gb129,1,none⟩ = some (.bool a1_1) := (blk_cell BK129.out 1).trans rfl;have hcz45_2 : w42.cell? ⟨gb129,2,none⟩ = some (.int .i64 a1_2) := (blk_cell BK129.out 2).trans rfl;have hcz45_3 : w42.cell? ⟨gb129,3,none⟩ = some (.string a1_3) := (blk_cell BK129.out 3).trans rfl;have hfz45_0 := blk_frozen BK129.out 0;have hfz45_1 := blk_frozen BK129.out 1;have hfz45_2 := blk_frozen BK129.out 2;have hfz45_3 := blk_frozen BK129.out 3))
              go_ret
              exact ⟨by first | rfl | (simp [errW_none,errW_some] <;> rfl) | (simp [*,errW_none,errW_some] <;> rfl),by repeat (first | (with_reducible first | exact HB.out | apply below_alloc | apply pw_below_drewN | apply below_drew1 | refine below_set ?_ GE128.out | refine below_set ?_ GE129.out) | exact HB.out)⟩
            · rw [if_neg c40] at H
              have c40b0 : decide (a1_2 < a0_2) = false := decide_eq_false c40
              clear c40
              obtain rfl := Option.some.inj H
              go_enter Try.func120,Try.ntmps120
              go_wp2_with (first | ((with_reducible refine gate_dst (N := 2) rfl ?_);refine box_event ?hg (N := 2) ?hd (cs := #[.int .i64 a0_0,.bool a0_1,.int .i64 a0_2,.string a0_3]) (t := 149) ?hr ?_;(case hd => rfl);(case hg => rfl);(case hr => first | (go_simp;done) | (go_simp;rfl));intro gb128 hg w46 hbox hb;have n0_ := Aside0.mk (below_step (by repeat (first | (with_reducible first | exact HB.out | apply below_alloc | apply pw_below_drewN | apply below_drew1) | exact HB.out)) hb);have n1_ := Aside0.mk (hbox);have n2_ := Aside0.mk ((by rw [hg];exact (below_size (by repeat (first | (with_reducible first | exact HB.out | apply below_alloc | apply pw_below_drewN | apply below_drew1) | exact HB.out))) : w.heap.size ≤ gb128));have n3_ := Aside0.mk ((by rw [hg];exact (below_size (by repeat (first | (with_reducible first | exact HB.out | apply below_alloc | apply pw_below_drewN | apply below_drew1) | exact HB.out))) : w.heap.size ≤ gb128));clear HB;have HB := n0_;have BK128 := n1_;have GW128 := n2_;have GE128 := n3_;clear n0_ n1_ n2_ n3_;clear hb hbox hg) | ((with_reducible refine gate_dst (N := 3) rfl ?_);refine box_event ?hg (N := 3) ?hd (cs := #[.int .i64 a1_0,.bool a1_1,.int .i64 a1_2,.string a1_3]) (t := 149) ?hr ?_;(case hd => rfl);(case hg => rfl);(case hr => first | (go_simp;done) | (go_simp;rfl));intro gb129 hg w47 hbox hb;have n0_ := Aside0.mk (blk_below (g := gb128) (o := .cells #[.int .i64 a0_0,.bool a0_1,.int .i64 a0_2,.string a0_3] 149 (0,0)) (by (with_reducible repeat (first | refine blk_drewN ?_ _ | refine blk_drew ?_ | refine blk_alloc ?_ _));exact BK128.out) hb);have n1_ := Aside0.mk (below_step (by repeat (first | (with_reducible first | exact HB.out | apply below_alloc | apply pw_below_drewN | apply below_drew1 | refine below_set ?_ GE128.out) | exact HB.out)) hb);have n2_ := Aside0.mk (hbox);have n3_ := Aside0.mk ((by rw [hg];exact (below_size (by repeat (first | (with_reducible first | exact HB.out | apply below_alloc | apply pw_below_drewN | apply below_drew1 | refine below_set ?_ GE128.out) | exact HB.out))) : w.heap.size ≤ gb129));have n4_ := Aside0.mk ((by rw [hg];exact (below_size (by repeat (first | (with_reducible first | exact HB.out | apply below_alloc | apply pw_below_drewN | apply below_drew1 | refine below_set ?_ GE128.out) | exact HB.out))) : w.heap.size ≤ gb129));have n5_ := Aside0.mk ((by rw [hg];exact Nat.ne_of_lt (blk_lt (g := gb128) (o := .cells #[.int .i64 a0_0,.bool a0_1,.int .i64 a0_2,.string a0_3] 149 (0,0)) (by (with_reducible repeat (first | refine blk_drewN ?_ _ | refine blk_drew ?_ | refine blk_alloc ?_ _));exact BK128.out)) : gb128 ≠ gb129));have n6_ := Aside0.mk ((by rw [hg];exact Nat.ne_of_gt (blk_lt (g := gb128) (o := .cells #[.int .i64 a0_0,.bool a0_1,.int .i64 a0_2,.string a0_3] 149 (0,0)) (by (with_reducible repeat (first | refine blk_drewN ?_ _ | refine blk_drew ?_ | refine blk_alloc ?_ _));exact BK128.out)) : gb129 ≠ gb128));clear BK128;clear HB;have BK128 := n0_;have HB := n1_;have BK129 := n2_;have GW129 := n3_;have GE129 := n4_;have NB128_129 := n5_;have NB129_128 := n6_;clear n0_ n1_ n2_ n3_ n4_ n5_ n6_;clear hb hbox hg;have hnb48 := NB128_129.out;have hnc48 := NB129_128.out;have hcz49_0 : w47.cell? ⟨gb128,0,none⟩ = some (.int .i64 a0_0) := (blk_cell BK128.out 0).trans rfl;have hcz49_1 : w47.cell? ⟨gb128,1,none⟩ = some (.bool a0_1) := (blk_cell BK128.out 1).trans rfl;have hcz49_2 : w47.cell? ⟨gb128,2,none⟩ = some (.int .i64 a0_2) := (blk_cell BK128.out 2).trans rfl;have hcz49_3 : w47.cell? ⟨gb128,3,none⟩ = some (.string a0_3) := (blk_cell BK128.out 3).trans rfl;have hfz49_0 := blk_frozen BK128.out 0;have hfz49_1 := blk_frozen BK128.out 1;have hfz49_2 := blk_frozen BK128.out 2;have hfz49_3 := blk_frozen BK128.out 3;have hcz50_0 : w47.cell? ⟨gb129,0,none⟩ = some (.int .i64 a1_0) := (blk_cell BK129.out 0).trans rfl;have hcz50_1 : w47.cell? ⟨gb129,1,none⟩ = some (.bool a1_1) := (blk_cell BK129.out 1).trans rfl;have hcz50_2 : w47.cell? ⟨gb129,2,none⟩ = some (.int .i64 a1_2) := (blk_cell BK129.out 2).trans rfl;have hcz50_3 : w47.cell? ⟨gb129,3,none⟩ = some (.string a1_3) := (blk_cell BK129.out 3).trans rfl;have hfz50_0 := blk_frozen BK129.out 0;have hfz50_1 := blk_frozen BK129.out 1;have hfz50_2 := blk_frozen BK129.out 2;have hfz50_3 := blk_frozen BK129.out 3))
              go_ret
              exact ⟨by first | rfl | (simp [errW_none,errW_some] <;> rfl) | (simp [*,errW_none,errW_some] <;> rfl),by repeat (first | (with_reducible first | exact HB.out | apply below_alloc | apply pw_below_drewN | apply below_drew1 | refine below_set ?_ GE128.out | refine below_set ?_ GE129.out) | exact HB.out)⟩
        · rw [if_neg c33] at H
          have c33b0 : (a0_0 == 2) = false := beq_eq_false_iff_ne.mpr c33
          have c33b1 : (a0_0 != 2) = true := bne_iff_ne.mpr c33
          by_cases c51 : a0_0 = 3
          · rw [if_pos c51] at H
            have c51b0 : (a0_0 == 3) = true := beq_iff_eq.mpr c51
            have c51b1 : (a0_0 != 3) = false := bne_eq_false_iff_eq.mpr c51
            clear c51
            replace H := Option.bind_eq_some_iff.mp H
            obtain ⟨t130,A520,H⟩ := H
            replace H : (some t130) = some r := H
            have A52 := Aside0.mk A520
            clear A520
            obtain rfl := Option.some.inj H
            go_enter Try.func120,Try.ntmps120
            go_wp2_with (first | ((with_reducible refine gate_dst (N := 2) rfl ?_);refine box_event ?hg (N := 2) ?hd (cs := #[.int .i64 a0_0,.bool a0_1,.int .i64 a0_2,.string a0_3]) (t := 149) ?hr ?_;(case hd => rfl);(case hg => rfl);(case hr => first | (go_simp;done) | (go_simp;rfl));intro gb128 hg w53 hbox hb;have n0_ := Aside0.mk (below_step (by repeat (first | (with_reducible first | exact HB.out | apply below_alloc | apply pw_below_drewN | apply below_drew1) | exact HB.out)) hb);have n1_ := Aside0.mk (hbox);have n2_ := Aside0.mk ((by rw [hg];exact (below_size (by repeat (first | (with_reducible first | exact HB.out | apply below_alloc | apply pw_below_drewN | apply below_drew1) | exact HB.out))) : w.heap.size ≤ gb128));have n3_ := Aside0.mk ((by rw [hg];exact (below_size (by repeat (first | (with_reducible first | exact HB.out | apply below_alloc | apply pw_below_drewN | apply below_drew1) | exact HB.out))) : w.heap.size ≤ gb128));clear HB;have HB := n0_;have BK128 := n1_;have GW128 := n2_;have GE128 := n3_;clear n0_ n1_ n2_ n3_;clear hb hbox hg) | ((with_reducible refine gate_dst (N := 3) rfl ?_);refine box_event ?hg (N := 3) ?hd (cs := #[.int .i64 a1_0,.bool a1_1,.int .i64 a1_2,.string a1_3]) (t := 149) ?hr ?_;(case hd => rfl);(case hg => rfl);(case hr => first | (go_simp;done) | (go_simp;rfl));intro gb129 hg w54 hbox hb;have n0_ := Aside0.mk (blk_below (g := gb128) (o := .cells #[.int .i64 a0_0,.bool a0_1,.int .i64 a0_2,.string a0_3] 149 (0,0)) (by (with_reducible repeat (first | refine blk_drewN ?_ _ | refine blk_drew ?_ | refine blk_alloc ?_ _));exact BK128.out) hb);have n1_ := Aside0.mk (below_step (by repeat (first | (with_reducible first | exact HB.out | apply below_alloc | apply pw_below_drewN | apply below_drew1 | refine below_set ?_ GE128.out) | exact HB.out)) hb);have n2_ := Aside0.mk (hbox);have n3_ := Aside0.mk ((by rw [hg];exact (below_size (by repeat (first | (with_reducible first | exact HB.out | apply below_alloc | apply pw_below_drewN | apply below_drew1 | refine below_set ?_ GE128.out) | exact HB.out))) : w.heap.size ≤ gb129));have n4_ := Aside0.mk ((by rw [hg];exact (below_size (by repeat (first | (with_reducible first | exact HB.out | apply below_alloc | apply pw_below_drewN | apply below_drew1 | refine below_set ?_ GE128.out) | exact HB.out))) : w.heap.size ≤ gb129));have n5_ := Aside0.mk ((by rw [hg];exact Nat.ne_of_lt (blk_lt (g := gb128) (o := .cells #[.int .i64 a0_0,.bool a0_1,.int .i64 a0_2,.string a0_3] 149 (0,0)) (by (with_reducible repeat (first | refine blk_drewN ?_ _ | refine blk_drew ?_ | refine blk_alloc ?_ _));exact BK128.out)) : gb128 ≠ gb129));have n6_ := Aside0.mk ((by rw [hg];exact Nat.ne_of_gt (blk_lt (g := gb128) (o := .cells #[.int .i64 a0_0,.bool a0_1,.int .i64 a0_2,.string a0_3] 149 (0,0)) (by (with_reducible repeat (first | refine blk_drewN ?_ _ | refine blk_drew ?_ | refine blk_alloc ?_ _));exact BK128.out)) : gb129 ≠ gb128));clear BK128;clear HB;have BK128 := n0_;have HB := n1_;have BK129 := n2_;have GW129 := n3_;have GE129 := n4_;have NB128_129 := n5_;have NB129_128 := n6_;clear n0_ n1_ n2_ n3_ n4_ n5_ n6_;clear hb hbox hg;have hnb55 := NB128_129.out;have hnc55 := NB129_128.out;have hcz56_0 : w54.cell? ⟨gb128,0,none⟩ = some (.int .i64 a0_0) := (blk_cell BK128.out 0).trans rfl;have hcz56_1 : w54.cell? ⟨gb128,1,none⟩ = some (.bool a0_1) := (blk_cell BK128.out 1).trans rfl;have hcz56_2 : w54.cell? ⟨gb128,2,none⟩ = some (.int .i64 a0_2) := (blk_cell BK128.out 2).trans rfl;have hcz56_3 : w54.cell? ⟨gb128,3,none⟩ = some (.string a0_3) := (blk_cell BK128.out 3).trans rfl;have hfz56_0 := blk_frozen BK128.out 0;have hfz56_1 := blk_frozen BK128.out 1;have hfz56_2 := blk_frozen BK128.out 2;have hfz56_3 := blk_frozen BK128.out 3;have hcz57_0 : w54.cell? ⟨gb129,0,none⟩ = some (.int .i64 a1_0) := (blk_cell BK129.out 0).trans rfl;have hcz57_1 : w54.cell? ⟨gb129,1,none⟩ = some (.bool a1_1) := (blk_cell BK129.out 1).trans rfl;have hcz57_2 : w54.cell? ⟨gb129,2,none⟩ = some (.int .i64 a1_2) := (blk_cell BK129.out 2).trans rfl;have hcz57_3 : w54.cell? ⟨gb129,3,none⟩ = some (.string a1_3) := (blk_cell BK129.out 3).trans rfl;have hfz57_0 := blk_frozen BK129.out 0;have hfz57_1 := blk_frozen BK129.out 1;have hfz57_2 := blk_frozen BK129.out 2;have hfz57_3 := blk_frozen BK129.out 3) | ((with_reducible refine gate_callee (f := 81) rfl ?_);refine goesL_ (some 45) rfl rfl Try.func81 (by kernel_rfl) rfl #[.string a0_3,.string a1_3] rfl (by (try simp only [List.map_toArray,List.map_cons,List.map_nil]);first | done | rfl | (simp only [List.length_drop,List.length_take];rfl)) ?_;(with_reducible refine (verdererref01_Text.calls k a0_3 a1_3 t130 _ A52.out).mono ?_);rintro e w' ⟨rfl,⟨nd,rfl⟩⟩;refine ⟨_,rfl,?_⟩))
            go_ret
            exact ⟨by first | rfl | (simp [errW_none,errW_some] <;> rfl) | (simp [*,errW_none,errW_some] <;> rfl),by repeat (first | (with_reducible first | exact HB.out | apply below_alloc | apply pw_below_drewN | apply below_drew1 | refine below_set ?_ GE128.out | refine below_set ?_ GE129.out) | exact HB.out)⟩
          · rw [if_neg c51] at H
            have c51b0 : (a0_0 == 3) = false := beq_eq_false_iff_ne.mpr c51
            have c51b1 : (a0_0 != 3) = true := bne_iff_ne.mpr c51
            obtain rfl := Option.some.inj H
            go_enter Try.func120,Try.ntmps120
            go_wp2_with (first | ((with_reducible refine gate_dst (N := 2) rfl ?_);refine box_event ?hg (N := 2) ?hd (cs := #[.int .i64 a0_0,.bool a0_1,.int .i64 a0_2,.string a0_3]) (t := 149) ?hr ?_;(case hd => rfl);(case hg => rfl);(case hr => first | (go_simp;done) | (go_simp;rfl));intro gb128 hg w58 hbox hb;have n0_ := Aside0.mk (below_step (by repeat (first | (with_reducible first | exact HB.out | apply below_alloc | apply pw_below_drewN | apply below_drew1) | exact HB.out)) hb);have n1_ := Aside0.mk (hbox);have n2_ := Aside0.mk ((by rw [hg];exact (below_size (by repeat (first | (with_reducible first | exact HB.out | apply below_alloc | apply pw_below_drewN | apply below_drew1) | exact HB.out))) : w.heap.size ≤ gb128));have n3_ := Aside0.mk ((by rw [hg];exact (below_size (by repeat (first | (with_reducible first | exact HB.out | apply below_alloc | apply pw_below_drewN | apply below_drew1) | exact HB.out))) : w.heap.size ≤ gb128));clear HB;have HB := n0_;have BK128 := n1_;have GW128 := n2_;have GE128 := n3_;clear n0_ n1_ n2_ n3_;clear hb hbox hg) | ((with_reducible refine gate_dst (N := 3) rfl ?_);refine box_event ?hg (N := 3) ?hd (cs := #[.int .i64 a1_0,.bool a1_1,.int .i64 a1_2,.string a1_3]) (t := 149) ?hr ?_;(case hd => rfl);(case hg => rfl);(case hr => first | (go_simp;done) | (go_simp;rfl));intro gb129 hg w59 hbox hb;have n0_ := Aside0.mk (blk_below (g := gb128) (o := .cells #[.int .i64 a0_0,.bool a0_1,.int .i64 a0_2,.string a0_3] 149 (0,0)) (by (with_reducible repeat (first | refine blk_drewN ?_ _ | refine blk_drew ?_ | refine blk_alloc ?_ _));exact BK128.out) hb);have n1_ := Aside0.mk (below_step (by repeat (first | (with_reducible first | exact HB.out | apply below_alloc | apply pw_below_drewN | apply below_drew1 | refine below_set ?_ GE128.out) | exact HB.out)) hb);have n2_ := Aside0.mk (hbox);have n3_ := Aside0.mk ((by rw [hg];exact (below_size (by repeat (first | (with_reducible first | exact HB.out | apply below_alloc | apply pw_below_drewN | apply below_drew1 | refine below_set ?_ GE128.out) | exact HB.out))) : w.heap.size ≤ gb129));have n4_ := Aside0.mk ((by rw [hg];exact (below_size (by repeat (first | (with_reducible first | exact HB.out | apply below_alloc | apply pw_below_drewN | apply below_drew1 | refine below_set ?_ GE128.out) | exact HB.out))) : w.heap.size ≤ gb129));have n5_ := Aside0.mk ((by rw [hg];exact Nat.ne_of_lt (blk_lt (g := gb128) (o := .cells #[.int .i64 a0_0,.bool a0_1,.int .i64 a0_2,.string a0_3] 149 (0,0)) (by (with_reducible repeat (first | refine blk_drewN ?_ _ | refine blk_drew ?_ | refine blk_alloc ?_ _));exact BK128.out)) : gb128 ≠ gb129));have n6_ := Aside0.mk ((by rw [hg];exact Nat.ne_of_gt (blk_lt (g := gb128) (o := .cells #[.int .i64 a0_0,.bool a0_1,.int .i64 a0_2,.string a0_3] 149 (0,0)) (by (with_reducible repeat (first | refine blk_drewN ?_ _ | refine blk_drew ?_ | refine blk_alloc ?_ _));exact BK128.out)) : gb129 ≠ gb128));clear BK128;clear HB;have BK128 := n0_;have HB := n1_;have BK129 := n2_;have GW129 := n3_;have GE129 := n4_;have NB128_129 := n5_;have NB129_128 := n6_;clear n0_ n1_ n2_ n3_ n4_ n5_ n6_;clear hb hbox hg;have hnb60 := NB128_129.out;have hnc60 := NB129_128.out;have hcz61_0 : w59.cell? ⟨gb128,0,none⟩ = some (.int .i64 a0_0) := (blk_cell BK128.out 0).trans rfl;have hcz61_1 : w59.cell? ⟨gb128,1,none⟩ = some (.bool a0_1) := (blk_cell BK128.out 1).trans rfl;have hcz61_2 : w59.cell? ⟨gb128,2,none⟩ = some (.int .i64 a0_2) := (blk_cell BK128.out 2).trans rfl;have hcz61_3 : w59.cell? ⟨gb128,3,none⟩ = some (.string a0_3) := (blk_cell BK128.out 3).trans rfl;have hfz61_0 := blk_frozen BK128.out 0;have hfz61_1 := blk_frozen BK128.out 1;have hfz61_2 := blk_frozen BK128.out 2;have hfz61_3 := blk_frozen BK128.out 3;have hcz62_0 : w59.cell? ⟨gb129,0,none⟩ = some (.int .i64 a1_0) := (blk_cell BK129.out 0).trans rfl;have hcz62_1 : w59.cell? ⟨gb129,1,none⟩ = some (.bool a1_1) := (blk_cell BK129.out 1).trans rfl;have hcz62_2 : w59.cell? ⟨gb129,2,none⟩ = some (.int .i64 a1_2) := (blk_cell BK129.out 2).trans rfl;have hcz62_3 : w59.cell? ⟨gb129,3,none⟩ = some (.string a1_3) := (blk_cell BK129.out 3).trans rfl;have hfz62_0 := blk_frozen BK129.out 0;have hfz62_1 := blk_frozen BK129.out 1;have hfz62_2 := blk_frozen BK129.out 2;have hfz62_3 := blk_frozen BK129.out 3))
            go_ret
            exact ⟨by first | rfl | (simp [errW_none,errW_some] <;> rfl) | (simp [*,errW_none,errW_some] <;> rfl),by repeat (first | (with_reducible first | exact HB.out | apply below_alloc | apply pw_below_drewN | apply below_drew1 | refine below_set ?_ GE128.out | refine below_set ?_ GE129.out) | exact HB.out)⟩
end Go.Proofs.Ythfaimomcbmniaa.Z
end
section
namespace Go.Proofs.Ythfaimomcbmniaa.Z
open Go.RowKit Go.Proofs.YthfaimomcbmniaaW.PrintWords Go.Proofs.YthfaimomcbmniaaW.PrintLast Go.Proofs.YthfaimomcbmniaaW.PrintMore
attribute [local go_sem] max2_int min2_int max_two min_two max_three min_three max_four min_four
set_option linter.unusedVariables false
set_option linter.unusedSimpArgs false
mutual
def verdererref02_Compare.l0 : Nat → List (S149) → List (S149) → Int → Option (Int)
  | 0,_,_,_ => none
  | k + 1,x0,x1,x5 => if x5 < (x0.length : Int) then (verdererref02_Compare.j1 k x0 x1 x5 (decide (x5 < (x1.length : Int)))) else (verdererref02_Compare.j1 k x0 x1 x5 false)
def verdererref02_Compare.j1 : Nat → List (S149) → List (S149) → Int → Bool → Option (Int)
  | 0,_,_,_,_ => none
  | k + 1,x0,x1,x5,x16 => if x16 = true then (if 0 ≤ x5 then (if x5 < (x0.length : Int) then (if x5 < (x1.length : Int) then ((verdererref01_Compare.f k ((rd_T149 x0 x5).f0) ((rd_T149 x0 x5).f1) ((rd_T149 x0 x5).f2) ((rd_T149 x0 x5).f3) ((rd_T149 x1 x5).f0) ((rd_T149 x1 x5).f1) ((rd_T149 x1 x5).f2) ((rd_T149 x1 x5).f3)).bind fun t133 => (if t133 = 0 then (verdererref02_Compare.l0 k x0 x1 (wrap64 (x5 + 1))) else (some t133))) else (none)) else (none)) else (none)) else (if (x0.length : Int) < (x1.length : Int) then (some (-1)) else (if (x0.length : Int) > (x1.length : Int) then (some 1) else (some 0)))
end
def verdererref02_Compare.f (k : Nat) (l0 : List (S149)) (l1 : List (S149)) : Option (Int) := verdererref02_Compare.l0 k l0 l1 0
theorem verdererref02_Compare.mono_l : ∀ k,(∀ y0 y1 y2,LeO (verdererref02_Compare.l0 k y0 y1 y2) (verdererref02_Compare.l0 (k + 1) y0 y1 y2)) ∧ (∀ y0 y1 y2 y3,LeO (verdererref02_Compare.j1 k y0 y1 y2 y3) (verdererref02_Compare.j1 (k + 1) y0 y1 y2 y3))
  | 0 => ⟨fun _ _ _ r h => by simp [verdererref02_Compare.l0] at h,fun _ _ _ _ r h => by simp [verdererref02_Compare.j1] at h⟩
  | k + 1 => by
    obtain ⟨ih0,ih1⟩ := verdererref02_Compare.mono_l k
    refine ⟨?_,?_⟩
    · intro y0 y1 y2
      unfold verdererref02_Compare.l0
      repeat' first
      | (with_reducible exact ih0 _ _ _)
      | (with_reducible exact ih1 _ _ _ _)
      | (with_reducible exact verdererref01_Compare.mono _ _ _ _ _ _ _ _ _)
      | (with_reducible exact LeO.refl _)
      | (with_reducible exact LeO.none _)
      | (with_reducible refine LeO.ite ?_ ?_)
      | (with_reducible refine LeO.bind ?_ (fun _ => ?_))
      | exact ih0 _ _ _
      | exact ih1 _ _ _ _
      | exact verdererref01_Compare.mono _ _ _ _ _ _ _ _ _
      | exact LeO.none _
      | refine LeO.ite ?_ ?_
      | refine LeO.bind ?_ (fun _ => ?_)
    · intro y0 y1 y2 y3
      unfold verdererref02_Compare.j1
      repeat' first
      | (with_reducible exact ih0 _ _ _)
      | (with_reducible exact ih1 _ _ _ _)
      | (with_reducible exact verdererref01_Compare.mono _ _ _ _ _ _ _ _ _)
      | (with_reducible exact LeO.refl _)
      | (with_reducible exact LeO.none _)
      | (with_reducible refine LeO.ite ?_ ?_)
      | (with_reducible refine LeO.bind ?_ (fun _ => ?_))
      | exact ih0 _ _ _
      | exact ih1 _ _ _ _
      | exact verdererref01_Compare.mono _ _ _ _ _ _ _ _ _
      | exact LeO.none _
      | refine LeO.ite ?_ ?_
      | refine LeO.bind ?_ (fun _ => ?_)
theorem verdererref02_Compare.mono : ∀ a0 a1 k,LeO (verdererref02_Compare.f k a0 a1) (verdererref02_Compare.f (k + 1) a0 a1) := by
  intro a0 a1 k
  obtain ⟨ih0,ih1⟩ := verdererref02_Compare.mono_l k
  unfold verdererref02_Compare.f
  repeat' first
      | (with_reducible exact ih0 _ _ _)
      | (with_reducible exact ih1 _ _ _ _)
      | (with_reducible exact verdererref01_Compare.mono _ _ _ _ _ _ _ _ _)
      | (with_reducible exact LeO.refl _)
      | (with_reducible exact LeO.none _)
      | (with_reducible refine LeO.ite ?_ ?_)
      | (with_reducible refine LeO.bind ?_ (fun _ => ?_))
      | exact ih0 _ _ _
      | exact ih1 _ _ _ _
      | exact verdererref01_Compare.mono _ _ _ _ _ _ _ _ _
      | exact LeO.none _
      | refine LeO.ite ?_ ?_
      | refine LeO.bind ?_ (fun _ => ?_)
def verdererref02_Compare.T4 : Bool × List (List Nat × List Nat) := (true,[([],[]),([],[]),([0,1],[0,1]),([2],[2]),([],[]),([],[]),([4,5],[4,5]),([6],[6]),([3,7],[3,7]),([8,8,0,1,2,3,4,5,6,7,8],[8])])
def verdererref02_Compare.B4 : List Nat := [0,0,3,7,0,0,48,112,255,511]
theorem verdererref02_Compare.tab4 : rtab .any (opsOf Try.f82 4) = verdererref02_Compare.T4 := by kernel_rfl
theorem verdererref02_Compare.bits4 : waitsOk verdererref02_Compare.T4.2 verdererref02_Compare.B4 = true := by kernel_rfl
set_option maxHeartbeats 8000000 in
set_option maxRecDepth 100000 in
theorem verdererref02_Compare.calls (k : Nat) (A0 : Option Addr) (c0 : Nat) (l0 : List (S149)) (A1 : Option Addr) (c1 : Nat) (l1 : List (S149)) (r : Int) (w : World) (hr0 : Kd.C k149 w A0 l0.length l0) (hc0 : l0.length ≤ c0) (hr1 : Kd.C k149 w A1 l1.length l1) (hc1 : l1.length ≤ c1) (h : verdererref02_Compare.f k l0 l1 = some r) :
    Calls Try.prog 82 #[.slice A0 l0.length c0,.slice A1 l1.length c1] w fun e w' => e = .returned (.int .i64 r) ∧ Below w.heap.size w w' := by
  have hu149 := Try.underlying149
  have HR0 := Aside0.mk hr0
  have HC0 := Aside0.mk hc0
  clear hr0 hc0
  have HR1 := Aside0.mk hr1
  have HC1 := Aside0.mk hc1
  clear hr1 hc1
  have HB := Aside0.mk (Below.refl w.heap.size w)
  have H : (verdererref02_Compare.l0 k l0 l1 0) = some r := h
  clear h
  have H' := Aside0.mk H
  clear H
  go_enter Try.func82,Try.ntmps82
  go_wp2
  go_loopg [5] k (fun kq v5 w' => ∃ (x5_1 : Int),v5 = .int .i64 x5_1 ∧ Aside0 (verdererref02_Compare.l0 kq l0 l1 x5_1 = some r) ∧ Aside0 (kq ≤ k) ∧ Aside0 (Below w.heap.size w w'))
  case atStart => exact ⟨(0),(by first | rfl | (simp;done) | (simp [*];done)),H',⟨Nat.le_refl _⟩,⟨by repeat (first | (with_reducible first | exact HB.out | apply below_alloc | apply pw_below_drewN | apply below_drew1) | exact HB.out)⟩⟩
  case round =>
    clear H'
    try clear c1
    try clear p2
    obtain ⟨x5_1,rfl,HA,HK1,HB⟩ := hrel
    cases gk with
    | zero => exact absurd HA.out (by simp [verdererref02_Compare.l0])
    | succ k1 =>
      have H := HA.out
      clear HA
      simp only [verdererref02_Compare.l0] at H
      have HC3 := Aside0.mk H
      clear H
      go_upto_region 2 with (fail)
      go_cut [16] (fun v16 wc => ∃ (kq : Nat) (x16_2 : Bool),v16 = .bool x16_2 ∧ Aside0 (verdererref02_Compare.j1 kq l0 l1 x5_1 x16_2 = some r) ∧ Aside0 (kq ≤ k1) ∧ Aside0 (Below w.heap.size w wc))
      case first =>
        have H := HC3.out
        clear HC3
        by_cases c4 : x5_1 < (l0.length : Int)
        · rw [if_pos c4] at H
          have c4b0 : decide (x5_1 < (l0.length : Int)) = true := decide_eq_true c4
          clear c4
          (first | rw [c4b0] | (simp only [i64_w,i32_w];rw [c4b0]) | skip)
          have H' := Aside0.mk H
          clear H
          go_wp2
          go_meet
          case rel => exact ⟨_,(decide (x5_1 < (l1.length : Int))),(by first | rfl | (simp;done) | (simp [*];done)),H',⟨by have := HK1.out;first | omega | exact Nat.le_refl _⟩,⟨by repeat (first | (with_reducible first | exact HB.out | apply below_alloc | apply pw_below_drewN | apply below_drew1) | exact HB.out)⟩⟩
        · rw [if_neg c4] at H
          have c4b0 : decide (x5_1 < (l0.length : Int)) = false := decide_eq_false c4
          clear c4
          (first | rw [c4b0] | (simp only [i64_w,i32_w];rw [c4b0]) | skip)
          have H' := Aside0.mk H
          clear H
          go_wp2
          go_meet
          case rel => exact ⟨_,(false),(by first | rfl | (simp;done) | (simp [*];done)),H',⟨by have := HK1.out;first | omega | exact Nat.le_refl _⟩,⟨by repeat (first | (with_reducible first | exact HB.out | apply below_alloc | apply pw_below_drewN | apply below_drew1) | exact HB.out)⟩⟩
      case rest =>
        clear HC3
        try clear c1
        try clear p2
        try clear c4
        try clear c4b0
        try clear p2
        obtain ⟨kq,x16_2,rfl,HA,HJ2,HB⟩ := hcut
        cases kq with
        | zero => exact absurd HA.out (by simp [verdererref02_Compare.j1])
        | succ kj2 =>
          have H := HA.out
          clear HA
          simp only [verdererref02_Compare.j1] at H
          by_cases c5 : x16_2 = true
          · subst c5
            have H1 : (if 0 ≤ x5_1 then (if x5_1 < (l0.length : Int) then (if x5_1 < (l1.length : Int) then ((verdererref01_Compare.f kj2 ((rd_T149 l0 x5_1).f0) ((rd_T149 l0 x5_1).f1) ((rd_T149 l0 x5_1).f2) ((rd_T149 l0 x5_1).f3) ((rd_T149 l1 x5_1).f0) ((rd_T149 l1 x5_1).f1) ((rd_T149 l1 x5_1).f2) ((rd_T149 l1 x5_1).f3)).bind fun t133 => (if t133 = 0 then (verdererref02_Compare.l0 kj2 l0 l1 (wrap64 (x5_1 + 1))) else (some t133))) else (none)) else (none)) else (none)) = some r := by rw [if_pos rfl] at H;exact H
            clear H
            have H := H1
            clear H1
            by_cases c6 : 0 ≤ x5_1
            · rw [if_pos c6] at H
              have c6b0 : decide (0 ≤ x5_1) = true := decide_eq_true c6
              clear c6
              by_cases c7 : x5_1 < (l0.length : Int)
              · rw [if_pos c7] at H
                have c7b0 : decide (x5_1 < (l0.length : Int)) = true := decide_eq_true c7
                clear c7
                by_cases c8 : x5_1 < (l1.length : Int)
                · rw [if_pos c8] at H
                  have c8b0 : decide (x5_1 < (l1.length : Int)) = true := decide_eq_true c8
                  clear c8
                  replace H := Option.bind_eq_some_iff.mp H
                  obtain ⟨t133,A90,H⟩ := H
                  replace H : (if t133 = 0 then (verdererref02_Compare.l0 kj2 l0 l1 (wrap64 (x5_1 + 1))) else (some t133)) = some r := H
                  have A9 := Aside0.mk A90
                  clear A90
                  by_cases c10 : t133 = 0
                  · rw [if_pos c10] at H
                    have c10b0 : (t133 == 0) = true := beq_iff_eq.mpr c10
                    have c10b1 : (t133 != 0) = false := bne_eq_false_iff_eq.mpr c10
                    clear c10
                    have H' := Aside0.mk H
                    clear H
                    try go_wp2
                    have n0_ := Aside0.mk (below_drew1 HB.out)
                    clear HB
                    have HB := n0_
                    clear n0_
                    have p131 : 0 ≤ (x5_1 : Int) := of_decide_eq_true (by first | (with_reducible assumption) | assumption)
                    have q131 : x5_1 < (l0.length : Int) := of_decide_eq_true (by first | (with_reducible assumption) | assumption)
                    obtain ⟨ad131,e131,hx131_0,hx131_1,hx131_2,hx131_3⟩ := at_T149 HR0.out x5_1 p131 q131
                    have hw131_3 := hx131_3
                    have hw131_2 := hx131_2
                    have hw131_1 := hx131_1
                    have hw131_0 := hx131_0
                    cases e131
                    replace hx131_0 := (HB.out.cell (World.block_lt_of_cell? w _ hx131_0)).trans hx131_0
                    replace hx131_1 := (HB.out.cell (World.block_lt_of_cell? w _ hx131_1)).trans hx131_1
                    replace hx131_2 := (HB.out.cell (World.block_lt_of_cell? w _ hx131_2)).trans hx131_2
                    replace hx131_3 := (HB.out.cell (World.block_lt_of_cell? w _ hx131_3)).trans hx131_3
                    replace p131 := eq_true p131
                    replace q131 := eq_true q131
                    have p132 : 0 ≤ (x5_1 : Int) := of_decide_eq_true (by first | (with_reducible assumption) | assumption)
                    have q132 : x5_1 < (l1.length : Int) := of_decide_eq_true (by first | (with_reducible assumption) | assumption)
                    obtain ⟨ad132,e132,hx132_0,hx132_1,hx132_2,hx132_3⟩ := at_T149 HR1.out x5_1 p132 q132
                    have hw132_3 := hx132_3
                    have hw132_2 := hx132_2
                    have hw132_1 := hx132_1
                    have hw132_0 := hx132_0
                    cases e132
                    replace hx132_0 := (HB.out.cell (World.block_lt_of_cell? w _ hx132_0)).trans hx132_0
                    replace hx132_1 := (HB.out.cell (World.block_lt_of_cell? w _ hx132_1)).trans hx132_1
                    replace hx132_2 := (HB.out.cell (World.block_lt_of_cell? w _ hx132_2)).trans hx132_2
                    replace hx132_3 := (HB.out.cell (World.block_lt_of_cell? w _ hx132_3)).trans hx132_3
                    replace p132 := eq_true p132
                    replace q132 := eq_true q132
                    refine start_ (n := 10) (S := fun w' => w'.cell? (ad131.add ((x5_1).toNat * 4)) = some (.int .i64 ((rd_T149 l0 x5_1).f0)) ∧ w'.cell? ⟨(ad131.add ((x5_1).toNat * 4)).block,(ad131.add ((x5_1).toNat * 4)).off + 1,none⟩ = some (.bool ((rd_T149 l0 x5_1).f1)) ∧ w'.cell? ⟨(ad131.add ((x5_1).toNat * 4)).block,(ad131.add ((x5_1).toNat * 4)).off + 2,none⟩ = some (.int .i64 ((rd_T149 l0 x5_1).f2)) ∧ w'.cell? ⟨(ad131.add ((x5_1).toNat * 4)).block,(ad131.add ((x5_1).toNat * 4)).off + 3,none⟩ = some (.string ((rd_T149 l0 x5_1).f3)) ∧ w'.cell? (ad132.add ((x5_1).toNat * 4)) = some (.int .i64 ((rd_T149 l1 x5_1).f0)) ∧ w'.cell? ⟨(ad132.add ((x5_1).toNat * 4)).block,(ad132.add ((x5_1).toNat * 4)).off + 1,none⟩ = some (.bool ((rd_T149 l1 x5_1).f1)) ∧ w'.cell? ⟨(ad132.add ((x5_1).toNat * 4)).block,(ad132.add ((x5_1).toNat * 4)).off + 2,none⟩ = some (.int .i64 ((rd_T149 l1 x5_1).f2)) ∧ w'.cell? ⟨(ad132.add ((x5_1).toNat * 4)).block,(ad132.add ((x5_1).toNat * 4)).off + 3,none⟩ = some (.string ((rd_T149 l1 x5_1).f3))) (ds := []) #[false,false,false,false,false,false,false,false,false,false] (by kernel_rfl) rfl rfl ⟨((HB.out.cell (World.block_lt_of_cell? w _ hw131_0)).trans hw131_0),((HB.out.cell (World.block_lt_of_cell? w _ hw131_1)).trans hw131_1),((HB.out.cell (World.block_lt_of_cell? w _ hw131_2)).trans hw131_2),((HB.out.cell (World.block_lt_of_cell? w _ hw131_3)).trans hw131_3),((HB.out.cell (World.block_lt_of_cell? w _ hw132_0)).trans hw132_0),((HB.out.cell (World.block_lt_of_cell? w _ hw132_1)).trans hw132_1),((HB.out.cell (World.block_lt_of_cell? w _ hw132_2)).trans hw132_2),((HB.out.cell (World.block_lt_of_cell? w _ hw132_3)).trans hw132_3)⟩ (fun hHeld => ?_);refine with_tabW verdererref02_Compare.tab4 verdererref02_Compare.bits4 (fun HT_ HW_ => ?_)
                    generalize wc.drew = w11 at HB hx131_0 hx131_1 hx131_2 hx131_3 hx132_0 hx132_1 hx132_2 hx132_3 hHeld ⊢
                    refine pure_ (i := 0) (N := some 19) (v := ?_) (a' := ?_) #[true,false,false,false,false,false,false,false,false,false] rfl rfl (any_of HT_.out (by kernel_rfl)) (fun _ _ _ h => h) (Or.inl ⟨by rfl,?_⟩) ?_ ?_
                    rotate_left
                    · intro w'
                      go_simp
                      with_reducible rfl
                    rotate_left
                    · simp only [Act.put,zA,zB,zC,i64_w,i32_w]
                      rfl
                    refine pure_ (i := 1) (N := some 20) (v := ?_) (a' := ?_) #[true,true,false,false,false,false,false,false,false,false] rfl rfl (any_of HT_.out (by kernel_rfl)) (fun _ _ _ h => h) (Or.inl ⟨by rfl,?_⟩) ?_ ?_
                    rotate_left
                    · intro w'
                      go_simp
                      with_reducible rfl
                    rotate_left
                    · simp only [Act.put,zA,zB,zC,i64_w,i32_w]
                      rfl
                    refine pure_ (i := 2) (N := some 21) (v := ?_) (a' := ?_) #[true,true,true,false,false,false,false,false,false,false] rfl rfl (any_of HT_.out (by kernel_rfl)) (fun _ _ _ h => h) (Or.inl ⟨by rfl,?_⟩) ?_ ?_
                    rotate_left
                    · intro w'
                      go_simp
                      with_reducible rfl
                    rotate_left
                    · simp only [Act.put,zA,zB,zC,i64_w,i32_w]
                      rfl
                    refine pure_ (i := 4) (N := some 23) (v := ?_) (a' := ?_) #[true,true,true,false,true,false,false,false,false,false] rfl rfl (any_of HT_.out (by kernel_rfl)) (fun _ _ _ h => h) (Or.inl ⟨by rfl,?_⟩) ?_ ?_
                    rotate_left
                    · intro w'
                      go_simp
                      with_reducible rfl
                    rotate_left
                    · simp only [Act.put,zA,zB,zC,i64_w,i32_w]
                      rfl
                    refine pure_ (i := 5) (N := some 24) (v := ?_) (a' := ?_) #[true,true,true,false,true,true,false,false,false,false] rfl rfl (any_of HT_.out (by kernel_rfl)) (fun _ _ _ h => h) (Or.inl ⟨by rfl,?_⟩) ?_ ?_
                    rotate_left
                    · intro w'
                      go_simp
                      with_reducible rfl
                    rotate_left
                    · simp only [Act.put,zA,zB,zC,i64_w,i32_w]
                      rfl
                    refine pure_ (i := 6) (N := some 25) (v := ?_) (a' := ?_) #[true,true,true,false,true,true,true,false,false,false] rfl rfl (any_of HT_.out (by kernel_rfl)) (fun _ _ _ h => h) (Or.inl ⟨by rfl,?_⟩) ?_ ?_
                    rotate_left
                    · intro w'
                      go_simp
                      with_reducible rfl
                    rotate_left
                    · simp only [Act.put,zA,zB,zC,i64_w,i32_w]
                      rfl
                    refine take_ (i := 3) (N := some 22) (v := ?_) (a' := ?_) #[true,true,true,true,true,true,true,false,false,false] rfl rfl (take_ofW HT_.out HW_.out (by kernel_rfl)) (fun _ _ _ h => h) (Or.inl ⟨by rfl,?_⟩) hHeld ?_ ?_
                    rotate_left
                    · rintro w' ⟨s0,s1,s2,s3,s4,s5,s6,s7⟩
                      go_simp
                      with_reducible rfl
                    rotate_left
                    · simp only [Act.put,zA,zB,zC,i64_w,i32_w]
                      rfl
                    refine take_ (i := 7) (N := some 26) (v := ?_) (a' := ?_) #[true,true,true,true,true,true,true,true,false,false] rfl rfl (take_ofW HT_.out HW_.out (by kernel_rfl)) (fun _ _ _ h => h) (Or.inl ⟨by rfl,?_⟩) hHeld ?_ ?_
                    rotate_left
                    · rintro w' ⟨s0,s1,s2,s3,s4,s5,s6,s7⟩
                      go_simp
                      with_reducible rfl
                    rotate_left
                    · simp only [Act.put,zA,zB,zC,i64_w,i32_w]
                      rfl
                    refine one_ (i := 8) (N := some 27) #[true,true,true,true,true,true,true,true,true,false] rfl rfl (one_of HT_.out (by kernel_rfl)) (by decide) (fun K hK => ?_)
                    refine goes_ Try.func120 (by kernel_rfl) rfl #[.agg #[.int .i64 ((rd_T149 l0 x5_1).f0),.bool ((rd_T149 l0 x5_1).f1),.int .i64 ((rd_T149 l0 x5_1).f2),.string ((rd_T149 l0 x5_1).f3)],.agg #[.int .i64 ((rd_T149 l1 x5_1).f0),.bool ((rd_T149 l1 x5_1).f1),.int .i64 ((rd_T149 l1 x5_1).f2),.string ((rd_T149 l1 x5_1).f3)]] (by rfl) rfl rfl (by (try simp only [List.map_toArray,List.map_cons,List.map_nil]);first | done | rfl | (simp only [List.length_drop,List.length_take];rfl)) ?_
                    with_reducible refine (verdererref01_Compare.calls kj2 ((rd_T149 l0 x5_1).f0) ((rd_T149 l0 x5_1).f1) ((rd_T149 l0 x5_1).f2) ((rd_T149 l0 x5_1).f3) ((rd_T149 l1 x5_1).f0) ((rd_T149 l1 x5_1).f1) ((rd_T149 l1 x5_1).f2) ((rd_T149 l1 x5_1).f3) t133 _ A9.out).mono ?_
                    rintro e w12 ⟨rfl,hb⟩
                    refine ⟨_,rfl,?_⟩
                    have n0_ := Aside0.mk (below_step (by repeat (first | (with_reducible first | exact HB.out | apply below_alloc | apply pw_below_drewN | apply below_drew1) | exact HB.out)) hb)
                    clear HB
                    have HB := n0_
                    clear n0_
                    (try clear hb)
                    (try clear hb2)
                    (try clear hk)
                    (try clear hi)
                    refine hK.out _ _ ⟨((HB.out.cell (World.block_lt_of_cell? w _ hw131_0)).trans hw131_0),((HB.out.cell (World.block_lt_of_cell? w _ hw131_1)).trans hw131_1),((HB.out.cell (World.block_lt_of_cell? w _ hw131_2)).trans hw131_2),((HB.out.cell (World.block_lt_of_cell? w _ hw131_3)).trans hw131_3),((HB.out.cell (World.block_lt_of_cell? w _ hw132_0)).trans hw132_0),((HB.out.cell (World.block_lt_of_cell? w _ hw132_1)).trans hw132_1),((HB.out.cell (World.block_lt_of_cell? w _ hw132_2)).trans hw132_2),((HB.out.cell (World.block_lt_of_cell? w _ hw132_3)).trans hw132_3)⟩ (fun hHeld => ?_)
                    clear hK K
                    refine norm_ (a' := ?_) ?_ ?_
                    rotate_left
                    · show Act.put _ (some 27) _ = _
                      simp only [Act.put,zA,zB,zC,i64_w,i32_w]
                      rfl
                    refine pure_ (i := 9) (N := some 6) (v := ?_) (a' := ?_) #[true,true,true,true,true,true,true,true,true,true] rfl rfl (any_of HT_.out (by kernel_rfl)) (fun _ _ _ h => h) (Or.inl ⟨by rfl,?_⟩) ?_ ?_
                    rotate_left
                    · intro w'
                      go_simp
                      with_reducible rfl
                    rotate_left
                    · simp only [Act.put,zA,zB,zC,i64_w,i32_w]
                      rfl
                    refine done_ (done_of HT_.out (by kernel_rfl)) ?_
                    try go_wp2
                    go_roundg kj2
                    case measure => have := HK1.out;have := HJ2.out;omega
                    case rel => exact ⟨(wrap64 (x5_1 + 1)),(by first | rfl | (simp;done) | (simp [*];done)),H',⟨by have := HK1.out;have := HJ2.out;omega⟩,⟨by repeat (first | (with_reducible first | exact HB.out | apply below_alloc | apply pw_below_drewN | apply below_drew1) | exact HB.out)⟩⟩
                  · rw [if_neg c10] at H
                    have c10b0 : (t133 == 0) = false := beq_eq_false_iff_ne.mpr c10
                    have c10b1 : (t133 != 0) = true := bne_iff_ne.mpr c10
                    obtain rfl := Option.some.inj H
                    try go_wp2
                    have n0_ := Aside0.mk (below_drew1 HB.out)
                    clear HB
                    have HB := n0_
                    clear n0_
                    have p131 : 0 ≤ (x5_1 : Int) := of_decide_eq_true (by first | (with_reducible assumption) | assumption)
                    have q131 : x5_1 < (l0.length : Int) := of_decide_eq_true (by first | (with_reducible assumption) | assumption)
                    obtain ⟨ad131,e131,hx131_0,hx131_1,hx131_2,hx131_3⟩ := at_T149 HR0.out x5_1 p131 q131
                    have hw131_3 := hx131_3
                    have hw131_2 := hx131_2
                    have hw131_1 := hx131_1
                    have hw131_0 := hx131_0
                    cases e131
                    replace hx131_0 := (HB.out.cell (World.block_lt_of_cell? w _ hx131_0)).trans hx131_0
                    replace hx131_1 := (HB.out.cell (World.block_lt_of_cell? w _ hx131_1)).trans hx131_1
                    replace hx131_2 := (HB.out.cell (World.block_lt_of_cell? w _ hx131_2)).trans hx131_2
                    replace hx131_3 := (HB.out.cell (World.block_lt_of_cell? w _ hx131_3)).trans hx131_3
                    replace p131 := eq_true p131
                    replace q131 := eq_true q131
                    have p132 : 0 ≤ (x5_1 : Int) := of_decide_eq_true (by first | (with_reducible assumption) | assumption)
                    have q132 : x5_1 < (l1.length : Int) := of_decide_eq_true (by first | (with_reducible assumption) | assumption)
                    obtain ⟨ad132,e132,hx132_0,hx132_1,hx132_2,hx132_3⟩ := at_T149 HR1.out x5_1 p132 q132
                    have hw132_3 := hx132_3
                    have hw132_2 := hx132_2
                    have hw132_1 := hx132_1
                    have hw132_0 := hx132_0
                    cases e132
                    replace hx132_0 := (HB.out.cell (World.block_lt_of_cell? w _ hx132_0)).trans hx132_0
                    replace hx132_1 := (HB.out.cell (World.block_lt_of_cell? w _ hx132_1)).trans hx132_1
                    replace hx132_2 := (HB.out.cell (World.block_lt_of_cell? w _ hx132_2)).trans hx132_2
                    replace hx132_3 := (HB.out.cell (World.block_lt_of_cell? w _ hx132_3)).trans hx132_3
                    replace p132 := eq_true p132
                    replace q132 := eq_true q132
                    refine start_ (n := 10) (S := fun w' => w'.cell? (ad131.add ((x5_1).toNat * 4)) = some (.int .i64 ((rd_T149 l0 x5_1).f0)) ∧ w'.cell? ⟨(ad131.add ((x5_1).toNat * 4)).block,(ad131.add ((x5_1).toNat * 4)).off + 1,none⟩ = some (.bool ((rd_T149 l0 x5_1).f1)) ∧ w'.cell? ⟨(ad131.add ((x5_1).toNat * 4)).block,(ad131.add ((x5_1).toNat * 4)).off + 2,none⟩ = some (.int .i64 ((rd_T149 l0 x5_1).f2)) ∧ w'.cell? ⟨(ad131.add ((x5_1).toNat * 4)).block,(ad131.add ((x5_1).toNat * 4)).off + 3,none⟩ = some (.string ((rd_T149 l0 x5_1).f3)) ∧ w'.cell? (ad132.add ((x5_1).toNat * 4)) = some (.int .i64 ((rd_T149 l1 x5_1).f0)) ∧ w'.cell? ⟨(ad132.add ((x5_1).toNat * 4)).block,(ad132.add ((x5_1).toNat * 4)).off + 1,none⟩ = some (.bool ((rd_T149 l1 x5_1).f1)) ∧ w'.cell? ⟨(ad132.add ((x5_1).toNat * 4)).block,(ad132.add ((x5_1).toNat * 4)).off + 2,none⟩ = some (.int .i64 ((rd_T149 l1 x5_1).f2)) ∧ w'.cell? ⟨(ad132.add ((x5_1).toNat * 4)).block,(ad132.add ((x5_1).toNat * 4)).off + 3,none⟩ = some (.string ((rd_T149 l1 x5_1).f3))) (ds := []) #[false,false,false,false,false,false,false,false,false,false] (by kernel_rfl) rfl rfl ⟨((HB.out.cell (World.block_lt_of_cell? w _ hw131_0)).trans hw131_0),((HB.out.cell (World.block_lt_of_cell? w _ hw131_1)).trans hw131_1),((HB.out.cell (World.block_lt_of_cell? w _ hw131_2)).trans hw131_2),((HB.out.cell (World.block_lt_of_cell? w _ hw131_3)).trans hw131_3),((HB.out.cell (World.block_lt_of_cell? w _ hw132_0)).trans hw132_0),((HB.out.cell (World.block_lt_of_cell? w _ hw132_1)).trans hw132_1),((HB.out.cell (World.block_lt_of_cell? w _ hw132_2)).trans hw132_2),((HB.out.cell (World.block_lt_of_cell? w _ hw132_3)).trans hw132_3)⟩ (fun hHeld => ?_);refine with_tabW verdererref02_Compare.tab4 verdererref02_Compare.bits4 (fun HT_ HW_ => ?_)
                    generalize wc.drew = w13 at HB hx131_0 hx131_1 hx131_2 hx131_3 hx132_0 hx132_1 hx132_2 hx132_3 hHeld ⊢
                    refine pure_ (i := 0) (N := some 19) (v := ?_) (a' := ?_) #[true,false,false,false,false,false,false,false,false,false] rfl rfl (any_of HT_.out (by kernel_rfl)) (fun _ _ _ h => h) (Or.inl ⟨by rfl,?_⟩) ?_ ?_
                    rotate_left
                    · intro w'
                      go_simp
                      with_reducible rfl
                    rotate_left
                    · simp only [Act.put,zA,zB,zC,i64_w,i32_w]
                      rfl
                    refine pure_ (i := 1) (N := some 20) (v := ?_) (a' := ?_) #[true,true,false,false,false,false,false,false,false,false] rfl rfl (any_of HT_.out (by kernel_rfl)) (fun _ _ _ h => h) (Or.inl ⟨by rfl,?_⟩) ?_ ?_
                    rotate_left
                    · intro w'
                      go_simp
                      with_reducible rfl
                    rotate_left
                    · simp only [Act.put,zA,zB,zC,i64_w,i32_w]
                      rfl
                    refine pure_ (i := 2) (N := some 21) (v := ?_) (a' := ?_) #[true,true,true,false,false,false,false,false,false,false] rfl rfl (any_of HT_.out (by kernel_rfl)) (fun _ _ _ h => h) (Or.inl ⟨by rfl,?_⟩) ?_ ?_
                    rotate_left
                    · intro w'
                      go_simp
                      with_reducible rfl
                    rotate_left
                    · simp only [Act.put,zA,zB,zC,i64_w,i32_w]
                      rfl
                    refine pure_ (i := 4) (N := some 23) (v := ?_) (a' := ?_) #[true,true,true,false,true,false,false,false,false,false] rfl rfl (any_of HT_.out (by kernel_rfl)) (fun _ _ _ h => h) (Or.inl ⟨by rfl,?_⟩) ?_ ?_
                    rotate_left
                    · intro w'
                      go_simp
                      with_reducible rfl
                    rotate_left
                    · simp only [Act.put,zA,zB,zC,i64_w,i32_w]
                      rfl
                    refine pure_ (i := 5) (N := some 24) (v := ?_) (a' := ?_) #[true,true,true,false,true,true,false,false,false,false] rfl rfl (any_of HT_.out (by kernel_rfl)) (fun _ _ _ h => h) (Or.inl ⟨by rfl,?_⟩) ?_ ?_
                    rotate_left
                    · intro w'
                      go_simp
                      with_reducible rfl
                    rotate_left
                    · simp only [Act.put,zA,zB,zC,i64_w,i32_w]
                      rfl
                    refine pure_ (i := 6) (N := some 25) (v := ?_) (a' := ?_) #[true,true,true,false,true,true,true,false,false,false] rfl rfl (any_of HT_.out (by kernel_rfl)) (fun _ _ _ h => h) (Or.inl ⟨by rfl,?_⟩) ?_ ?_
                    rotate_left
                    · intro w'
                      go_simp
                      with_reducible rfl
                    rotate_left
                    · simp only [Act.put,zA,zB,zC,i64_w,i32_w]
                      rfl
                    refine take_ (i := 3) (N := some 22) (v := ?_) (a' := ?_) #[true,true,true,true,true,true,true,false,false,false] rfl rfl (take_ofW HT_.out HW_.out (by kernel_rfl)) (fun _ _ _ h => h) (Or.inl ⟨by rfl,?_⟩) hHeld ?_ ?_
                    rotate_left
                    · rintro w' ⟨s0,s1,s2,s3,s4,s5,s6,s7⟩
                      go_simp
                      with_reducible rfl
                    rotate_left
                    · simp only [Act.put,zA,zB,zC,i64_w,i32_w]
                      rfl
                    refine take_ (i := 7) (N := some 26) (v := ?_) (a' := ?_) #[true,true,true,true,true,true,true,true,false,false] rfl rfl (take_ofW HT_.out HW_.out (by kernel_rfl)) (fun _ _ _ h => h) (Or.inl ⟨by rfl,?_⟩) hHeld ?_ ?_
                    rotate_left
                    · rintro w' ⟨s0,s1,s2,s3,s4,s5,s6,s7⟩
                      go_simp
                      with_reducible rfl
                    rotate_left
                    · simp only [Act.put,zA,zB,zC,i64_w,i32_w]
                      rfl
                    refine one_ (i := 8) (N := some 27) #[true,true,true,true,true,true,true,true,true,false] rfl rfl (one_of HT_.out (by kernel_rfl)) (by decide) (fun K hK => ?_)
                    refine goes_ Try.func120 (by kernel_rfl) rfl #[.agg #[.int .i64 ((rd_T149 l0 x5_1).f0),.bool ((rd_T149 l0 x5_1).f1),.int .i64 ((rd_T149 l0 x5_1).f2),.string ((rd_T149 l0 x5_1).f3)],.agg #[.int .i64 ((rd_T149 l1 x5_1).f0),.bool ((rd_T149 l1 x5_1).f1),.int .i64 ((rd_T149 l1 x5_1).f2),.string ((rd_T149 l1 x5_1).f3)]] (by rfl) rfl rfl (by (try simp only [List.map_toArray,List.map_cons,List.map_nil]);first | done | rfl | (simp only [List.length_drop,List.length_take];rfl)) ?_
                    with_reducible refine (verdererref01_Compare.calls kj2 ((rd_T149 l0 x5_1).f0) ((rd_T149 l0 x5_1).f1) ((rd_T149 l0 x5_1).f2) ((rd_T149 l0 x5_1).f3) ((rd_T149 l1 x5_1).f0) ((rd_T149 l1 x5_1).f1) ((rd_T149 l1 x5_1).f2) ((rd_T149 l1 x5_1).f3) t133 _ A9.out).mono ?_
                    rintro e w14 ⟨rfl,hb⟩
                    refine ⟨_,rfl,?_⟩
                    have n0_ := Aside0.mk (below_step (by repeat (first | (with_reducible first | exact HB.out | apply below_alloc | apply pw_below_drewN | apply below_drew1) | exact HB.out)) hb)
                    clear HB
                    have HB := n0_
                    clear n0_
                    (try clear hb)
                    (try clear hb2)
                    (try clear hk)
                    (try clear hi)
                    refine hK.out _ _ ⟨((HB.out.cell (World.block_lt_of_cell? w _ hw131_0)).trans hw131_0),((HB.out.cell (World.block_lt_of_cell? w _ hw131_1)).trans hw131_1),((HB.out.cell (World.block_lt_of_cell? w _ hw131_2)).trans hw131_2),((HB.out.cell (World.block_lt_of_cell? w _ hw131_3)).trans hw131_3),((HB.out.cell (World.block_lt_of_cell? w _ hw132_0)).trans hw132_0),((HB.out.cell (World.block_lt_of_cell? w _ hw132_1)).trans hw132_1),((HB.out.cell (World.block_lt_of_cell? w _ hw132_2)).trans hw132_2),((HB.out.cell (World.block_lt_of_cell? w _ hw132_3)).trans hw132_3)⟩ (fun hHeld => ?_)
                    clear hK K
                    refine norm_ (a' := ?_) ?_ ?_
                    rotate_left
                    · show Act.put _ (some 27) _ = _
                      simp only [Act.put,zA,zB,zC,i64_w,i32_w]
                      rfl
                    refine pure_ (i := 9) (N := some 6) (v := ?_) (a' := ?_) #[true,true,true,true,true,true,true,true,true,true] rfl rfl (any_of HT_.out (by kernel_rfl)) (fun _ _ _ h => h) (Or.inl ⟨by rfl,?_⟩) ?_ ?_
                    rotate_left
                    · intro w'
                      go_simp
                      with_reducible rfl
                    rotate_left
                    · simp only [Act.put,zA,zB,zC,i64_w,i32_w]
                      rfl
                    refine done_ (done_of HT_.out (by kernel_rfl)) ?_
                    try go_wp2
                    go_ret
                    exact ⟨by first | rfl | (simp [errW_none,errW_some] <;> rfl) | (simp [*,errW_none,errW_some] <;> rfl),by repeat (first | (with_reducible first | exact HB.out | apply below_alloc | apply pw_below_drewN | apply below_drew1) | exact HB.out)⟩
                · rw [if_neg c8] at H
                  exact absurd H (by simp)
              · rw [if_neg c7] at H
                exact absurd H (by simp)
            · rw [if_neg c6] at H
              exact absurd H (by simp)
          · replace c5 := Bool.eq_false_iff.mpr c5
            subst c5
            have H1 : (if (l0.length : Int) < (l1.length : Int) then (some (-1)) else (if (l0.length : Int) > (l1.length : Int) then (some 1) else (some 0))) = some r := by rw [if_neg (show ¬ (false = true) by decide)] at H;exact H
            clear H
            have H := H1
            clear H1
            by_cases c15 : (l0.length : Int) < (l1.length : Int)
            · rw [if_pos c15] at H
              have c15b0 : decide ((l0.length : Int) < (l1.length : Int)) = true := decide_eq_true c15
              have c15b1 : decide (l0.length < l1.length) = true := decide_eq_true (Int.ofNat_lt.mp c15)
              clear c15
              obtain rfl := Option.some.inj H
              go_wp2
              go_ret
              exact ⟨by first | rfl | (simp [errW_none,errW_some] <;> rfl) | (simp [*,errW_none,errW_some] <;> rfl),by repeat (first | (with_reducible first | exact HB.out | apply below_alloc | apply pw_below_drewN | apply below_drew1) | exact HB.out)⟩
            · rw [if_neg c15] at H
              have c15b0 : decide ((l0.length : Int) < (l1.length : Int)) = false := decide_eq_false c15
              have c15b1 : decide (l0.length < l1.length) = false := decide_eq_false (fun h => c15 (Int.ofNat_lt.mpr h))
              clear c15
              by_cases c16 : (l0.length : Int) > (l1.length : Int)
              · rw [if_pos c16] at H
                have c16b0 : decide ((l1.length : Int) < (l0.length : Int)) = true := decide_eq_true c16
                have c16b1 : decide (l1.length < l0.length) = true := decide_eq_true (Int.ofNat_lt.mp c16)
                clear c16
                obtain rfl := Option.some.inj H
                go_wp2
                go_ret
                exact ⟨by first | rfl | (simp [errW_none,errW_some] <;> rfl) | (simp [*,errW_none,errW_some] <;> rfl),by repeat (first | (with_reducible first | exact HB.out | apply below_alloc | apply pw_below_drewN | apply below_drew1) | exact HB.out)⟩
              · rw [if_neg c16] at H
                have c16b0 : decide ((l1.length : Int) < (l0.length : Int)) = false := decide_eq_false c16
                have c16b1 : decide (l1.length < l0.length) = false := decide_eq_false (fun h => c16 (Int.ofNat_lt.mpr h))
                clear c16
                obtain rfl := Option.some.inj H
                go_wp2
                go_ret
                exact ⟨by first | rfl | (simp [errW_none,errW_some] <;> rfl) | (simp [*,errW_none,errW_some] <;> rfl),by repeat (first | (with_reducible first | exact HB.out | apply below_alloc | apply pw_below_drewN | apply below_drew1) | exact HB.out)⟩
end Go.Proofs.Ythfaimomcbmniaa.Z
end
section
namespace Go.Proofs.Ythfaimomcbmniaa.Z
open Go.RowKit Go.Proofs.YthfaimomcbmniaaW.PrintWords Go.Proofs.YthfaimomcbmniaaW.PrintLast Go.Proofs.YthfaimomcbmniaaW.PrintMore
attribute [local go_sem] max2_int min2_int max_two min_two max_three min_three max_four min_four
set_option linter.unusedVariables false
set_option linter.unusedSimpArgs false
theorem eqA149 (d : Nat) (w : World) (x0 y0 : Int) (x1 y1 : Bool) (x2 y2 : Int) (x3 y3 : ByteArray) :
    (Op.equalIn (d + 2) 149 (.agg #[.int .i64 x0,.bool x1,.int .i64 x2,.string x3]) (.agg #[.int .i64 y0,.bool y1,.int .i64 y2,.string y3])).run Try.prog w = .ok (x0 == y0 && (x1 == y1 && (x2 == y2 && (x3.toList == y3.toList)))) w := by
  refine eqA_of Try.underlying149 (by kernel_rfl) ?_
  refine eqf_cons (by rfl) (by go_simp;rfl) (by go_simp;rfl) (by go_simp) ?_
  refine eqf_cons (by rfl) (by go_simp;rfl) (by go_simp;rfl) (by go_simp) ?_
  refine eqf_cons (by rfl) (by go_simp;rfl) (by go_simp;rfl) (by go_simp) ?_
  exact eqf_last (by rfl) (by go_simp;rfl) (by go_simp;rfl) (by go_simp)
end Go.Proofs.Ythfaimomcbmniaa.Z
end
