/- Parts of the proof of UsageSums: what its functions answer. -/
import Derived.Test.YtcenlehfbgnphaaMUsageSumsa
import Derived.Test.YtcenlehfbgnphaaMUsageSumsb
import Derived.Shelf.SlIter.Nil
import Derived.Shelf.SortM.Plain
import Derived.Shelf.SortM.SortNone
import Derived.Test.YtcenlehfbgnphaaProg
import Derived.Deep.RegionHeld3
import Derived.Deep.Cut
import Derived.Deep.CutRange
import Derived.StillTailTactics
import Derived.Laws.MakeOwn
import Derived.Lib.SliceRun
import Derived.Laws.Slices
section
namespace Go.Proofs.Ytcenlehfbgnphaa.Z
open Go.RowKit Go.Proofs.YtcenlehfbgnphaaW.PrintWords Go.Proofs.YtcenlehfbgnphaaW.PrintLast Go.Proofs.YtcenlehfbgnphaaW.PrintMore
attribute [local go_sem] max2_int min2_int max_two min_two max_three min_three max_four min_four
set_option linter.unusedVariables false
set_option linter.unusedSimpArgs false
mutual
def verdererref07_Name.j0 : Nat → ByteArray → Bool → Option (Bool)
  | 0,_,_ => none
  | k + 1,x0,x13 => if x13 = true then (some false) else (verdererref07_Name.l0 k x0 0)
def verdererref07_Name.l0 : Nat → ByteArray → Int → Option (Bool)
  | 0,_,_ => none
  | k + 1,x0,x3 => if x3 < (x0.size : Int) then (if 0 ≤ x3 then (if (bt x0 x3) ≥ 97 then (if ((bt x0 x3) ≤ 122) then (verdererref07_Name.l0 k x0 (wrap64 (x3 + 1))) else (if x3 = 0 then (some false) else (if (bt x0 x3) = 95 then (verdererref07_Name.l0 k x0 (wrap64 (x3 + 1))) else (if (bt x0 x3) < 48 then (some false) else (if (bt x0 x3) > 57 then (some false) else (verdererref07_Name.l0 k x0 (wrap64 (x3 + 1)))))))) else (if x3 = 0 then (some false) else (if (bt x0 x3) = 95 then (verdererref07_Name.l0 k x0 (wrap64 (x3 + 1))) else (if (bt x0 x3) < 48 then (some false) else (if (bt x0 x3) > 57 then (some false) else (verdererref07_Name.l0 k x0 (wrap64 (x3 + 1)))))))) else (none)) else (some true)
end
def verdererref07_Name.f (k : Nat) (a0 : ByteArray) : Option (Bool) := if (a0.size : Int) < 1 then (verdererref07_Name.j0 k a0 true) else (verdererref07_Name.j0 k a0 (decide ((a0.size : Int) > 16)))
theorem verdererref07_Name.mono_l : ∀ k,(∀ y0 y1,LeO (verdererref07_Name.j0 k y0 y1) (verdererref07_Name.j0 (k + 1) y0 y1)) ∧ (∀ y0 y1,LeO (verdererref07_Name.l0 k y0 y1) (verdererref07_Name.l0 (k + 1) y0 y1))
  | 0 => ⟨fun _ _ r h => by simp [verdererref07_Name.j0] at h,fun _ _ r h => by simp [verdererref07_Name.l0] at h⟩
  | k + 1 => by
    obtain ⟨ih0,ih1⟩ := verdererref07_Name.mono_l k
    refine ⟨?_,?_⟩
    · intro y0 y1
      unfold verdererref07_Name.j0
      repeat' first
      | (with_reducible exact ih0 _ _)
      | (with_reducible exact ih1 _ _)
      | (with_reducible exact LeO.refl _)
      | (with_reducible exact LeO.none _)
      | (with_reducible refine LeO.ite ?_ ?_)
      | (with_reducible refine LeO.bind ?_ (fun _ => ?_))
      | exact ih0 _ _
      | exact ih1 _ _
      | exact LeO.none _
      | refine LeO.ite ?_ ?_
      | refine LeO.bind ?_ (fun _ => ?_)
    · intro y0 y1
      unfold verdererref07_Name.l0
      repeat' first
      | (with_reducible exact ih0 _ _)
      | (with_reducible exact ih1 _ _)
      | (with_reducible exact LeO.refl _)
      | (with_reducible exact LeO.none _)
      | (with_reducible refine LeO.ite ?_ ?_)
      | (with_reducible refine LeO.bind ?_ (fun _ => ?_))
      | exact ih0 _ _
      | exact ih1 _ _
      | exact LeO.none _
      | refine LeO.ite ?_ ?_
      | refine LeO.bind ?_ (fun _ => ?_)
theorem verdererref07_Name.mono : ∀ a0 k,LeO (verdererref07_Name.f k a0) (verdererref07_Name.f (k + 1) a0) := by
  intro a0 k
  obtain ⟨ih0,ih1⟩ := verdererref07_Name.mono_l k
  unfold verdererref07_Name.f
  repeat' first
      | (with_reducible exact ih0 _ _)
      | (with_reducible exact ih1 _ _)
      | (with_reducible exact LeO.refl _)
      | (with_reducible exact LeO.none _)
      | (with_reducible refine LeO.ite ?_ ?_)
      | (with_reducible refine LeO.bind ?_ (fun _ => ?_))
      | exact ih0 _ _
      | exact ih1 _ _
      | exact LeO.none _
      | refine LeO.ite ?_ ?_
      | refine LeO.bind ?_ (fun _ => ?_)
set_option maxHeartbeats 8000000 in
set_option maxRecDepth 100000 in
theorem verdererref07_Name.calls (k : Nat) (a0 : ByteArray) (r : Bool) (w : World) (h : verdererref07_Name.f k a0 = some r) :
    Calls Try.prog 103 #[.string a0] w fun e w' => e = .returned (.bool r) ∧ Drawn0 w w' := by
  have H : (if (a0.size : Int) < 1 then (verdererref07_Name.j0 k a0 true) else (verdererref07_Name.j0 k a0 (decide ((a0.size : Int) > 16)))) = some r := h
  clear h
  have HC2 := Aside0.mk H
  clear H
  go_enter Try.func103,Try.ntmps103
  go_upto_region 1 with (fail)
  go_cut [13] (fun v13 wc => ∃ (kq : Nat) (x13_1 : Bool),v13 = .bool x13_1 ∧ Aside0 (verdererref07_Name.j0 kq a0 x13_1 = some r) ∧ Aside0 (kq ≤ k) ∧ Drawn0 w wc)
  case first =>
    have H := HC2.out
    clear HC2
    by_cases c3 : (a0.size : Int) < 1
    · rw [if_pos c3] at H
      have c3b0 : decide ((a0.size : Int) < 1) = true := decide_eq_true c3
      have c3b1 : decide (a0.size < 1) = true := decide_eq_true (by omega)
      clear c3
      (first | rw [c3b0] | (simp only [i64_w,i32_w];rw [c3b0]) | skip)
      have H' := Aside0.mk H
      clear H
      go_wp2
      go_meet
      case rel => exact ⟨_,(true),(by first | rfl | (simp;done) | (simp [*];done)),H',⟨by first | omega | exact Nat.le_refl _⟩,by repeat (first | exact Drawn0.refl _ | apply Drawn0.step)⟩
    · rw [if_neg c3] at H
      have c3b0 : decide ((a0.size : Int) < 1) = false := decide_eq_false c3
      have c3b1 : decide (a0.size < 1) = false := decide_eq_false (by omega)
      clear c3
      (first | rw [c3b0] | (simp only [i64_w,i32_w];rw [c3b0]) | skip)
      have H' := Aside0.mk H
      clear H
      go_wp2
      go_meet
      case rel => exact ⟨_,(decide ((a0.size : Int) > 16)),(by first | rfl | (simp;done) | (simp [*];done)),H',⟨by first | omega | exact Nat.le_refl _⟩,by repeat (first | exact Drawn0.refl _ | apply Drawn0.step)⟩
  case rest =>
    clear HC2
    try clear c1
    try clear p2
    try clear c3
    try clear c3b0
    try clear c3b1
    obtain ⟨kq,x13_1,rfl,HA,HJ1,⟨mc1,rfl⟩⟩ := hcut
    cases kq with
    | zero => exact absurd HA.out (by simp [verdererref07_Name.j0])
    | succ kj1 =>
      have H := HA.out
      clear HA
      simp only [verdererref07_Name.j0] at H
      by_cases c4 : x13_1 = true
      · subst c4
        have H1 : (some false) = some r := by rw [if_pos rfl] at H;exact H
        clear H
        have H := H1
        clear H1
        obtain rfl := Option.some.inj H
        go_wp2
        go_ret
        exact ⟨by first | rfl | (simp;done) | (simp [*];done),by repeat (first | exact Drawn0.refl _ | apply Drawn0.step)⟩
      · replace c4 := Bool.eq_false_iff.mpr c4
        subst c4
        have H1 : (verdererref07_Name.l0 kj1 a0 0) = some r := by rw [if_neg (show ¬ (false = true) by decide)] at H;exact H
        clear H
        have H := H1
        clear H1
        have H' := Aside0.mk H
        clear H
        go_wp2
        go_loopg [3] kj1 (fun kq v3 w' => ∃ (x3_2 : Int),v3 = .int .i64 x3_2 ∧ Aside0 (verdererref07_Name.l0 kq a0 x3_2 = some r) ∧ Aside0 (kq ≤ kj1) ∧ Drawn0 w w')
        case atStart => exact ⟨(0),(by first | rfl | (simp;done) | (simp [*];done)),H',⟨Nat.le_refl _⟩,by repeat (first | exact Drawn0.refl _ | apply Drawn0.step)⟩
        case round =>
          clear H'
          try clear c1
          try clear p2
          try clear c3
          try clear c3b0
          try clear c3b1
          try clear c4
          try clear p2
          obtain ⟨x3_2,rfl,HA,HK2,⟨m2,rfl⟩⟩ := hrel
          cases gk with
          | zero => exact absurd HA.out (by simp [verdererref07_Name.l0])
          | succ k2 =>
            have H := HA.out
            clear HA
            simp only [verdererref07_Name.l0] at H
            by_cases c5 : x3_2 < (a0.size : Int)
            · rw [if_pos c5] at H
              have c5b0 : decide (x3_2 < (a0.size : Int)) = true := decide_eq_true c5
              clear c5
              by_cases c6 : 0 ≤ x3_2
              · rw [if_pos c6] at H
                have c6b0 : decide (0 ≤ x3_2) = true := decide_eq_true c6
                clear c6
                by_cases c8 : (bt a0 x3_2) ≥ 97
                · rw [if_pos c8] at H
                  have c8b0 : decide (97 ≤ (bt a0 x3_2)) = true := decide_eq_true c8
                  clear c8
                  by_cases c9 : ((bt a0 x3_2) ≤ 122)
                  · rw [if_pos c9] at H
                    have c9b0 : decide ((bt a0 x3_2) ≤ 122) = true := decide_eq_true c9
                    clear c9
                    have H' := Aside0.mk H
                    clear H
                    have p7 : 0 ≤ (x3_2 : Int) := of_decide_eq_true (by first | (with_reducible assumption) | assumption)
                    have q7 : x3_2 < (a0.size : Int) := of_decide_eq_true (by first | (with_reducible assumption) | assumption)
                    have hx7 := bt_at a0 x3_2
                    replace p7 := eq_true p7
                    replace q7 := eq_true q7
                    go_wp2
                    go_roundg k2
                    case measure => have := HJ1.out;have := HK2.out;omega
                    case rel => exact ⟨(wrap64 (x3_2 + 1)),(by first | rfl | (simp;done) | (simp [*];done)),H',⟨by have := HJ1.out;have := HK2.out;omega⟩,by repeat (first | exact Drawn0.refl _ | apply Drawn0.step)⟩
                  · rw [if_neg c9] at H
                    have c9b0 : decide ((bt a0 x3_2) ≤ 122) = false := decide_eq_false c9
                    clear c9
                    by_cases c10 : x3_2 = 0
                    · rw [if_pos c10] at H
                      have c10b0 : (x3_2 == 0) = true := beq_iff_eq.mpr c10
                      have c10b1 : (x3_2 != 0) = false := bne_eq_false_iff_eq.mpr c10
                      clear c10
                      obtain rfl := Option.some.inj H
                      have p7 : 0 ≤ (x3_2 : Int) := of_decide_eq_true (by first | (with_reducible assumption) | assumption)
                      have q7 : x3_2 < (a0.size : Int) := of_decide_eq_true (by first | (with_reducible assumption) | assumption)
                      have hx7 := bt_at a0 x3_2
                      replace p7 := eq_true p7
                      replace q7 := eq_true q7
                      go_wp2
                      go_ret
                      exact ⟨by first | rfl | (simp;done) | (simp [*];done),by repeat (first | exact Drawn0.refl _ | apply Drawn0.step)⟩
                    · rw [if_neg c10] at H
                      have c10b0 : (x3_2 == 0) = false := beq_eq_false_iff_ne.mpr c10
                      have c10b1 : (x3_2 != 0) = true := bne_iff_ne.mpr c10
                      by_cases c11 : (bt a0 x3_2) = 95
                      · rw [if_pos c11] at H
                        have c11b0 : ((bt a0 x3_2) == 95) = true := beq_iff_eq.mpr c11
                        have c11b1 : ((bt a0 x3_2) != 95) = false := bne_eq_false_iff_eq.mpr c11
                        clear c11
                        have H' := Aside0.mk H
                        clear H
                        have p7 : 0 ≤ (x3_2 : Int) := of_decide_eq_true (by first | (with_reducible assumption) | assumption)
                        have q7 : x3_2 < (a0.size : Int) := of_decide_eq_true (by first | (with_reducible assumption) | assumption)
                        have hx7 := bt_at a0 x3_2
                        replace p7 := eq_true p7
                        replace q7 := eq_true q7
                        go_wp2
                        go_roundg k2
                        case measure => have := HJ1.out;have := HK2.out;omega
                        case rel => exact ⟨(wrap64 (x3_2 + 1)),(by first | rfl | (simp;done) | (simp [*];done)),H',⟨by have := HJ1.out;have := HK2.out;omega⟩,by repeat (first | exact Drawn0.refl _ | apply Drawn0.step)⟩
                      · rw [if_neg c11] at H
                        have c11b0 : ((bt a0 x3_2) == 95) = false := beq_eq_false_iff_ne.mpr c11
                        have c11b1 : ((bt a0 x3_2) != 95) = true := bne_iff_ne.mpr c11
                        by_cases c12 : (bt a0 x3_2) < 48
                        · rw [if_pos c12] at H
                          have c12b0 : decide ((bt a0 x3_2) < 48) = true := decide_eq_true c12
                          clear c12
                          obtain rfl := Option.some.inj H
                          have p7 : 0 ≤ (x3_2 : Int) := of_decide_eq_true (by first | (with_reducible assumption) | assumption)
                          have q7 : x3_2 < (a0.size : Int) := of_decide_eq_true (by first | (with_reducible assumption) | assumption)
                          have hx7 := bt_at a0 x3_2
                          replace p7 := eq_true p7
                          replace q7 := eq_true q7
                          go_wp2
                          go_ret
                          exact ⟨by first | rfl | (simp;done) | (simp [*];done),by repeat (first | exact Drawn0.refl _ | apply Drawn0.step)⟩
                        · rw [if_neg c12] at H
                          have c12b0 : decide ((bt a0 x3_2) < 48) = false := decide_eq_false c12
                          clear c12
                          by_cases c13 : (bt a0 x3_2) > 57
                          · rw [if_pos c13] at H
                            have c13b0 : decide (57 < (bt a0 x3_2)) = true := decide_eq_true c13
                            clear c13
                            obtain rfl := Option.some.inj H
                            have p7 : 0 ≤ (x3_2 : Int) := of_decide_eq_true (by first | (with_reducible assumption) | assumption)
                            have q7 : x3_2 < (a0.size : Int) := of_decide_eq_true (by first | (with_reducible assumption) | assumption)
                            have hx7 := bt_at a0 x3_2
                            replace p7 := eq_true p7
                            replace q7 := eq_true q7
                            go_wp2
                            go_ret
                            exact ⟨by first | rfl | (simp;done) | (simp [*];done),by repeat (first | exact Drawn0.refl _ | apply Drawn0.step)⟩
                          · rw [if_neg c13] at H
                            have c13b0 : decide (57 < (bt a0 x3_2)) = false := decide_eq_false c13
                            clear c13
                            have H' := Aside0.mk H
                            clear H
                            have p7 : 0 ≤ (x3_2 : Int) := of_decide_eq_true (by first | (with_reducible assumption) | assumption)
                            have q7 : x3_2 < (a0.size : Int) := of_decide_eq_true (by first | (with_reducible assumption) | assumption)
                            have hx7 := bt_at a0 x3_2
                            replace p7 := eq_true p7
                            replace q7 := eq_true q7
                            go_wp2
                            go_roundg k2
                            case measure => have := HJ1.out;have := HK2.out;omega
                            case rel => exact ⟨(wrap64 (x3_2 + 1)),(by first | rfl | (simp;done) | (simp [*];done)),H',⟨by have := HJ1.out;have := HK2.out;omega⟩,by repeat (first | exact Drawn0.refl _ | apply Drawn0.step)⟩
                · rw [if_neg c8] at H
                  have c8b0 : decide (97 ≤ (bt a0 x3_2)) = false := decide_eq_false c8
                  clear c8
                  by_cases c14 : x3_2 = 0
                  · rw [if_pos c14] at H
                    have c14b0 : (x3_2 == 0) = true := beq_iff_eq.mpr c14
                    have c14b1 : (x3_2 != 0) = false := bne_eq_false_iff_eq.mpr c14
                    clear c14
                    obtain rfl := Option.some.inj H
                    have p7 : 0 ≤ (x3_2 : Int) := of_decide_eq_true (by first | (with_reducible assumption) | assumption)
                    have q7 : x3_2 < (a0.size : Int) := of_decide_eq_true (by first | (with_reducible assumption) | assumption)
                    have hx7 := bt_at a0 x3_2
                    replace p7 := eq_true p7
                    replace q7 := eq_true q7
                    go_wp2
                    go_ret
                    exact ⟨by first | rfl | (simp;done) | (simp [*];done),by repeat (first | exact Drawn0.refl _ | apply Drawn0.step)⟩
                  · rw [if_neg c14] at H
                    have c14b0 : (x3_2 == 0) = false := beq_eq_false_iff_ne.mpr c14
                    have c14b1 : (x3_2 != 0) = true := bne_iff_ne.mpr c14
                    by_cases c15 : (bt a0 x3_2) = 95
                    · rw [if_pos c15] at H
                      have c15b0 : ((bt a0 x3_2) == 95) = true := beq_iff_eq.mpr c15
                      have c15b1 : ((bt a0 x3_2) != 95) = false := bne_eq_false_iff_eq.mpr c15
                      clear c15
                      have H' := Aside0.mk H
                      clear H
                      have p7 : 0 ≤ (x3_2 : Int) := of_decide_eq_true (by first | (with_reducible assumption) | assumption)
                      have q7 : x3_2 < (a0.size : Int) := of_decide_eq_true (by first | (with_reducible assumption) | assumption)
                      have hx7 := bt_at a0 x3_2
                      replace p7 := eq_true p7
                      replace q7 := eq_true q7
                      go_wp2
                      go_roundg k2
                      case measure => have := HJ1.out;have := HK2.out;omega
                      case rel => exact ⟨(wrap64 (x3_2 + 1)),(by first | rfl | (simp;done) | (simp [*];done)),H',⟨by have := HJ1.out;have := HK2.out;omega⟩,by repeat (first | exact Drawn0.refl _ | apply Drawn0.step)⟩
                    · rw [if_neg c15] at H
                      have c15b0 : ((bt a0 x3_2) == 95) = false := beq_eq_false_iff_ne.mpr c15
                      have c15b1 : ((bt a0 x3_2) != 95) = true := bne_iff_ne.mpr c15
                      by_cases c16 : (bt a0 x3_2) < 48
                      · rw [if_pos c16] at H
                        have c16b0 : decide ((bt a0 x3_2) < 48) = true := decide_eq_true c16
                        clear c16
                        obtain rfl := Option.some.inj H
                        have p7 : 0 ≤ (x3_2 : Int) := of_decide_eq_true (by first | (with_reducible assumption) | assumption)
                        have q7 : x3_2 < (a0.size : Int) := of_decide_eq_true (by first | (with_reducible assumption) | assumption)
                        have hx7 := bt_at a0 x3_2
                        replace p7 := eq_true p7
                        replace q7 := eq_true q7
                        go_wp2
                        go_ret
                        exact ⟨by first | rfl | (simp;done) | (simp [*];done),by repeat (first | exact Drawn0.refl _ | apply Drawn0.step)⟩
                      · rw [if_neg c16] at H
                        have c16b0 : decide ((bt a0 x3_2) < 48) = false := decide_eq_false c16
                        clear c16
                        by_cases c17 : (bt a0 x3_2) > 57
                        · rw [if_pos c17] at H
                          have c17b0 : decide (57 < (bt a0 x3_2)) = true := decide_eq_true c17
                          clear c17
                          obtain rfl := Option.some.inj H
                          have p7 : 0 ≤ (x3_2 : Int) := of_decide_eq_true (by first | (with_reducible assumption) | assumption)
                          have q7 : x3_2 < (a0.size : Int) := of_decide_eq_true (by first | (with_reducible assumption) | assumption)
                          have hx7 := bt_at a0 x3_2
                          replace p7 := eq_true p7
                          replace q7 := eq_true q7
                          go_wp2
                          go_ret
                          exact ⟨by first | rfl | (simp;done) | (simp [*];done),by repeat (first | exact Drawn0.refl _ | apply Drawn0.step)⟩
                        · rw [if_neg c17] at H
                          have c17b0 : decide (57 < (bt a0 x3_2)) = false := decide_eq_false c17
                          clear c17
                          have H' := Aside0.mk H
                          clear H
                          have p7 : 0 ≤ (x3_2 : Int) := of_decide_eq_true (by first | (with_reducible assumption) | assumption)
                          have q7 : x3_2 < (a0.size : Int) := of_decide_eq_true (by first | (with_reducible assumption) | assumption)
                          have hx7 := bt_at a0 x3_2
                          replace p7 := eq_true p7
                          replace q7 := eq_true q7
                          go_wp2
                          go_roundg k2
                          case measure => have := HJ1.out;have := HK2.out;omega
                          case rel => exact ⟨(wrap64 (x3_2 + 1)),(by first | rfl | (simp;done) | (simp [*];done)),H',⟨by have := HJ1.out;have := HK2.out;omega⟩,by repeat (first | exact Drawn0.refl _ | apply Drawn0.step)⟩
              · rw [if_neg c6] at H
                exact absurd H (by simp)
            · rw [if_neg c5] at H
              have c5b0 : decide (x3_2 < (a0.size : Int)) = false := decide_eq_false c5
              clear c5
              obtain rfl := Option.some.inj H
              go_wp2
              go_ret
              exact ⟨by first | rfl | (simp;done) | (simp [*];done),by repeat (first | exact Drawn0.refl _ | apply Drawn0.step)⟩
end Go.Proofs.Ytcenlehfbgnphaa.Z
end
section
namespace Go.Proofs.Ytcenlehfbgnphaa.Z
set_option linter.unusedVariables false
set_option linter.unusedSimpArgs false
open Go.RowKit Go.Proofs.YtcenlehfbgnphaaW.PrintWords Go.Proofs.YtcenlehfbgnphaaW.PrintLast Go.Proofs.YtcenlehfbgnphaaW.PrintMore
def letB (c : Int) : Bool := decide (97 ≤ c ∧ c ≤ 122)
def charB (c : Int) : Bool := decide ((97 ≤ c ∧ c ≤ 122) ∨ c = 95 ∨ (48 ≤ c ∧ c ≤ 57))
def restB (s : ByteArray) : Nat → Nat → Bool
  | 0,_ => true
  | d + 1,i => charB (bt s (i : Int)) && restB s d (i + 1)
theorem rest_succ (s : ByteArray) (d i : Nat) : restB s (d + 1) i = (charB (bt s (i : Int)) && restB s d (i + 1)) := rfl
def nameB (s : ByteArray) : Bool := decide (1 ≤ s.size ∧ s.size ≤ 16) && (letB (bt s 0) && restB s (s.size - 1) 1)
theorem let_char {c : Int} (h : letB c = true) : charB c = true := by
  unfold letB at h
  unfold charB
  have := of_decide_eq_true h
  exact decide_eq_true (.inl this)
theorem letter_f (c : Int) : schema_letter.f c = some (letB c) := by
  unfold schema_letter.f letB
  by_cases h : c ≥ 97
  · rw [if_pos h]
    congr 1
    by_cases h2 : c ≤ 122
    · rw [decide_eq_true h2,decide_eq_true ⟨h,h2⟩]
    · rw [decide_eq_false h2,decide_eq_false (by omega)]
  · rw [if_neg h,decide_eq_false (by omega)]
theorem name_l0 (s : ByteArray) (hs : s.size ≤ 16) : ∀ d i k,s.size - i = d → i ≤ s.size → d + 1 < k → schema_Name.l0 k s (s.size : Int) (i : Int) = some (restB s d i) := by
  intro d
  induction d with
  | zero =>
    intro i k hd hi hk
    obtain ⟨k,rfl⟩ : ∃ m,k = m + 1 := ⟨k - 1,by omega⟩
    simp only [schema_Name.l0]
    rw [if_neg (by omega)]
    rfl
  | succ d ih =>
    intro i k hd hi hk
    obtain ⟨k,rfl⟩ : ∃ m,k = m + 1 := ⟨k - 1,by omega⟩
    have hw : wrap64 ((i : Int) + 1) = ((i + 1 : Nat) : Int) := by unfold wrap64;omega
    have hn := ih (i + 1) k (by omega) (by omega) (by omega)
    simp only [schema_Name.l0]
    rw [if_pos (by omega),if_pos (by omega),if_pos (by omega),letter_f,Option.bind_some,hw,hn]
    rw [rest_succ]
    by_cases h1 : letB (bt s (i : Int)) = true
    · rw [if_pos h1,let_char h1];rfl
    · rw [if_neg h1]
      have h2 : ¬ (97 ≤ bt s (i : Int) ∧ bt s (i : Int) ≤ 122) := fun h => h1 (decide_eq_true h)
      by_cases h3 : bt s (i : Int) = 95
      · have hc : charB (bt s (i : Int)) = true := decide_eq_true (.inr (.inl h3))
        rw [hc,if_neg (by omega),if_pos (by omega),if_pos h3];rfl
      · by_cases h4 : bt s (i : Int) < 48
        · have hc : charB (bt s (i : Int)) = false := decide_eq_false (by omega)
          rw [hc,if_pos h4,if_neg h3];rfl
        · by_cases h5 : bt s (i : Int) > 57
          · have hc : charB (bt s (i : Int)) = false := decide_eq_false (by omega)
            rw [hc,if_neg h4,if_pos h5,if_neg h3];rfl
          · have hc : charB (bt s (i : Int)) = true := decide_eq_true (by omega)
            rw [hc,if_neg h4,if_neg h5];rfl
theorem name_f (s : ByteArray) (k : Nat) (hk : 40 < k) : schema_Name.f k s = some (nameB s) := by
  obtain ⟨k,rfl⟩ : ∃ m,k = m + 1 := ⟨k - 1,by omega⟩
  unfold schema_Name.f nameB
  by_cases h0 : s.toList = ([] : List UInt8)
  · have hz : s.size = 0 := by
      rw [ByteArray.toList_eq] at h0
      have := congrArg List.length h0
      simpa using this
    rw [if_pos h0,decide_eq_false (by omega)]
    simp [schema_Name.j0]
  · have hz : s.size ≠ 0 := by
      intro e
      apply h0
      rw [ByteArray.toList_eq]
      apply List.eq_nil_of_length_eq_zero
      rw [Array.length_toList]
      exact e
    rw [if_neg h0]
    by_cases h1 : (s.size : Int) > 16
    · rw [if_pos h1,decide_eq_false (by omega)]
      simp [schema_Name.j0]
    · rw [if_neg h1,if_pos (by omega),letter_f,Option.bind_some,decide_eq_true (show 1 ≤ s.size ∧ s.size ≤ 16 by omega)]
      simp only [schema_Name.j0,Bool.true_and]
      cases h2 : letB (bt s 0) with
      | false => simp
      | true =>
        rw [if_neg (by simp)]
        have h3 := name_l0 s (by omega) s.size 0 k (by omega) (by omega) (by omega)
        rw [show ((0 : Nat) : Int) = 0 from rfl] at h3
        rw [h3]
        obtain ⟨m,hm⟩ : ∃ m,s.size = m + 1 := ⟨s.size - 1,by omega⟩
        rw [hm]
        show some (charB (bt s ((0 : Nat) : Int)) && restB s m (0 + 1)) = some (true && restB s m 1)
        rw [show ((0 : Nat) : Int) = 0 from rfl,let_char h2]
theorem ref_name_l0 (s : ByteArray) (hs : s.size ≤ 16) : ∀ d i k,s.size - i = d → 1 ≤ i → i ≤ s.size → d + 1 < k → verdererref07_Name.l0 k s (i : Int) = some (restB s d i) := by
  intro d
  induction d with
  | zero =>
    intro i k hd h1 hi hk
    obtain ⟨k,rfl⟩ : ∃ m,k = m + 1 := ⟨k - 1,by omega⟩
    simp only [verdererref07_Name.l0]
    rw [if_neg (by omega)]
    rfl
  | succ d ih =>
    intro i k hd h1i hi hk
    obtain ⟨k,rfl⟩ : ∃ m,k = m + 1 := ⟨k - 1,by omega⟩
    have hw : wrap64 ((i : Int) + 1) = ((i + 1 : Nat) : Int) := by unfold wrap64;omega
    have hn := ih (i + 1) k (by omega) (by omega) (by omega) (by omega)
    simp only [verdererref07_Name.l0]
    rw [if_pos (by omega),if_pos (by omega),hw,hn]
    rw [rest_succ]
    have i0 : ¬ ((i : Int) = 0) := by omega
    generalize bt s (i : Int) = c
    by_cases h1 : c ≥ 97
    · rw [if_pos h1]
      by_cases h2 : c ≤ 122
      · have hc : charB c = true := decide_eq_true (by omega)
        rw [if_pos h2,hc];rfl
      · have hc : charB c = false := decide_eq_false (by omega)
        rw [if_neg h2,if_neg i0,if_neg (by omega),if_neg (by omega),if_pos (by omega),hc];rfl
    · rw [if_neg h1,if_neg i0]
      by_cases h3 : c = 95
      · have hc : charB c = true := decide_eq_true (by omega)
        rw [if_pos h3,hc];rfl
      · rw [if_neg h3]
        by_cases h4 : c < 48
        · have hc : charB c = false := decide_eq_false (by omega)
          rw [if_pos h4,hc];rfl
        · rw [if_neg h4]
          by_cases h5 : c > 57
          · have hc : charB c = false := decide_eq_false (by omega)
            rw [if_pos h5,hc];rfl
          · have hc : charB c = true := decide_eq_true (by omega)
            rw [if_neg h5,hc];rfl
theorem ref_name_f (s : ByteArray) (k : Nat) (hk : 40 < k) : verdererref07_Name.f k s = some (nameB s) := by
  obtain ⟨k,rfl⟩ : ∃ m,k = m + 2 := ⟨k - 2,by omega⟩
  unfold verdererref07_Name.f nameB
  by_cases h0 : (s.size : Int) < 1
  · rw [if_pos h0,decide_eq_false (by omega)]
    simp [verdererref07_Name.j0]
  · rw [if_neg h0]
    by_cases h1 : (s.size : Int) > 16
    · rw [decide_eq_true h1,decide_eq_false (by omega)]
      simp [verdererref07_Name.j0]
    · rw [decide_eq_false h1,decide_eq_true (show 1 ≤ s.size ∧ s.size ≤ 16 by omega)]
      simp only [verdererref07_Name.j0,Bool.true_and,Bool.false_eq_true,if_false]
      have h3 := ref_name_l0 s (by omega) (s.size - 1) 1 k (by omega) (by omega) (by omega) (by omega)
      simp only [verdererref07_Name.l0]
      rw [if_pos (by omega),if_pos (by omega),show wrap64 (0 + 1) = ((1 : Nat) : Int) from by unfold wrap64;decide,h3]
      unfold letB
      by_cases h4 : bt s 0 ≥ 97
      · rw [if_pos h4]
        by_cases h5 : bt s 0 ≤ 122
        · rw [if_pos h5,decide_eq_true (show 97 ≤ bt s 0 ∧ bt s 0 ≤ 122 from ⟨h4,h5⟩)];rfl
        · rw [if_neg h5,if_pos trivial,decide_eq_false (by omega)];rfl
      · rw [if_neg h4,if_pos trivial,decide_eq_false (by omega)];rfl
theorem name_size {s : ByteArray} (h : nameB s = true) : 1 ≤ s.size ∧ s.size ≤ 16 := by
  unfold nameB at h
  rw [Bool.and_eq_true] at h
  exact of_decide_eq_true h.1
end Go.Proofs.Ytcenlehfbgnphaa.Z
end
section
namespace Go.Proofs.Ytcenlehfbgnphaa.Z
set_option linter.unusedVariables false
set_option linter.unusedSimpArgs false
open Go.RowKit
inductive Ch (L : List Tn) : Nm → List Nm → Prop
  | stop {n : Nm} : getT L n = none → Ch L n []
  | go {n p : Nm} {l : List Nm} : getT L n = some p → Ch L p l → Ch L n (n :: l)
theorem Ch.up {L : List Tn} {n : Nm} {l : List Nm} (h : Ch L n l) : ∀ k,l.length < k → upL L k n = l := by
  induction h with
  | stop h =>
    intro k hk
    obtain ⟨k,rfl⟩ : ∃ m,k = m + 1 := ⟨k - 1,by simp at hk;omega⟩
    show (match getT L _ with | none => [] | some p => _ :: upL L k p) = []
    rw [h]
  | go h _ ih =>
    intro k hk
    obtain ⟨k,rfl⟩ : ∃ m,k = m + 1 := ⟨k - 1,by simp at hk;omega⟩
    show (match getT L _ with | none => [] | some p => _ :: upL L k p) = _
    rw [h]
    show _ :: upL L k _ = _
    rw [ih k (by simpa using hk)]
theorem Ch.uniq {L : List Tn} {n : Nm} {l : List Nm} (h : Ch L n l) : ∀ {m},Ch L n m → l = m := by
  induction h with
  | stop h =>
    intro m hm
    cases hm with
    | stop _ => rfl
    | go h2 _ => rw [h] at h2;cases h2
  | go h _ ih =>
    intro m hm
    cases hm with
    | stop h2 => rw [h] at h2;cases h2
    | go h2 h3 =>
      rw [h] at h2
      injection h2 with h2
      subst h2
      rw [ih h3]
theorem ch_of_up {L : List Tn} : ∀ k n,(upL L k n).length < k → Ch L n (upL L k n)
  | 0,n,h => absurd h (Nat.not_lt_zero _)
  | k + 1,n,h => by
    cases hg : getT L n with
    | none =>
      have e : upL L (k + 1) n = [] := by
        show (match getT L n with | none => [] | some p => n :: upL L k p) = []
        rw [hg]
      rw [e]
      exact .stop hg
    | some p =>
      have e : upL L (k + 1) n = n :: upL L k p := by
        show (match getT L n with | none => [] | some p => n :: upL L k p) = _
        rw [hg]
      rw [e] at h ⊢
      exact .go hg (ch_of_up k p (by simpa using h))
theorem Shallow.ch {L : List Tn} (h : Shallow L) (n : Nm) : Ch L n (abv L n) := ch_of_up 6 n (by have := h n;omega)
theorem shallow_of {L : List Tn} (h : ∀ n,∃ l,Ch L n l ∧ l.length ≤ 5) : Shallow L := fun n => by
  obtain ⟨l,h1,h2⟩ := h n
  rw [h1.up 6 (by omega)]
  exact h2
structure Ok (L : List Tn) : Prop where
  sh : Shallow L
  nm : ∀ p ∈ L,nameB p.1 = true
  pr : ∀ p ∈ L,p.2 = emp ∨ getT L p.2 ≠ none
  len : L.length ≤ 24
theorem name_emp : nameB emp = false := by
  unfold nameB
  rw [decide_eq_false (by show ¬ (1 ≤ 0 ∧ 0 ≤ 16);omega)]
  rfl
theorem Ok.key {L : List Tn} (h : Ok L) {n p : Nm} (hg : getT L n = some p) : nameB n = true := h.nm _ (getT_mem L n p hg)
theorem Ok.psize {L : List Tn} (h : Ok L) : ∀ p ∈ L,p.2.size ≤ maxLen := by
  intro p hp
  rcases h.pr p hp with e | e
  · rw [e];exact Nat.zero_le _
  · cases hg : getT L p.2 with
    | none => exact absurd hg e
    | some q =>
      have := (name_size (h.key hg)).2
      unfold maxLen
      omega
theorem Ok.nil : Ok [] := ⟨fun n => by show (match getT [] n with | none => [] | some p => n :: upL [] 5 p).length ≤ 5;exact Nat.zero_le _,by simp,by simp,by simp⟩
theorem Ch.stay {L L' : List Tn} {n : Nm} (hne : ∀ m,m ≠ n → getT L' m = getT L m) {x : Nm} {l : List Nm} (h : Ch L x l) : n ∉ l → (x = n → l ≠ []) → (∀ m ∈ l,∀ q,getT L m = some q → q = n → getT L n ≠ none) → Ch L' x l := by
  induction h with
  | stop h =>
    intro _ h2 _
    refine .stop ?_
    rw [hne _ (fun e => h2 e rfl)]
    exact h
  | @go m p l h hc ih =>
    intro h1 _ h3
    have hm : m ≠ n := fun e => h1 (by rw [e];exact List.mem_cons_self)
    refine .go (by rw [hne m hm];exact h) (ih (fun h4 => h1 (List.mem_cons_of_mem _ h4)) (fun e hl => ?_) (fun a ha => h3 a (List.mem_cons_of_mem _ ha)))
    subst hl
    cases hc with
    | stop h5 => exact h3 m List.mem_cons_self p h e (by rw [← e];exact h5)
def insL (x : Tn) : List Tn → List Tn
  | [] => [x]
  | y :: r => if (lk x.1).before (lk y.1) then x :: y :: r else y :: insL x r
def delL (n : Nm) (L : List Tn) : List Tn := L.filter fun q => !decide (q.1 = n)
def putTn (n p : Nm) (L : List Tn) : List Tn := insL (n,p) (delL n L)
theorem ins_map (x : Tn) : ∀ L : List Tn,(insL x L).map (fun p => (lk p.1,(DataW.lit (lk p.2) : DataW Unit))) = DataW.insert (lk x.1,.lit (lk x.2)) (L.map fun p => (lk p.1,(DataW.lit (lk p.2) : DataW Unit)))
  | [] => rfl
  | y :: r => by
    unfold insL
    show _ = if (lk x.1).before (lk y.1) then _ else _
    by_cases h : (lk x.1).before (lk y.1) = true
    · rw [if_pos h,if_pos h];rfl
    · rw [if_neg h,if_neg h,List.map_cons,ins_map x r]
theorem del_map (n : Nm) (L : List Tn) : (delL n L).map (fun p => (lk p.1,(DataW.lit (lk p.2) : DataW Unit))) = (L.map fun p => (lk p.1,(DataW.lit (lk p.2) : DataW Unit))).filter (fun p => !p.1.sameKey (lk n)) := by
  unfold delL
  induction L with
  | nil => rfl
  | cons q r ih =>
    have e := same_lk q.1 n
    simp only [List.filter_cons,List.map_cons,e]
    cases decide (q.1 = n) with
    | true => simpa using ih
    | false => simpa using ih
theorem mapD_del (n : Nm) (L : List Tn) : mapD (delL n L) = (mapD L).del (lk n) := by
  unfold mapD
  show _ = DataW.map _
  rw [del_map]
theorem mapD_put (n p : Nm) (L : List Tn) : mapD (putTn n p L) = (mapD L).put (lk n) (.lit (lk p)) := by
  unfold mapD putTn
  show _ = DataW.map _
  rw [ins_map,del_map]
theorem mem_ins (x q : Tn) : ∀ L : List Tn,q ∈ insL x L ↔ q = x ∨ q ∈ L
  | [] => by simp [insL]
  | y :: r => by
    unfold insL
    split
    · simp
    · rw [List.mem_cons,mem_ins x q r,List.mem_cons]
      constructor
      · rintro (h | h | h)
        · exact .inr (.inl h)
        · exact .inl h
        · exact .inr (.inr h)
      · rintro (h | h | h)
        · exact .inr (.inl h)
        · exact .inl h
        · exact .inr (.inr h)
theorem mem_del (n : Nm) (q : Tn) (L : List Tn) : q ∈ delL n L ↔ q ∈ L ∧ q.1 ≠ n := by
  unfold delL
  rw [List.mem_filter]
  simp
theorem mem_put (n p : Nm) (q : Tn) (L : List Tn) : q ∈ putTn n p L ↔ q = (n,p) ∨ (q ∈ L ∧ q.1 ≠ n) := by
  unfold putTn
  rw [mem_ins,mem_del]
theorem getT_del (n m : Nm) : ∀ L : List Tn,getT (delL n L) m = if m = n then none else getT L m
  | [] => by unfold delL;simp [getT]
  | q :: r => by
    have ih := getT_del n m r
    unfold delL at ih ⊢
    rw [List.filter_cons]
    by_cases h : q.1 = n
    · rw [decide_eq_true h,if_neg (by simp),ih,getT_cons]
      by_cases h2 : m = n
      · rw [if_pos h2,if_pos h2]
      · rw [if_neg h2,if_neg h2,if_neg (fun e => h2 (by rw [← e,h]))]
    · rw [decide_eq_false h,if_pos (by rfl),getT_cons,ih,getT_cons]
      by_cases h2 : m = n
      · rw [if_pos h2,if_pos h2,if_neg (fun e => h (by rw [e,h2]))]
      · rw [if_neg h2,if_neg h2]
theorem getT_ins (n p m : Nm) : ∀ L : List Tn,(∀ q ∈ L,q.1 ≠ n) → getT (insL (n,p) L) m = if m = n then some p else getT L m
  | [],_ => by
    unfold insL
    rw [getT_cons]
    by_cases h : m = n
    · rw [if_pos h,if_pos h.symm]
    · rw [if_neg h,if_neg (fun e => h e.symm)]
  | y :: r,hy => by
    have ih := getT_ins n p m r (fun q hq => hy q (List.mem_cons_of_mem _ hq))
    have hy0 := hy y List.mem_cons_self
    unfold insL
    split
    · rw [getT_cons]
      by_cases h : m = n
      · rw [if_pos h,if_pos h.symm]
      · rw [if_neg h,if_neg (fun e => h e.symm)]
    · rw [getT_cons,ih,getT_cons]
      by_cases h : m = n
      · rw [if_pos h,if_pos h,if_neg (fun e => hy0 (by rw [e,h]))]
      · rw [if_neg h,if_neg h]
theorem getT_put (n p m : Nm) (L : List Tn) : getT (putTn n p L) m = if m = n then some p else getT L m := by
  unfold putTn
  rw [getT_ins n p m _ (fun q hq => ((mem_del n q L).1 hq).2),getT_del]
  by_cases h : m = n
  · rw [if_pos h,if_pos h]
  · rw [if_neg h,if_neg h,if_neg h]
theorem ins_len (x : Tn) : ∀ L : List Tn,(insL x L).length = L.length + 1
  | [] => rfl
  | y :: r => by
    unfold insL
    split
    · rfl
    · rw [List.length_cons,ins_len x r,List.length_cons]
theorem del_none {n : Nm} : ∀ {L : List Tn},getT L n = none → delL n L = L := by
  intro L h
  unfold delL
  rw [List.filter_eq_self]
  intro q hq
  rw [decide_eq_false ((getT_none L n).1 h q hq)]
  rfl
theorem put_len_new {n p : Nm} {L : List Tn} (h : getT L n = none) : (putTn n p L).length = L.length + 1 := by
  unfold putTn
  rw [ins_len,del_none h]
theorem del_len {n : Nm} : ∀ {L : List Tn},(L.map Prod.fst).Nodup → getT L n ≠ none → (delL n L).length + 1 = L.length
  | [],_,h => absurd rfl h
  | q :: r,hn,h => by
    rw [List.map_cons,List.nodup_cons] at hn
    unfold delL
    rw [List.filter_cons]
    by_cases e : q.1 = n
    · rw [decide_eq_true e,if_neg (by simp)]
      have h1 : getT r n = none := (getT_none r n).2 (fun p hp he => hn.1 (List.mem_map.2 ⟨p,hp,by rw [he,e]⟩))
      have h2 := del_none h1
      unfold delL at h2
      rw [h2,List.length_cons]
    · rw [decide_eq_false e,if_pos (by rfl),List.length_cons,List.length_cons]
      rw [getT_cons,if_neg e] at h
      have := del_len hn.2 h
      unfold delL at this
      omega
theorem put_len_old {n p : Nm} {L : List Tn} (hn : (L.map Prod.fst).Nodup) (h : getT L n ≠ none) : (putTn n p L).length = L.length := by
  unfold putTn
  rw [ins_len]
  exact del_len hn h
theorem Ok.add {L : List Tn} (h : Ok L) {n p : Nm} (hn : nameB n = true) (hg : getT L n = none) (hp : p = emp ∨ getT L p ≠ none) (hd : (abv L p).length < 5) (hl : L.length < 24) : Ok (putTn n p L) := by
  have hsame : ∀ m,m ≠ n → getT (putTn n p L) m = getT L m := fun m hm => by rw [getT_put,if_neg hm]
  have hpar : ∀ m q,getT L m = some q → q ≠ n := fun m q hmq e => by
    rcases h.pr _ (getT_mem L m q hmq) with h1 | h1
    · have h1 : q = emp := h1
      rw [← e,h1,name_emp] at hn;cases hn
    · exact h1 (by show getT L q = none;rw [e];exact hg)
  have hch : ∀ x,x ≠ n → Ch (putTn n p L) x (abv L x) := fun x hx =>
    Ch.stay hsame (h.sh.ch x) (fun hm => by
      have : ∀ {x l},Ch L x l → ∀ m ∈ l,getT L m ≠ none := fun hc => by
        induction hc with
        | stop _ => intro m hm;cases hm
        | go h1 _ ih =>
          intro m hm
          rcases List.mem_cons.1 hm with rfl | hm
          · rw [h1];simp
          · exact ih m hm
      exact this (h.sh.ch x) n hm hg) (fun e => absurd e hx) (fun m _ q hq e => absurd e (hpar m q hq))
  have hpn : p ≠ n := fun e => by
    rcases hp with h1 | h1
    · rw [← e,h1,name_emp] at hn;cases hn
    · exact h1 (by rw [e];exact hg)
  refine ⟨shallow_of fun x => ?_,fun q hq => ?_,fun q hq => ?_,by rw [put_len_new hg];omega⟩
  · by_cases hx : x = n
    · subst hx
      exact ⟨_,.go (by rw [getT_put,if_pos rfl]) (hch p hpn),by rw [List.length_cons];omega⟩
    · exact ⟨_,hch x hx,h.sh x⟩
  · rcases (mem_put n p q L).1 hq with rfl | ⟨hq,_⟩
    · exact hn
    · exact h.nm q hq
  · rcases (mem_put n p q L).1 hq with rfl | ⟨hq,hqn⟩
    · rcases hp with h1 | h1
      · exact .inl h1
      · exact .inr (by show getT _ p ≠ none;rw [hsame p hpn];exact h1)
    · rcases h.pr q hq with h1 | h1
      · exact .inl h1
      · by_cases e : q.2 = n
        · exact .inr (by rw [e,getT_put,if_pos rfl];simp)
        · exact .inr (by rw [hsame _ e];exact h1)
end Go.Proofs.Ytcenlehfbgnphaa.Z
end
section
namespace Go.Proofs.Ytcenlehfbgnphaa.Z
set_option linter.unusedVariables false
set_option linter.unusedSimpArgs false
open Go.RowKit Go.Shelf Go.Maps Go.Proofs.YtcenlehfbgnphaaW.PrintWords Go.Proofs.YtcenlehfbgnphaaW.PrintLast Go.Proofs.YtcenlehfbgnphaaW.PrintMore Go.Proofs.Ytcenlehfbgnphaa.Cmp
theorem own_tight {w : World} {b n : Nat} {D : DataW Unit} (h : w.ownsMap Try.prog 9 RvS b n D) : w.ownsMap Try.prog 9 RvS b (Maps.size D) D := by
  obtain ⟨es,clock,h1,h2,h3,rfl⟩ := h
  refine ⟨es,clock,h1,h2,?_,rfl⟩
  rw [size_eq,length_sorted]
  simp
theorem TreeAt.turned {w w1 : World} {t b n : Nat} {L L' : List Tn} (h : TreeAt w t b L) (hg : w.grownBy w1 (some b)) (hm : w1.ownsMap Try.prog 9 RvS b n (mapD L')) : TreeAt w1 t b L' :=
  ⟨(hg.block t (blk_lt h.blk) (fun e => by
    injection e with e
    subst e
    obtain ⟨es,clock,h1,_⟩ := h.map
    rw [h.blk] at h1
    cases h1)).trans h.blk,by have := own_tight hm;rw [size_mapD] at this;exact this⟩
theorem grown_refl (w : World) (row : Option Nat) : w.grownBy w row := ⟨rfl,rfl,rfl,Nat.le_refl _,fun _ _ _ => rfl⟩
theorem grown_of_below {w w1 : World} (h : Below w.heap.size w w1) (row : Option Nat) : w.grownBy w1 row := ⟨h.os,h.tape,h.output,h.size,fun k hk _ => h.block k hk⟩
theorem grown_trans {a b c : World} {row : Option Nat} (h : a.grownBy b row) (k : b.grownBy c row) : a.grownBy c row :=
  ⟨k.os.trans h.os,k.tape.trans h.tape,k.output.trans h.output,Nat.le_trans h.size k.size,fun i hi hn => (k.block i (Nat.lt_of_lt_of_le hi h.size) hn).trans (h.block i hi hn)⟩
set_option maxHeartbeats 4000000 in
set_option maxRecDepth 100000 in
theorem ten_new (w : World) : Calls Try.prog 80 #[] w fun e w' => ∃ t b,e = .returned (.pointer (some ⟨t,0,none⟩)) ∧ TreeAt w' t b [] ∧ Below w.heap.size w w' ∧ w.heap.size ≤ t ∧ w.heap.size ≤ b := by
  have hmm := @run_makeMap Try.prog
  have HO := Aside0.mk (World.ownsMap_made w Try.prog 9 RvS)
  have HB := Aside0.mk (below_alloc (Below.refl w.heap.size w) (.map #[] 0))
  go_enter Try.func80,Try.ntmps80
  go_wp2
  go_ret
  refine ⟨_,w.heap.size,rfl,⟨by have := blk_new (w.alloc (.map #[] 0)) (.cells #[.map (some w.heap.size)] tT);simpa using this,?_⟩,below_alloc HB.out _,by simp,Nat.le_refl _⟩
  exact HO.out.alloc _
def orph (L : List Tn) (p : Nm) : Bool := !decide (p = emp) && (getT L p).isNone
theorem neS (x : Nm) : (ByteArray.toList x == ([] : List UInt8)) = decide (x = emp) := by
  have := eqS x emp
  rw [← this]
  congr 1
  rw [ByteArray.toList_eq]
  rfl
set_option maxHeartbeats 4000000 in
set_option maxRecDepth 100000 in
theorem ten_orphan {w : World} {n₀ : Nat} {v : Value} {L : List Tn} (h : TreeV w n₀ v L) (p : Nm) (hp : p.size ≤ maxLen) : Calls Try.prog 101 #[v,.string p] w fun e w' => e = .returned (.bool (orph L p)) ∧ w' = w := by
  have HH := Aside0.mk (ten_has h p hp)
  have HO := Aside0.mk (show orph L p = (!decide (p = emp) && (getT L p).isNone) from rfl)
  obtain ⟨q,hq⟩ : ∃ q,v = .pointer q := by rcases h.ptr with h | ⟨t,h⟩ <;> exact ⟨_,h⟩
  subst hq
  clear h
  by_cases he : p = emp
  · have q0 : (ByteArray.toList p == ([] : List UInt8)) = true := by rw [neS,decide_eq_true he]
    have HOE := Aside0.mk (show orph L p = false by rw [HO.out,decide_eq_true he];rfl)
    rw [HOE.out]
    clear he
    go_enter Try.func101,Try.ntmps101
    go_wp2_with (fail)
    go_ret
    exact ⟨rfl,rfl⟩
  · have q0 : (ByteArray.toList p == ([] : List UInt8)) = false := by rw [neS,decide_eq_false he]
    have HOE := Aside0.mk (show orph L p = !(getT L p).isSome by rw [HO.out,decide_eq_false he];cases getT L p <;> rfl)
    rw [HOE.out]
    generalize (getT L p).isSome = r at HH ⊢
    clear he
    go_enter Try.func101,Try.ntmps101
    go_wp2_with (fail)
    refine HH.out.mono ?_
    rintro e w' ⟨rfl,rfl⟩
    cases r
    · go_wp2_with (fail)
      go_ret
      exact ⟨rfl,rfl⟩
    · go_wp2_with (fail)
      go_ret
      exact ⟨rfl,rfl⟩
def addP (L : List Tn) (n p : Nm) : Int × List Tn :=
  if nameB n = false then (3,L) else if (getT L n).isSome = true then (4,L) else if orph L p = true then (18,L) else if 5 ≤ (abv L p).length then (17,L) else if 24 ≤ L.length then (6,L) else (0,putTn n p L)
set_option maxHeartbeats 8000000 in
set_option maxRecDepth 100000 in
theorem ten_add {w : World} {t b : Nat} {L : List Tn} (h : TreeAt w t b L) (hO : Ok L) (n p : Nm) (hn : n.size ≤ maxLen) (hp : p.size ≤ maxLen) :
    Calls Try.prog 81 #[.pointer (some ⟨t,0,none⟩),.string n,.string p] w fun e w' => e = .returned (.int .i64 (addP L n p).1) ∧ TreeAt w' t b (addP L n p).2 ∧ w.grownBy w' (some b) := by
  have HA := Aside0.mk h
  have NM := Aside0.mk (fun w' => schema_Name.calls 41 n (nameB n) w' (name_f n 41 (by omega)))
  have HO := Aside0.mk hO
  have HP := Aside0.mk hp
  have HN := Aside0.mk hn
  have HD := Aside0.mk (show addP L n p = (if nameB n = false then (3,L) else if (getT L n).isSome = true then (4,L) else if orph L p = true then (18,L) else if 5 ≤ (abv L p).length then (17,L) else if 24 ≤ L.length then (6,L) else (0,putTn n p L)) from rfl)
  clear h hO
  generalize addP L n p = R at HD ⊢
  go_enter Try.func81,Try.ntmps81
  go_wp2_with (fail)
  refine (NM.out w).mono ?_
  rintro e w1 ⟨rfl,hb1⟩
  have A1 := Aside0.mk (HA.out.below hb1.below)
  have G1 := Aside0.mk (grown_of_below hb1.below (some b))
  clear hb1 HA NM
  cases hnb : nameB n with
  | false =>
    rw [hnb,if_pos rfl] at HD
    go_wp2_with (fail)
    go_ret
    rw [HD.out]
    exact ⟨rfl,A1.out,G1.out⟩
  | true =>
    rw [hnb,if_neg (by simp)] at HD
    have NB := Aside0.mk hnb
    clear hnb
    go_wp2_with (fail)
    refine (ten_has A1.out.v n HN.out).mono ?_
    rintro e w2 ⟨rfl,rfl⟩
    cases hgn : (getT L n).isSome with
    | true =>
      rw [hgn,if_pos rfl] at HD
      go_wp2_with (fail)
      go_ret
      rw [HD.out]
      exact ⟨rfl,A1.out,G1.out⟩
    | false =>
      rw [hgn,if_neg (by simp)] at HD
      have NG := Aside0.mk hgn
      clear hgn
      go_wp2_with (fail)
      refine (ten_orphan A1.out.v p HP.out).mono ?_
      rintro e w3 ⟨rfl,rfl⟩
      cases hor : orph L p with
      | true =>
        rw [hor,if_pos rfl] at HD
        go_wp2_with (fail)
        go_ret
        rw [HD.out]
        exact ⟨rfl,A1.out,G1.out⟩
      | false =>
        rw [hor,if_neg (by simp)] at HD
        clear hor
        go_wp2_with (fail)
        refine (ten_depth A1.out.v HO.out.sh HO.out.psize p HP.out).mono ?_
        rintro e w4 ⟨rfl,hb4⟩
        have A4 := Aside0.mk (A1.out.below hb4)
        have G4 := Aside0.mk (grown_trans G1.out (grown_of_below hb4 (some b)))
        clear hb4 A1 G1
        by_cases hd : 5 ≤ (abv L p).length
        · rw [if_pos hd] at HD
          have q1 : decide (((abv L p).length : Int) ≥ 5) = true := decide_eq_true (by omega)
          have q2 : decide ((5 : Int) ≤ ((abv L p).length : Int)) = true := decide_eq_true (by omega)
          clear hd
          go_wp2_with (fail)
          go_ret
          rw [HD.out]
          exact ⟨rfl,A4.out,G4.out⟩
        · rw [if_neg hd] at HD
          have q1 : decide (((abv L p).length : Int) ≥ 5) = false := decide_eq_false (by omega)
          have q2 : decide ((5 : Int) ≤ ((abv L p).length : Int)) = false := decide_eq_false (by omega)
          have x0 : w4.cell? ⟨t,0,none⟩ = some (.map (some b)) := blk_cell A4.out.blk 0
          have HLN := Aside0.mk HO.out.len
          clear hd
          by_cases hl : 24 ≤ L.length
          · rw [if_pos hl] at HD
            have q3 : decide ((L.length : Int) ≥ 24) = true := decide_eq_true (by omega)
            have q4 : decide ((24 : Int) ≤ (L.length : Int)) = true := decide_eq_true (by omega)
            have LM := Aside0.mk (A4.out.map.len Try.underlying131 3)
            clear hl
            go_wp2_with (at_len;refine wpList_len_own w4 rfl _ tM rfl 9 9 Try.underlying131 RvS b L.length (mapD L) rfl A4.out.map ?_;rw [size_mapD])
            go_ret
            rw [HD.out]
            exact ⟨rfl,A4.out,G4.out⟩
          · rw [if_neg hl] at HD
            have q3 : decide ((L.length : Int) ≥ 24) = false := decide_eq_false (by omega)
            have q4 : decide ((24 : Int) ≤ (L.length : Int)) = false := decide_eq_false (by omega)
            clear hl
            go_wp2_with (first | (at_len;refine wpList_len_own w4 rfl _ tM rfl 9 9 Try.underlying131 RvS b L.length (mapD L) rfl A4.out.map ?_;rw [size_mapD]) | (at_mapUpdate;refine wpList_mapUpdate_own w4 rfl _ _ _ tM rfl 9 9 lawS Try.underlying131 RvS b L.length (mapD L) rfl A4.out.map (by have := HLN.out;unfold maxLen;omega) _ _ (lk n) rfl rfl (Go.WideMaps.keyOf_string_mk Try.underlying9 HN.out) (.lit (lk p)) [] (plainS p HP.out) ?_;intro w5 hown5 hg5))
            go_ret
            rw [HD.out]
            exact ⟨rfl,A4.out.turned hg5 (by rw [mapD_put];exact hown5),grown_trans G4.out hg5⟩
end Go.Proofs.Ytcenlehfbgnphaa.Z
end
section
namespace Go.Proofs.Ytcenlehfbgnphaa.Z
set_option linter.unusedVariables false
set_option linter.unusedSimpArgs false
open Go.RowKit Go.Shelf Go.Maps Go.Proofs.YtcenlehfbgnphaaW.PrintWords Go.Proofs.YtcenlehfbgnphaaW.PrintLast Go.Proofs.YtcenlehfbgnphaaW.PrintMore Go.Proofs.Ytcenlehfbgnphaa.Cmp
def lev (L : List Tn) (own : Int) (l : List Nm) (m : Int) : Int := l.foldl (fun m x => max m (((abv L x).length : Int) - own + 1)) m
def levL (L : List Tn) (n : Nm) : Int := lev L ((abv L n).length : Int) (undL L n) 0
theorem lev_snoc (L : List Tn) (own : Int) (l : List Nm) (x : Nm) (m : Int) : lev L own (l ++ [x]) m = max (lev L own l m) (((abv L x).length : Int) - own + 1) := by
  unfold lev
  rw [List.foldl_append]
  rfl
theorem lev_bound {L : List Tn} (hs : Shallow L) (own : Int) (h0 : 0 ≤ own) : ∀ (l : List Nm) (m : Int),0 ≤ m → m ≤ 6 → 0 ≤ lev L own l m ∧ lev L own l m ≤ 6
  | [],m,h1,h2 => ⟨h1,h2⟩
  | x :: r,m,h1,h2 => by
    have h3 := hs x
    have h4 : ((abv L x).length : Int) ≤ 5 := by unfold abv;omega
    exact lev_bound hs own h0 r (max m (((abv L x).length : Int) - own + 1)) (by omega) (by omega)
theorem und_lenL (L : List Tn) (n : Nm) : (undL L n).length ≤ L.length := by
  unfold undL
  have := List.length_filter_le (fun x => hasN (abv L x) n) (L.map Prod.fst)
  simpa using this
set_option maxHeartbeats 8000000 in
set_option maxRecDepth 100000 in
theorem ten_levels {w : World} {t b : Nat} {L : List Tn} (h : TreeAt w t b L) (hO : Ok L) (n : Nm) (hn : n.size ≤ maxLen) :
    Calls Try.prog 108 #[.pointer (some ⟨t,0,none⟩),.string n] w fun e w' => e = .returned (.int .i64 (levL L n)) ∧ Below w.heap.size w w' := by
  have HA := Aside0.mk h
  have HO := Aside0.mk hO
  have HN := Aside0.mk hn
  have HLV := Aside0.mk (show levL L n = lev L ((abv L n).length : Int) (undL L n) 0 from rfl)
  have HL5 := Aside0.mk (abv_len hO.sh n)
  clear h hO
  generalize levL L n = R at HLV ⊢
  go_enter Try.func108,Try.ntmps108
  go_wp2_with (fail)
  refine (ten_depth HA.out.v HO.out.sh HO.out.psize n HN.out).mono ?_
  rintro e w1 ⟨rfl,hb1⟩
  have A1 := Aside0.mk (HA.out.below hb1)
  have B1 := Aside0.mk (NextW.mk hb1 hb1.size)
  clear hb1
  obtain ⟨dn,hdn⟩ : ∃ dn,(abv L n).length = dn := ⟨_,rfl⟩
  rw [hdn] at HLV HL5 ⊢
  clear hdn
  go_wp2_with (fail)
  refine (ten_under A1.out HO.out.sh HO.out.psize (by have := HO.out.len;omega) n).mono ?_
  rintro e w2 ⟨v,rfl,hrow,hb2⟩
  obtain ⟨U,hU⟩ : ∃ U,undL L n = U := ⟨_,rfl⟩
  have UL := Aside0.mk (show U.length ≤ 24 by rw [← hU];have := und_lenL L n;have := HO.out.len;omega)
  have UM := Aside0.mk (show ∀ x ∈ U,x.size ≤ maxLen by
    rw [← hU]
    intro x hx
    unfold undL at hx
    obtain ⟨q,hq,rfl⟩ := List.mem_map.1 (List.mem_filter.1 hx).1
    have := (name_size (HO.out.nm q hq)).2
    unfold maxLen
    omega)
  rw [hU] at hrow HLV
  clear hU
  obtain ⟨Au,cu,rfl,_,hC⟩ := hrow.reads
  have A2 := Aside0.mk (A1.out.below hb2)
  have B2 := Aside0.mk (B1.out.next hb2)
  have HC := Aside0.mk hC
  clear hrow hb2 hC A1 B1
  go_wp2_with (fail)
  go_loopw [5,16] (fun mv iv wr => ∃ i : Nat,iv = .int .i64 (i : Int) ∧ i ≤ U.length ∧ mv = .int .i64 (lev L (dn : Int) (U.take i) 0) ∧ Aside0 (NextW w2.heap.size w2 wr)) (fun mv iv _ => U.length - (intOf iv).toNat)
  case atStart => exact ⟨0,rfl,Nat.zero_le _,rfl,⟨NextW.refl w2⟩⟩
  case round =>
    rename World => wr
    obtain ⟨i,rfl,hi,rfl,NW⟩ := hrel
    by_cases hlt : i < U.length
    · have k0 : decide ((i : Int) < (U.length : Int)) = true := decide_eq_true (by omega)
      have h24 := UL.out
      obtain ⟨ad,cs,rfl,_,hcs,hcell⟩ := Kd.C_get (Kd.C_below HC.out NW.out.below) emp (i : Int) (by omega) (by omega)
      have hx : U[i]? = some U[i] := List.getElem?_eq_getElem hlt
      have hcs2 : cs = [.string U[i]] := by
        have h1 : cs = [.string (U.getD (i : Int).toNat emp)] := hcs
        rw [Int.toNat_natCast,List.getD_eq_getElem?_getD,hx] at h1
        exact h1
      have c0 := hcell 0 (.string U[i]) (by rw [hcs2];rfl)
      have c1 : wr.cell? (ad.add i) = some (.string U[i]) := by
        rw [← c0]
        congr 2
        show i = (i : Int).toNat * 1 + 0
        omega
      have XS := Aside0.mk (UM.out _ (List.getElem_mem hlt))
      have TK := Aside0.mk (show U.take (i + 1) = U.take i ++ [U[i]] by rw [List.take_add_one,hx];rfl)
      obtain ⟨x,hxe⟩ : ∃ x,U[i] = x := ⟨_,rfl⟩
      rw [hxe] at c1 XS TK
      have p0 : (0 : Int) ≤ (i : Int) := by omega
      have p1 : (i : Int) < (U.length : Int) := by omega
      clear hcell hcs hcs2 c0 hx hxe
      have A3 := Aside0.mk (A2.out.below NW.out.below)
      obtain ⟨m0,hm0⟩ : ∃ m0,lev L (dn : Int) (U.take i) 0 = m0 := ⟨_,rfl⟩
      have HM := Aside0.mk hm0
      have hmb : 0 ≤ m0 ∧ m0 ≤ 6 := by rw [← hm0];exact lev_bound HO.out.sh _ (by omega) _ _ (by omega) (by omega)
      rw [hm0]
      clear hm0
      go_wp2_with (fail)
      refine (ten_depth A3.out.v HO.out.sh HO.out.psize x XS.out).mono ?_
      rintro e w3 ⟨rfl,hb3⟩
      have N3 := Aside0.mk (NW.out.next hb3)
      have hx5 := abv_len HO.out.sh x
      have hd5 := HL5.out
      clear hb3 A3
      obtain ⟨dx,hdx⟩ : ∃ dx,(abv L x).length = dx := ⟨_,rfl⟩
      have HDX := Aside0.mk hdx
      rw [hdx] at hx5 ⊢
      clear hdx
      have w0 : IntKind.i64.wrap ((dx : Int) - (dn : Int)) = (dx : Int) - (dn : Int) := by rw [IntKind.wrap_i64];omega
      have w1' : IntKind.i64.wrap ((dx : Int) - (dn : Int) + 1) = (dx : Int) - (dn : Int) + 1 := by rw [IntKind.wrap_i64];omega
      go_wp2_with (fail)
      exact ⟨⟨i + 1,by rw [show (((i + 1 : Nat)) : Int) = (i : Int) + 1 from by omega],hlt,by rw [TK.out,lev_snoc,HM.out,HDX.out],N3⟩,by simp [intOf];omega⟩
    · have k0 : decide ((i : Int) < (U.length : Int)) = false := decide_eq_false (by omega)
      obtain rfl : i = U.length := by omega
      rw [List.take_length] at *
      go_wp2_with (fail)
      go_ret
      exact ⟨by first | rfl | (rw [HLV.out];rfl),B2.out.below.trans (NW.out.below.mono B2.out.le)⟩
end Go.Proofs.Ytcenlehfbgnphaa.Z
end
section
namespace Go.Proofs.Ytcenlehfbgnphaa.Z
set_option linter.unusedVariables false
set_option linter.unusedSimpArgs false
open Go.RowKit Go.Shelf Go.Maps Go.Proofs.YtcenlehfbgnphaaW.PrintWords Go.Proofs.YtcenlehfbgnphaaW.PrintLast Go.Proofs.YtcenlehfbgnphaaW.PrintMore Go.Proofs.Ytcenlehfbgnphaa.Cmp
def moveP (L : List Tn) (n p : Nm) : Int × List Tn :=
  if (getT L n).isSome = false then (5,L) else if orph L p = true then (18,L) else if hasN (abv L p) n = true then (13,L) else if (5 : Int) < ((abv L p).length : Int) + levL L n then (17,L) else (0,putTn n p L)
def dropP (L : List Tn) (n : Nm) : Int × List Tn :=
  if (getT L n).isSome = false then (5,L) else if 1 < (undL L n).length then (14,L) else (0,delL n L)
theorem levL_bound {L : List Tn} (hs : Shallow L) (n : Nm) : 0 ≤ levL L n ∧ levL L n ≤ 6 := lev_bound hs _ (by omega) _ _ (by omega) (by omega)
set_option maxHeartbeats 8000000 in
set_option maxRecDepth 100000 in
theorem ten_move {w : World} {t b : Nat} {L : List Tn} (h : TreeAt w t b L) (hO : Ok L) (n p : Nm) (hn : n.size ≤ maxLen) (hp : p.size ≤ maxLen) :
    Calls Try.prog 86 #[.pointer (some ⟨t,0,none⟩),.string n,.string p] w fun e w' => e = .returned (.int .i64 (moveP L n p).1) ∧ TreeAt w' t b (moveP L n p).2 ∧ w.grownBy w' (some b) := by
  have HA := Aside0.mk h
  have HO := Aside0.mk hO
  have HP := Aside0.mk hp
  have HN := Aside0.mk hn
  have HD := Aside0.mk (show moveP L n p = (if (getT L n).isSome = false then (5,L) else if orph L p = true then (18,L) else if hasN (abv L p) n = true then (13,L) else if (5 : Int) < ((abv L p).length : Int) + levL L n then (17,L) else (0,putTn n p L)) from rfl)
  clear h hO
  generalize moveP L n p = R at HD ⊢
  go_enter Try.func86,Try.ntmps86
  go_wp2_with (fail)
  refine (ten_has HA.out.v n HN.out).mono ?_
  rintro e w1 ⟨rfl,rfl⟩
  cases hgn : (getT L n).isSome with
  | false =>
    rw [hgn,if_pos rfl] at HD
    go_wp2_with (fail)
    go_ret
    rw [HD.out]
    exact ⟨rfl,HA.out,grown_refl _ _⟩
  | true =>
    rw [hgn,if_neg (by simp)] at HD
    clear hgn
    go_wp2_with (fail)
    refine (ten_orphan HA.out.v p HP.out).mono ?_
    rintro e w2 ⟨rfl,rfl⟩
    cases hor : orph L p with
    | true =>
      rw [hor,if_pos rfl] at HD
      go_wp2_with (fail)
      go_ret
      rw [HD.out]
      exact ⟨rfl,HA.out,grown_refl _ _⟩
    | false =>
      rw [hor,if_neg (by simp)] at HD
      clear hor
      go_wp2_with (fail)
      rename World => w0
      refine (ten_below HA.out.v HO.out.sh HO.out.psize p n HP.out).mono ?_
      rintro e w3 ⟨rfl,hb3⟩
      have A3 := Aside0.mk (HA.out.below hb3)
      have G3 := Aside0.mk (grown_of_below hb3 (some b))
      clear hb3 HA
      cases hbl : hasN (abv L p) n with
      | true =>
        rw [hbl,if_pos rfl] at HD
        go_wp2_with (fail)
        go_ret
        rw [HD.out]
        exact ⟨rfl,A3.out,G3.out⟩
      | false =>
        rw [hbl,if_neg (by simp)] at HD
        clear hbl
        go_wp2_with (fail)
        refine (ten_depth A3.out.v HO.out.sh HO.out.psize p HP.out).mono ?_
        rintro e w4 ⟨rfl,hb4⟩
        have A4 := Aside0.mk (A3.out.below hb4)
        have G4 := Aside0.mk (grown_trans G3.out (grown_of_below hb4 (some b)))
        clear hb4 A3 G3
        go_wp2_with (fail)
        refine (ten_levels A4.out HO.out n HN.out).mono ?_
        rintro e w5 ⟨rfl,hb5⟩
        have A5 := Aside0.mk (A4.out.below hb5)
        have G5 := Aside0.mk (grown_trans G4.out (grown_of_below hb5 (some b)))
        clear hb5 A4 G4
        have hl5 := levL_bound HO.out.sh n
        have hd5 := abv_len HO.out.sh p
        have HLN := Aside0.mk HO.out.len
        obtain ⟨dp,hdp⟩ : ∃ dp,(abv L p).length = dp := ⟨_,rfl⟩
        obtain ⟨lv,hlv⟩ : ∃ lv,levL L n = lv := ⟨_,rfl⟩
        rw [hdp,hlv] at HD
        rw [hdp] at hd5 ⊢
        rw [hlv] at hl5 ⊢
        clear hdp hlv
        have w0' : IntKind.i64.wrap ((dp : Int) + lv) = (dp : Int) + lv := by rw [IntKind.wrap_i64];omega
        have x0 : w5.cell? ⟨t,0,none⟩ = some (.map (some b)) := blk_cell A5.out.blk 0
        by_cases hd : (5 : Int) < (dp : Int) + lv
        · rw [if_pos hd] at HD
          have q0 : decide ((5 : Int) < (dp : Int) + lv) = true := decide_eq_true hd
          clear hd
          go_wp2_with (fail)
          go_ret
          rw [HD.out]
          exact ⟨rfl,A5.out,G5.out⟩
        · rw [if_neg hd] at HD
          have q0 : decide ((5 : Int) < (dp : Int) + lv) = false := decide_eq_false hd
          clear hd
          go_wp2_with (at_mapUpdate;refine wpList_mapUpdate_own w5 rfl _ _ _ tM rfl 9 9 lawS Try.underlying131 RvS b L.length (mapD L) rfl A5.out.map (by have := HLN.out;unfold maxLen;omega) _ _ (lk n) rfl rfl (Go.WideMaps.keyOf_string_mk Try.underlying9 HN.out) (.lit (lk p)) [] (plainS p HP.out) ?_;intro w6 hown6 hg6)
          go_ret
          rw [HD.out]
          exact ⟨rfl,A5.out.turned hg6 (by rw [mapD_put];exact hown6),grown_trans G5.out hg6⟩
theorem turned_grown {w w1 : World} {b : Nat} (h : w.mapTurned w1 b) : w.grownBy w1 (some b) := h.grown
set_option maxHeartbeats 8000000 in
set_option maxRecDepth 100000 in
theorem ten_drop {w : World} {t b : Nat} {L : List Tn} (h : TreeAt w t b L) (hO : Ok L) (n : Nm) (hn : n.size ≤ maxLen) :
    Calls Try.prog 88 #[.pointer (some ⟨t,0,none⟩),.string n] w fun e w' => e = .returned (.int .i64 (dropP L n).1) ∧ TreeAt w' t b (dropP L n).2 ∧ w.grownBy w' (some b) := by
  have HA := Aside0.mk h
  have HO := Aside0.mk hO
  have HN := Aside0.mk hn
  have HD := Aside0.mk (show dropP L n = (if (getT L n).isSome = false then (5,L) else if 1 < (undL L n).length then (14,L) else (0,delL n L)) from rfl)
  clear h hO
  generalize dropP L n = R at HD ⊢
  go_enter Try.func88,Try.ntmps88
  go_wp2_with (fail)
  refine (ten_has HA.out.v n HN.out).mono ?_
  rintro e w1 ⟨rfl,rfl⟩
  cases hgn : (getT L n).isSome with
  | false =>
    rw [hgn,if_pos rfl] at HD
    go_wp2_with (fail)
    go_ret
    rw [HD.out]
    exact ⟨rfl,HA.out,grown_refl _ _⟩
  | true =>
    rw [hgn,if_neg (by simp)] at HD
    clear hgn
    go_wp2_with (fail)
    refine (ten_under HA.out HO.out.sh HO.out.psize (by have := HO.out.len;omega) n).mono ?_
    rintro e w3 ⟨v,rfl,hrow,hb3⟩
    obtain ⟨Au,cu,rfl,_,_⟩ := hrow.reads
    have A3 := Aside0.mk (HA.out.below hb3)
    have G3 := Aside0.mk (grown_of_below hb3 (some b))
    clear hb3 HA hrow
    have x0 : w3.cell? ⟨t,0,none⟩ = some (.map (some b)) := blk_cell A3.out.blk 0
    obtain ⟨du,hdu⟩ : ∃ du,(undL L n).length = du := ⟨_,rfl⟩
    rw [hdu] at HD ⊢
    clear hdu
    by_cases hd : 1 < du
    · rw [if_pos hd] at HD
      have q0 : decide ((1 : Int) < (du : Int)) = true := decide_eq_true (by omega)
      clear hd
      go_wp2_with (fail)
      go_ret
      rw [HD.out]
      exact ⟨rfl,A3.out,G3.out⟩
    · rw [if_neg hd] at HD
      have q0 : decide ((1 : Int) < (du : Int)) = false := decide_eq_false (by omega)
      clear hd
      go_wp2_with (at_delete;refine wpList_delete_own w3 rfl _ _ tM 9 rfl 9 lawS Try.underlying131 RvS b L.length (mapD L) rfl A3.out.map _ (lk n) rfl (Go.WideMaps.keyOf_string_mk Try.underlying9 HN.out) ?_;intro w6 hown6 hg6)
      go_ret
      rw [HD.out]
      exact ⟨rfl,A3.out.turned (turned_grown hg6) (by rw [mapD_del];exact hown6),grown_trans G3.out (turned_grown hg6)⟩
end Go.Proofs.Ytcenlehfbgnphaa.Z
end
section
namespace Go.Proofs.Ytcenlehfbgnphaa.Z
set_option linter.unusedVariables false
set_option linter.unusedSimpArgs false
open Go.RowKit Go.Shelf Go.Maps Go.Proofs.YtcenlehfbgnphaaW.PrintWords Go.Proofs.YtcenlehfbgnphaaW.PrintLast Go.Proofs.YtcenlehfbgnphaaW.PrintMore Go.Proofs.Ytcenlehfbgnphaa.Cmp
theorem orph_false {L : List Tn} {p : Nm} (h : orph L p = false) : p = emp ∨ getT L p ≠ none := by
  unfold orph at h
  by_cases e : p = emp
  · exact .inl e
  · rw [decide_eq_false e] at h
    refine .inr (fun h2 => ?_)
    rw [h2] at h
    cases h
theorem Ok.addP {L : List Tn} (h : Ok L) (n p : Nm) : Ok (Z.addP L n p).2 := by
  unfold Z.addP
  split
  · exact h
  rename_i h1
  split
  · exact h
  rename_i h2
  split
  · exact h
  rename_i h3
  split
  · exact h
  rename_i h4
  split
  · exact h
  rename_i h5
  refine h.add (by cases hn : nameB n <;> simp_all) ?_ (orph_false (by simpa using h3)) (by omega) (by omega)
  cases hg : getT L n with
  | none => rfl
  | some q => rw [hg] at h2;exact absurd rfl h2
def sa : Nm := ⟨#[97]⟩
def sb : Nm := ⟨#[98]⟩
theorem kn1 : addP [] sa emp = (0,[(sa,emp)]) := by kernel_rfl
theorem kn2 : addP [(sa,emp)] sb sa = (0,[(sa,emp),(sb,sa)]) := by kernel_rfl
theorem ok1 : Ok [(sa,emp)] := by have := Ok.nil.addP sa emp;rw [kn1] at this;exact this
theorem ok2 : Ok [(sa,emp),(sb,sa)] := by have := ok1.addP sb sa;rw [kn2] at this;exact this
end Go.Proofs.Ytcenlehfbgnphaa.Z
end
section
namespace Go.Proofs.Ytcenlehfbgnphaa.Z
set_option linter.unusedVariables false
set_option linter.unusedSimpArgs false
open Go.RowKit Go.Shelf Go.Maps Go.Proofs.YtcenlehfbgnphaaW.PrintWords Go.Proofs.YtcenlehfbgnphaaW.PrintLast Go.Proofs.YtcenlehfbgnphaaW.PrintMore Go.Proofs.Ytcenlehfbgnphaa.Cmp
theorem lev_mono (L : List Tn) (own : Int) : ∀ (l : List Nm) (m : Int),m ≤ lev L own l m
  | [],m => Int.le_refl m
  | x :: r,m => Int.le_trans (Int.le_max_left _ _) (lev_mono L own r _)
theorem lev_ge (L : List Tn) (own : Int) (x : Nm) : ∀ (l : List Nm) (m : Int),x ∈ l → ((abv L x).length : Int) - own + 1 ≤ lev L own l m
  | [],m,h => by cases h
  | y :: r,m,h => by
    rcases List.mem_cons.1 h with rfl | h
    · exact Int.le_trans (Int.le_max_right m _) (lev_mono L own r _)
    · exact lev_ge L own x r _ h
theorem Ch.keys {L : List Tn} {x : Nm} {l : List Nm} (h : Ch L x l) : ∀ m ∈ l,getT L m ≠ none := by
  induction h with
  | stop _ => intro m hm;cases hm
  | go h1 _ ih =>
    intro m hm
    rcases List.mem_cons.1 hm with rfl | hm
    · rw [h1];simp
    · exact ih m hm
theorem mem_undL {L : List Tn} {x n : Nm} (hx : getT L x ≠ none) (h : n ∈ abv L x) : x ∈ undL L n := by
  unfold undL
  rw [List.mem_filter]
  refine ⟨?_,(hasN_iff _ _).2 h⟩
  cases hg : getT L x with
  | none => exact absurd hg hx
  | some q => exact List.mem_map.2 ⟨_,getT_mem L x q hg,rfl⟩
theorem Ch.split {L L' : List Tn} {n p : Nm} {lp : List Nm} (hne : ∀ m,m ≠ n → getT L' m = getT L m) (hp : getT L' n = some p) (hlp : Ch L' p lp) {x : Nm} {l : List Nm} (h : Ch L x l) : n ∈ l → ∃ pre suf,l = pre ++ n :: suf ∧ Ch L n (n :: suf) ∧ Ch L' x (pre ++ n :: lp) := by
  induction h with
  | stop _ => intro h;cases h
  | @go m q l h hc ih =>
    intro hn
    by_cases e : m = n
    · subst e
      exact ⟨[],l,rfl,.go h hc,.go hp hlp⟩
    · obtain ⟨pre,suf,rfl,h2,h3⟩ := ih (by
        rcases List.mem_cons.1 hn with h4 | h4
        · exact absurd h4.symm e
        · exact h4)
      exact ⟨m :: pre,suf,rfl,h2,.go (by rw [hne m e];exact h) h3⟩
theorem hasN_false {l : List Nm} {n : Nm} (h : hasN l n = false) : n ∉ l := fun hm => by rw [(hasN_iff l n).2 hm] at h;cases h
theorem Ok.move {L : List Tn} (h : Ok L) (hnd : (L.map Prod.fst).Nodup) {n p : Nm} (hg : getT L n ≠ none) (hp : p = emp ∨ getT L p ≠ none) (hc : hasN (abv L p) n = false) (hd : ((abv L p).length : Int) + levL L n ≤ 5) : Ok (putTn n p L) := by
  have hsame : ∀ m,m ≠ n → getT (putTn n p L) m = getT L m := fun m hm => by rw [getT_put,if_neg hm]
  have hself : getT (putTn n p L) n = some p := by rw [getT_put,if_pos rfl]
  have hstay : ∀ x,n ∉ abv L x → Ch (putTn n p L) x (abv L x) := fun x hx =>
    Ch.stay hsame (h.sh.ch x) hx (fun e h2 => by
      subst e
      have := h.sh.ch x
      rw [h2] at this
      cases this with
      | stop h3 => exact hg h3) (fun _ _ _ _ _ => hg)
  have hpn : p ≠ n := fun e => by
    subst e
    obtain ⟨r,hr⟩ := abv_head h.sh hg
    exact hasN_false hc (by rw [hr];exact List.mem_cons_self)
  have hchp := hstay p (hasN_false hc)
  refine ⟨shallow_of fun x => ?_,fun q hq => ?_,fun q hq => ?_,by rw [put_len_old hnd hg];exact h.len⟩
  · by_cases hx : n ∈ abv L x
    · obtain ⟨pre,suf,h1,h2,h3⟩ := Ch.split hsame hself hchp (h.sh.ch x) hx
      refine ⟨_,h3,?_⟩
      have e1 : (abv L x).length = pre.length + (suf.length + 1) := by rw [h1,List.length_append,List.length_cons]
      have e2 : abv L n = n :: suf := (h.sh.ch n).uniq h2
      have h4 := lev_ge L ((abv L n).length : Int) x (undL L n) 0 (mem_undL (fun h0 => by rw [abv_none h0] at hx;cases hx) hx)
      have h5 : lev L ((abv L n).length : Int) (undL L n) 0 = levL L n := rfl
      rw [h5,e2,List.length_cons] at h4
      rw [List.length_append,List.length_cons]
      omega
    · exact ⟨_,hstay x hx,h.sh x⟩
  · rcases (mem_put n p q L).1 hq with rfl | ⟨hq,_⟩
    · cases hgn : getT L n with
      | none => exact absurd hgn hg
      | some q0 => exact h.key hgn
    · exact h.nm q hq
  · have hkeep : ∀ m,getT L m ≠ none → getT (putTn n p L) m ≠ none := fun m hm => by
      by_cases e : m = n
      · rw [e,hself];simp
      · rw [hsame m e];exact hm
    rcases (mem_put n p q L).1 hq with rfl | ⟨hq,hqn⟩
    · rcases hp with h1 | h1
      · exact .inl h1
      · exact .inr (hkeep p h1)
    · rcases h.pr q hq with h1 | h1
      · exact .inl h1
      · exact .inr (hkeep _ h1)
theorem Ok.moveP {L : List Tn} (h : Ok L) (hnd : (L.map Prod.fst).Nodup) (n p : Nm) : Ok (Z.moveP L n p).2 := by
  unfold Z.moveP
  split
  · exact h
  rename_i h1
  split
  · exact h
  rename_i h2
  split
  · exact h
  rename_i h3
  split
  · exact h
  rename_i h4
  refine h.move hnd (fun hg => by rw [hg] at h1;exact h1 rfl) (orph_false (by simpa using h2)) (by simpa using h3) (by omega)
theorem nodup_eq : ∀ {L : List Tn},(L.map Prod.fst).Nodup → ∀ {n a b : Nm},(n,a) ∈ L → ∀ {q : Tn},q ∈ L → q.1 = n → q.2 = b → a = b
  | [],_,n,a,b,h,q,_,_,_ => by cases h
  | x :: r,hn,n,a,b,h,q,hq,h1,h2 => by
    rw [List.map_cons,List.nodup_cons] at hn
    rcases List.mem_cons.1 h with e | h
    · rcases List.mem_cons.1 hq with e2 | hq
      · rw [← h2,e2,← e]
      · exact absurd (List.mem_map.2 ⟨q,hq,by rw [h1,← e]⟩) hn.1
    · rcases List.mem_cons.1 hq with e2 | hq
      · exact absurd (List.mem_map.2 ⟨(n,a),h,by rw [← e2,h1]⟩) hn.1
      · exact nodup_eq hn.2 h hq h1 h2
theorem Ok.drop {L : List Tn} (h : Ok L) (hnd : (L.map Prod.fst).Nodup) {n : Nm} (hg : getT L n ≠ none) (hu : (undL L n).length ≤ 1) : Ok (delL n L) := by
  have hself : getT (delL n L) n = none := by rw [getT_del,if_pos rfl]
  have hsame : ∀ m,m ≠ n → getT (delL n L) m = getT L m := fun m hm => by rw [getT_del,if_neg hm]
  have hnn : n ∈ undL L n := mem_undL hg (by obtain ⟨r,hr⟩ := abv_head h.sh hg;rw [hr];exact List.mem_cons_self)
  have only : ∀ x,getT L x ≠ none → n ∈ abv L x → x = n := fun x hx hm => by
    have h1 := mem_undL hx hm
    match hU : undL L n,hu,hnn,h1 with
    | [],_,h2,_ => cases h2
    | [y],_,h2,h3 =>
      simp only [List.mem_singleton] at h2 h3
      rw [h2,h3]
    | y :: z :: r,h2,_,_ => simp at h2
  have hstay : ∀ x,n ∉ abv L x → Ch (delL n L) x (abv L x) := fun x hx =>
    Ch.stay hsame (h.sh.ch x) hx (fun e h2 => by
      subst e
      have := h.sh.ch x
      rw [h2] at this
      cases this with
      | stop h3 => exact hg h3) (fun _ _ _ _ _ => hg)
  refine ⟨shallow_of fun x => ?_,fun q hq => h.nm q ((mem_del n q L).1 hq).1,fun q hq => ?_,by have := del_len hnd hg;have := h.len;omega⟩
  · by_cases hx : n ∈ abv L x
    · have hk : getT L x ≠ none := fun h1 => by rw [abv_none h1] at hx;cases hx
      obtain rfl := only x hk hx
      exact ⟨[],.stop hself,by simp⟩
    · exact ⟨_,hstay x hx,h.sh x⟩
  · obtain ⟨hq,hqn⟩ := (mem_del n q L).1 hq
    rcases h.pr q hq with h1 | h1
    · exact .inl h1
    · by_cases e : q.2 = n
      · exfalso
        apply hqn
        have hgq : getT L q.1 ≠ none := fun h2 => (getT_none L q.1).1 h2 q hq rfl
        cases hgq2 : getT L q.1 with
        | none => exact absurd hgq2 hgq
        | some p2 =>
          have hp2 : p2 = q.2 := by
            have hm := getT_mem L q.1 p2 hgq2
            exact nodup_eq hnd hm hq rfl rfl
          refine only q.1 hgq ?_
          rw [abv_some h.sh hgq2,hp2,e]
          obtain ⟨r,hr⟩ := abv_head h.sh hg
          rw [hr]
          exact List.mem_cons_of_mem _ List.mem_cons_self
      · exact .inr (by rw [hsame _ e];exact h1)
theorem Ok.dropP {L : List Tn} (h : Ok L) (hnd : (L.map Prod.fst).Nodup) (n : Nm) : Ok (Z.dropP L n).2 := by
  unfold Z.dropP
  split
  · exact h
  rename_i h1
  split
  · exact h
  rename_i h2
  exact h.drop hnd (fun hg => by rw [hg] at h1;exact h1 rfl) (by omega)
end Go.Proofs.Ytcenlehfbgnphaa.Z
end
section
namespace Go.Proofs.Ytcenlehfbgnphaa.Z
set_option linter.unusedVariables false
set_option linter.unusedSimpArgs false
open Go.RowKit
def posL : List Tn → Nm → Nat
  | [],_ => 0
  | p :: r,n => if p.1 = n then 0 else posL r n + 1
theorem posL_cons (p : Tn) (r : List Tn) (n : Nm) : posL (p :: r) n = if p.1 = n then 0 else posL r n + 1 := rfl
def idx (L : List Tn) (n : Nm) : Int := if (getT L n).isSome then (posL L n : Int) else -1
theorem pos_le : ∀ (L : List Tn) (n : Nm),posL L n ≤ L.length
  | [],_ => Nat.le_refl _
  | p :: r,n => by
    rw [posL_cons]
    split
    · exact Nat.zero_le _
    · exact Nat.succ_le_succ (pos_le r n)
theorem pos_none : ∀ (L : List Tn) (n : Nm),posL L n = L.length → getT L n = none
  | [],_,_ => rfl
  | p :: r,n,h => by
    rw [posL_cons] at h
    rw [getT_cons]
    by_cases e : p.1 = n
    · rw [if_pos e] at h;simp at h
    · rw [if_neg e] at h ⊢
      exact pos_none r n (by simpa using h)
theorem pos_some : ∀ (L : List Tn) (n p : Nm),getT L n = some p → L[posL L n]? = some (n,p)
  | [],_,_,h => by cases h
  | q :: r,n,p,h => by
    rw [getT_cons] at h
    rw [posL_cons]
    by_cases e : q.1 = n
    · rw [if_pos e] at h ⊢
      injection h with h
      subst e
      subst h
      rfl
    · rw [if_neg e] at h ⊢
      rw [List.getElem?_cons_succ]
      exact pos_some r n p h
theorem pos_step : ∀ (L : List Tn) (n : Nm) (i : Nat) (x : Tn),i ≤ posL L n → L[i]? = some x → x.1 ≠ n → i + 1 ≤ posL L n
  | [],_,i,x,_,h,_ => by simp at h
  | q :: r,n,i,x,h,hx,hn => by
    rw [posL_cons] at h ⊢
    cases i with
    | zero =>
      simp only [List.getElem?_cons_zero,Option.some.injEq] at hx
      subst hx
      rw [if_neg hn]
      omega
    | succ i =>
      by_cases e : q.1 = n
      · rw [if_pos e] at h;omega
      · rw [if_neg e] at h ⊢
        have := pos_step r n i x (by omega) (by simpa using hx) hn
        omega
theorem pos_hit : ∀ (L : List Tn) (n : Nm) (i : Nat) (x : Tn),i ≤ posL L n → L[i]? = some x → x.1 = n → posL L n = i
  | [],_,i,x,_,h,_ => by simp at h
  | q :: r,n,i,x,h,hx,hn => by
    rw [posL_cons] at h ⊢
    cases i with
    | zero =>
      simp only [List.getElem?_cons_zero,Option.some.injEq] at hx
      subst hx
      rw [if_pos hn]
    | succ i =>
      by_cases e : q.1 = n
      · rw [if_pos e] at h;omega
      · rw [if_neg e] at h ⊢
        have := pos_hit r n i x (by omega) (by simpa using hx) hn
        omega
theorem get_pos : ∀ (L : List Tn) (n : Nm) (i : Nat) (x : Tn),i ≤ posL L n → L[i]? = some x → x.1 = n → getT L n = some x.2
  | [],_,i,x,_,h,_ => by simp at h
  | q :: r,n,i,x,h,hx,hn => by
    rw [posL_cons] at h
    rw [getT_cons]
    cases i with
    | zero =>
      simp only [List.getElem?_cons_zero,Option.some.injEq] at hx
      subst hx
      rw [if_pos hn]
    | succ i =>
      by_cases e : q.1 = n
      · rw [if_pos e] at h;omega
      · rw [if_neg e] at h ⊢
        exact get_pos r n i x (by omega) (by simpa using hx) hn
theorem Ch.tail {L : List Tn} {x : Nm} {l : List Nm} (h : Ch L x l) : ∀ m ∈ l,∃ s,Ch L m (m :: s) ∧ s.length < l.length := by
  induction h with
  | stop _ => intro m hm;cases hm
  | @go n p l h1 hc ih =>
    intro m hm
    rcases List.mem_cons.1 hm with rfl | hm
    · exact ⟨l,.go h1 hc,by simp⟩
    · obtain ⟨s,h2,h3⟩ := ih m hm
      exact ⟨s,h2,by rw [List.length_cons];omega⟩
theorem Ch.nodup {L : List Tn} {x : Nm} {l : List Nm} (h : Ch L x l) : l.Nodup := by
  induction h with
  | stop _ => exact List.nodup_nil
  | @go n p l h1 hc ih =>
    rw [List.nodup_cons]
    refine ⟨fun hm => ?_,ih⟩
    obtain ⟨s,h2,h3⟩ := hc.tail n hm
    have := (Ch.go h1 hc).uniq h2
    injection this with _ this
    rw [← this] at h3
    omega
theorem nodup_len : ∀ (l m : List (List UInt8)),l.Nodup → (∀ x ∈ l,x ∈ m) → l.length ≤ m.length
  | [],m,_,_ => Nat.zero_le _
  | a :: t,m,hn,hs => by
    rw [List.nodup_cons] at hn
    have ha := hs a List.mem_cons_self
    have h1 := nodup_len t (m.erase a) hn.2 (fun x hx => by
      have hne : x ≠ a := fun e => hn.1 (e ▸ hx)
      exact (List.mem_erase_of_ne hne).2 (hs x (List.mem_cons_of_mem _ hx)))
    rw [List.length_erase_of_mem ha] at h1
    have : 0 < m.length := List.length_pos_of_mem ha
    rw [List.length_cons]
    omega
theorem toB_inj2 {a b : Nm} (h : toB a = toB b) : a = b := by rw [← of_to a,← of_to b,h]
theorem abv_short {L : List Tn} (hs : Shallow L) (n : Nm) : (abv L n).length ≤ L.length := by
  have h1 := (hs.ch n).nodup
  have h2 : ((abv L n).map toB).Nodup := List.pairwise_map.2 (h1.imp (fun h e => h (toB_inj2 e)))
  have h3 := nodup_len _ ((L.map Prod.fst).map toB) h2 (fun x hx => by
    obtain ⟨m,hm,rfl⟩ := List.mem_map.1 hx
    have hk := (hs.ch n).keys m hm
    cases hg : getT L m with
    | none => exact absurd hg hk
    | some p => exact List.mem_map.2 ⟨m,List.mem_map.2 ⟨_,getT_mem L m p hg,rfl⟩,rfl⟩)
  simpa using h3
theorem up_abv {L : List Tn} (hs : Shallow L) (n : Nm) : upL L (L.length + 1) n = abv L n :=
  (hs.ch n).up _ (by have := abv_short hs n;omega)
theorem idx_some {L : List Tn} {n p : Nm} (h : getT L n = some p) : idx L n = (posL L n : Int) ∧ posL L n < L.length := by
  unfold idx
  rw [h,if_pos (by rfl)]
  refine ⟨rfl,?_⟩
  have := pos_le L n
  rcases Nat.lt_or_ge (posL L n) L.length with h1 | h1
  · exact h1
  · have := pos_none L n (by omega)
    rw [this] at h
    cases h
theorem idx_none {L : List Tn} {n : Nm} (h : getT L n = none) : idx L n = -1 := by
  unfold idx
  rw [h]
  rfl
end Go.Proofs.Ytcenlehfbgnphaa.Z
end
section
namespace Go.Proofs.Ytcenlehfbgnphaa.Z
set_option linter.unusedVariables false
set_option linter.unusedSimpArgs false
open Go.RowKit Go.Proofs.YtcenlehfbgnphaaW.PrintWords Go.Proofs.YtcenlehfbgnphaaW.PrintLast Go.Proofs.YtcenlehfbgnphaaW.PrintMore
structure S92 where
  f0 : ByteArray
  f1 : ByteArray
def z92 : S92 := ⟨(⟨#[]⟩ : ByteArray),(⟨#[]⟩ : ByteArray)⟩
def k92 : Kd S92 := Kd.iso (Kd.pair Kd.string Kd.string) (fun x : S92 => (x.f0,x.f1))
theorem k92_open {w : World} {x : S92} {cs : List Value} (h : k92.K w x cs) : cs = [.string x.f0,.string x.f1] := by
  obtain ⟨_,_,rfl,rfl,rfl⟩ := h
  exact rfl
theorem k92_mk (w : World) (x : S92)  : k92.K w x [.string x.f0,.string x.f1] := ⟨[.string x.f0],[.string x.f1],rfl,rfl,rfl⟩
theorem k92_mkF (W : World) (ok : Nat → Prop) (x : S92) : Kd.FK k92 W ok x [.string x.f0,.string x.f1] := fun W2 _ => k92_mk W2 x
def rd_T92 (xs : List S92) (i : Int) : S92 := xs.getD i.toNat z92
theorem at_T92 {w : World} {A : Option Addr} {n : Nat} {xs : List S92} (h : Kd.C k92 w A n xs) (i : Int) (h0 : 0 ≤ i) (h1 : i < n) : ∃ ad ,A = some ad ∧ w.cell? (ad.add (i.toNat * 2)) = some (.string (rd_T92 xs i).f0) ∧ w.cell? ⟨(ad.add (i.toNat * 2)).block,(ad.add (i.toNat * 2)).off + 1,none⟩ = some (.string (rd_T92 xs i).f1) := by
  obtain ⟨ad,c,e,_,hK,hc0⟩ := Kd.C_get h z92 i h0 h1
  have hc : ∀ j u,c[j]? = some u → w.cell? (ad.add (i.toNat * 2 + j)) = some u := hc0
  obtain rfl := k92_open hK
  exact ⟨ad,e,hc 0 _ rfl,by rw [← add_field _ _ 1 (by omega)];exact hc 1 _ rfl⟩
end Go.Proofs.Ytcenlehfbgnphaa.Z
end
section
namespace Go.Proofs.Ytcenlehfbgnphaa.Z
set_option linter.unusedVariables false
set_option linter.unusedSimpArgs false
open Go.RowKit Go.Shelf Go.Maps Go.Proofs.YtcenlehfbgnphaaW.PrintWords Go.Proofs.YtcenlehfbgnphaaW.PrintLast Go.Proofs.YtcenlehfbgnphaaW.PrintMore Go.Proofs.Ytcenlehfbgnphaa.Cmp
abbrev tR : Nat := 88
abbrev tE : Nat := 92
abbrev STn := S92
abbrev kTn : Kd STn := k92
def tn (p : Tn) : STn := ⟨p.1,p.2⟩
structure RTree (w : World) (r N : Nat) (v : Value) (L : List Tn) : Prop where
  blk : w.heap[r]? = some (.cells #[v] tR (0,0))
  row : Kd.N kTn tE w N (fun k => k ≠ r) v (L.map tn)
  le : N ≤ r
theorem RTree.below {w w1 : World} {r N : Nat} {v : Value} {L : List Tn} (h : RTree w r N v L) (hb : Below w.heap.size w w1) : RTree w1 r N v L :=
  ⟨(hb.block r (blk_lt h.blk)).trans h.blk,Kd.N_below h.row hb,h.le⟩
structure RC (w : World) (r : Nat) (A : Option Addr) (c : Nat) (L : List Tn) : Prop where
  cell : w.cell? ⟨r,0,none⟩ = some (.slice A L.length c)
  lt : r < w.heap.size
  row : Kd.C kTn w A L.length (L.map tn)
  cap : L.length ≤ c
theorem RTree.rc {w : World} {r N : Nat} {v : Value} {L : List Tn} (h : RTree w r N v L) : ∃ A c,v = .slice A L.length c ∧ RC w r A c L := by
  obtain ⟨A,c,rfl,hc,hC⟩ := Kd.N_reads h.row
  rw [List.length_map] at hc hC
  exact ⟨A,c,by rw [List.length_map],⟨by rw [blk_cell h.blk 0,List.length_map];rfl,blk_lt h.blk,hC,hc⟩⟩
theorem RC.below {w w1 : World} {r : Nat} {A : Option Addr} {c : Nat} {L : List Tn} (h : RC w r A c L) (hb : Below w.heap.size w w1) : RC w1 r A c L :=
  ⟨(hb.cell (p := ⟨r,0,none⟩) h.lt).trans h.cell,Nat.lt_of_lt_of_le h.lt hb.size,Kd.C_below h.row hb,h.cap⟩
theorem RC.at_ {w : World} {r : Nat} {A : Option Addr} {c : Nat} {L : List Tn} (h : RC w r A c L) {i : Nat} {x : Tn} (hx : L[i]? = some x) :
    ∃ ad,A = some ad ∧ w.cell? (ad.add (i * 2)) = some (.string x.1) ∧ w.cell? ⟨(ad.add (i * 2)).block,(ad.add (i * 2)).off + 1,none⟩ = some (.string x.2) := by
  have hi : i < L.length := (List.getElem?_eq_some_iff.1 hx).1
  obtain ⟨ad,rfl,h1,h2⟩ := at_T92 h.row (i : Int) (by omega) (by omega)
  have e : rd_T92 (L.map tn) (i : Int) = tn x := by
    unfold rd_T92
    rw [Int.toNat_natCast,List.getD_eq_getElem?_getD,List.getElem?_map,hx]
    rfl
  rw [e,Int.toNat_natCast] at h1 h2
  exact ⟨ad,rfl,h1,h2⟩
set_option maxHeartbeats 4000000 in
set_option maxRecDepth 100000 in
theorem ref_find {w : World} {r : Nat} {A : Option Addr} {c : Nat} {L : List Tn} (h : RC w r A c L) (hL : L.length ≤ 1000) (n : Nm) :
    Calls Try.prog 109 #[.pointer (some ⟨r,0,none⟩),.string n] w fun e w' => e = .returned (.int .i64 (idx L n)) ∧ w' = w := by
  have HR := Aside0.mk h
  have x0 := h.cell
  have HI := Aside0.mk (show idx L n = (if (getT L n).isSome then (posL L n : Int) else -1) from rfl)
  clear h
  generalize idx L n = R at HI ⊢
  go_enter Try.func109,Try.ntmps109
  go_wp2_with (fail)
  go_loopw [5] (fun iv wr => ∃ i : Nat,iv = .int .i64 (i : Int) ∧ i ≤ L.length ∧ Aside0 (i ≤ posL L n) ∧ wr = w) (fun iv _ => L.length - (intOf iv).toNat)
  case atStart => exact ⟨0,rfl,Nat.zero_le _,⟨Nat.zero_le _⟩,rfl⟩
  case round =>
    obtain ⟨i,rfl,hi,HP,rfl⟩ := hrel
    by_cases hlt : i < L.length
    · have k0 : decide ((i : Int) < (L.length : Int)) = true := decide_eq_true (by omega)
      obtain ⟨x,hx⟩ : ∃ x,L[i]? = some x := ⟨L[i],List.getElem?_eq_getElem hlt⟩
      obtain ⟨ad,rfl,c0,_⟩ := HR.out.at_ hx
      have HX := Aside0.mk hx
      have p0 : (0 : Int) ≤ (i : Int) := by omega
      have p1 : (i : Int) < (L.length : Int) := by omega
      clear hx
      by_cases hn : x.1 = n
      · have q0 : (ByteArray.toList x.1 == ByteArray.toList n) = true := by rw [eqS,decide_eq_true hn]
        have HE := Aside0.mk (show R = (i : Int) by
          rw [HI.out,get_pos L n i x HP.out HX.out hn,pos_hit L n i x HP.out HX.out hn]
          rfl)
        clear hn
        go_wp2_with (fail)
        go_ret
        exact ⟨by rw [HE.out];rfl,rfl⟩
      · have q0 : (ByteArray.toList x.1 == ByteArray.toList n) = false := by rw [eqS,decide_eq_false hn]
        have HS := Aside0.mk (pos_step L n i x HP.out HX.out hn)
        clear hn
        go_wp2_with (fail)
        go_roundw
        case rel => exact ⟨i + 1,by go_num,hlt,HS,by trivial⟩
        case measure => simp [intOf];omega
    · have k0 : decide ((i : Int) < (L.length : Int)) = false := decide_eq_false (by omega)
      have HE := Aside0.mk (show R = -1 by
        rw [HI.out,pos_none L n (by have := pos_le L n;have := HP.out;omega)]
        rfl)
      go_wp2_with (fail)
      go_ret
      exact ⟨by rw [HE.out];rfl,rfl⟩
set_option maxHeartbeats 4000000 in
set_option maxRecDepth 100000 in
theorem ref_has {w : World} {r : Nat} {A : Option Addr} {c : Nat} {L : List Tn} (h : RC w r A c L) (hL : L.length ≤ 1000) (n : Nm) :
    Calls Try.prog 104 #[.pointer (some ⟨r,0,none⟩),.string n] w fun e w' => e = .returned (.bool (getT L n).isSome) ∧ w' = w := by
  have HF := Aside0.mk (ref_find h hL n)
  clear h
  cases hg : getT L n with
  | none =>
    rw [idx_none hg] at HF
    clear hg
    go_enter Try.func104,Try.ntmps104
    go_wp2_with (fail)
    refine HF.out.mono ?_
    rintro e w' ⟨rfl,rfl⟩
    go_wp2_with (fail)
    go_ret
    exact ⟨rfl,rfl⟩
  | some p =>
    rw [(idx_some hg).1] at HF
    clear hg
    generalize posL L n = k at HF ⊢
    have q0 : decide ((0 : Int) ≤ (k : Int)) = true := decide_eq_true (by omega)
    go_enter Try.func104,Try.ntmps104
    go_wp2_with (fail)
    refine HF.out.mono ?_
    rintro e w' ⟨rfl,rfl⟩
    go_wp2_with (fail)
    go_ret
    exact ⟨rfl,rfl⟩
set_option maxHeartbeats 8000000 in
set_option maxRecDepth 100000 in
theorem ref_above {w : World} {r : Nat} {A : Option Addr} {c : Nat} {L : List Tn} (h : RC w r A c L) (hL : L.length ≤ 24) (hs : Shallow L) (n : Nm) :
    Calls Try.prog 118 #[.pointer (some ⟨r,0,none⟩),.string n] w fun e w' => ∃ v,e = .returned v ∧ SRow w' w.heap.size v (abv L n) ∧ Below w.heap.size w w' := by
  have HR := Aside0.mk h
  have HAB := Aside0.mk (up_abv hs n)
  have HA5 := Aside0.mk (abv_len hs n)
  clear h
  generalize abv L n = U at HAB HA5 ⊢
  go_enter Try.func118,Try.ntmps118
  go_wp2_with (fail)
  refine (ref_find HR.out (by omega) n).mono ?_
  rintro e w1 ⟨rfl,rfl⟩
  go_wp2_with (fail)
  rename World => w
  go_loopw [5,6,7] (fun ov av iv wr => ∃ (i : Nat) (x : Nm) (pre : List Nm),iv = .int .i64 (i : Int) ∧ i ≤ L.length + 1 ∧ av = .int .i64 (idx L x) ∧ Aside0 (U = pre ++ upL L (L.length + 1 - i) x) ∧ Aside0 (SRow wr w.heap.size ov pre) ∧ Aside0 (NextW w.heap.size w wr)) (fun _ _ iv _ => L.length + 1 - (intOf iv).toNat)
  case atStart => exact ⟨0,n,[],rfl,Nat.zero_le _,rfl,⟨HAB.out.symm⟩,⟨World.ownsRow_nil _ _ _ _⟩,⟨NextW.refl _⟩⟩
  case round =>
    rename World => wr
    obtain ⟨i,x,pre,rfl,hi,rfl,HU,HS,NW⟩ := hrel
    have R1 := Aside0.mk (HR.out.below NW.out.below)
    have x0 := R1.out.cell
    obtain ⟨Av,cv,rfl,_⟩ := HS.out.reads
    by_cases hlt : i ≤ L.length
    · have k0 : decide ((i : Int) ≤ (L.length : Int)) = true := decide_eq_true (by omega)
      cases hg : getT L x with
      | none =>
        have HE := Aside0.mk (show U = pre by
          rw [HU.out,show L.length + 1 - i = (L.length - i) + 1 by omega]
          show pre ++ (match getT L x with | none => [] | some p => x :: upL L (L.length - i) p) = pre
          rw [hg,List.append_nil])
        rw [idx_none hg]
        clear hg
        go_wp2_with (fail)
        go_ret
        exact ⟨_,rfl,by rw [HE.out];exact HS.out,NW.out.below⟩
      | some p =>
        obtain ⟨he,hpl⟩ := idx_some hg
        rw [he]
        have hx := pos_some L x p hg
        have HU2 := Aside0.mk (show U = (pre ++ [x]) ++ upL L (L.length + 1 - (i + 1)) p by
          rw [HU.out,show L.length + 1 - i = (L.length + 1 - (i + 1)) + 1 by omega]
          show pre ++ (match getT L x with | none => [] | some p => x :: upL L (L.length + 1 - (i + 1)) p) = _
          rw [hg]
          simp)
        obtain ⟨k,hk⟩ : ∃ k,posL L x = k := ⟨_,rfl⟩
        rw [hk] at hpl hx ⊢
        obtain ⟨ad,rfl,c0,c1⟩ := R1.out.at_ hx
        have PL := Aside0.mk (show pre.length < 5 by have h1 := congrArg List.length HU2.out;have := HA5.out;rw [List.length_append,List.length_append,List.length_singleton] at h1;omega)
        obtain ⟨m,hm⟩ : ∃ m,pre.length = m := ⟨_,rfl⟩
        have HM := Aside0.mk hm
        have HSR := Aside0.mk (show wr.ownsRow w.heap.size 9 1 (.slice Av m cv) m (pre.map strV) by rw [← hm];exact HS.out)
        rw [hm]
        obtain ⟨i0,hi0,hz0,hz1,hz2⟩ := info_parts info9
        have p0 : (0 : Int) ≤ (k : Int) := by omega
        have p1 : (k : Int) < (L.length : Int) := by omega
        have q0 : decide ((0 : Int) ≤ (k : Int)) = true := decide_eq_true (by omega)
        have GE := Aside0.mk NW.out.le
        have HXX := Aside0.mk hx
        clear hg he hk hm hx
        go_wp2_with (at_builtin;refine wpList_append_own _ rfl _ _ tS rfl w.heap.size 9 i0 (.string ⟨#[]⟩) 1 16 Try.underlying124 hi0 hz0 hz1 hz2 rfl (by decide) _ _ _ rfl (HSR.out.alloc _) ⟨wr.heap.size,0,none⟩ 1 1 [.string x] rfl rfl (cell_one_new _ _ _) (by simp [Value.oneCell']) (by have := PL.out;have := HM.out;unfold maxLen;omega) (by have := PL.out;have := HM.out;omega) (by have := GE.out;simp;omega) ?_;intro v' w3 hown' hgrow _;obtain ⟨g',cap',rfl⟩ := ownsRow_succ hown';have hall := (World.grownBy_alloc wr (Obj.cells #[.string x] 9) _).trans hgrow;have hbr := NW.out.below.grown hall GE.out (fun j e => HS.out.lt j (by rw [HM.out];exact e));have hr3 : some r ≠ (Value.slice Av m cv).ownBlock := row_ne_low HSR.out HR.out.lt;have R3 := Aside0.mk (HR.out.below hbr);have N3 := Aside0.mk (NextW.mk hbr (Nat.le_trans GE.out hall.size));have x3 := R3.out.cell;obtain ⟨ad3,e3,c30,c31⟩ := R3.out.at_ HXX.out;obtain rfl := Option.some.inj e3;have HS3 := Aside0.mk (show SRow w3 w.heap.size (.slice (some ⟨g',0,none⟩) (m + 1) cap') (pre ++ [x]) by (unfold SRow;rw [List.length_append,HM.out,List.map_append];exact hown'));clear hown' hgrow hall hbr)
        refine (ref_find R3.out (by omega) p).mono ?_
        rintro e w4 ⟨rfl,rfl⟩
        go_wp2_with (fail)
        go_roundw
        case rel => exact ⟨i + 1,p,pre ++ [x],by go_num,by omega,rfl,HU2,HS3,N3⟩
        case measure => simp [intOf];omega
    · have k0 : decide ((i : Int) ≤ (L.length : Int)) = false := decide_eq_false (by omega)
      have HE := Aside0.mk (show U = pre by
        rw [HU.out,show L.length + 1 - i = 0 by omega]
        exact List.append_nil pre)
      go_wp2_with (fail)
      go_ret
      exact ⟨_,rfl,by rw [HE.out];exact HS.out,NW.out.below⟩
end Go.Proofs.Ytcenlehfbgnphaa.Z
end
section
namespace Go.Proofs.Ytcenlehfbgnphaa.Z
set_option linter.unusedVariables false
set_option linter.unusedSimpArgs false
open Go.RowKit Go.Shelf Go.Maps Go.Proofs.YtcenlehfbgnphaaW.PrintWords Go.Proofs.YtcenlehfbgnphaaW.PrintLast Go.Proofs.YtcenlehfbgnphaaW.PrintMore Go.Proofs.Ytcenlehfbgnphaa.Cmp
set_option maxHeartbeats 4000000 in
set_option maxRecDepth 100000 in
theorem ref_depth {w : World} {r : Nat} {A : Option Addr} {c : Nat} {L : List Tn} (h : RC w r A c L) (hL : L.length ≤ 24) (hs : Shallow L) (n : Nm) :
    Calls Try.prog 105 #[.pointer (some ⟨r,0,none⟩),.string n] w fun e w' => e = .returned (.int .i64 ((abv L n).length : Int)) ∧ Below w.heap.size w w' := by
  have HA := Aside0.mk (ref_above h hL hs n)
  obtain ⟨m,hm⟩ : ∃ m,(abv L n).length = m := ⟨_,rfl⟩
  have HM := Aside0.mk hm
  rw [hm]
  clear h hm
  go_enter Try.func105,Try.ntmps105
  go_wp2_with (fail)
  refine HA.out.mono ?_
  rintro e w1 ⟨v,rfl,hrow,hb⟩
  obtain ⟨Au,cu,rfl,_,_⟩ := hrow.reads
  have B1 := Aside0.mk hb
  rw [HM.out]
  clear hb hrow
  go_wp2_with (fail)
  go_ret
  exact ⟨rfl,B1.out⟩
def undI (L : List Tn) (n : Nm) (i : Nat) : List Nm := ((L.take i).map Prod.fst).filter (fun x => hasN (abv L x) n)
theorem undI_all (L : List Tn) (n : Nm) {i : Nat} (h : L.length ≤ i) : undI L n i = undL L n := by
  unfold undI undL
  rw [List.take_of_length_le h]
theorem undI_succ (L : List Tn) (n : Nm) {i : Nat} {x : Tn} (hx : L[i]? = some x) : undI L n (i + 1) = undI L n i ++ (if hasN (abv L x.1) n then [x.1] else []) := by
  unfold undI
  rw [List.take_add_one,hx]
  simp only [Option.toList_some,List.map_append,List.map_cons,List.map_nil,List.filter_append]
  congr 1
  rw [List.filter_cons]
  split <;> rfl
theorem undI_len (L : List Tn) (n : Nm) (i : Nat) : (undI L n i).length ≤ i := by
  unfold undI
  refine Nat.le_trans (List.length_filter_le _ _) ?_
  rw [List.length_map]
  exact List.length_take_le _ _
theorem has_take_succ (l : List Nm) (n : Nm) {k : Nat} {y : Nm} (hy : l[k]? = some y) : hasN (l.take (k + 1)) n = (hasN (l.take k) n || decide (y = n)) := by
  unfold hasN
  rw [List.take_add_one,hy,List.any_append]
  simp
theorem has_take_nodup {l : List Nm} {n : Nm} (hn : l.Nodup) {k : Nat} (hy : l[k]? = some n) : hasN (l.take k) n = false := by
  rw [Bool.eq_false_iff]
  intro h
  rw [hasN_iff] at h
  obtain ⟨j,hj,e⟩ := List.mem_take_iff_getElem.1 h
  have hk := (List.getElem?_eq_some_iff.1 hy)
  obtain ⟨hk,ek⟩ := hk
  have := (List.getElem_inj hn).1 (e.trans ek.symm)
  omega
theorem kept_or {a b : Option Nat} (h : ∀ g,b = some g → a ≠ some g) : a = none ∨ a ≠ b := by
  cases a with
  | none => exact .inl rfl
  | some g => exact .inr (fun e => h g e.symm rfl)
theorem str_at {w : World} {A : Option Addr} {m : Nat} {l : List Nm} (h : Kd.C Kd.string w A m l) {k : Nat} {y : Nm} (hy : l[k]? = some y) : ∃ ad,A = some ad ∧ w.cell? (ad.add k) = some (.string y) := by
  have hk : k < l.length := (List.getElem?_eq_some_iff.1 hy).1
  have hm : m = l.length := h.1.symm
  obtain ⟨au,cs,rfl,_,hcs,hcell⟩ := Kd.C_get h emp (k : Int) (by omega) (by omega)
  refine ⟨au,rfl,?_⟩
  have h1 : cs = [.string (l.getD (k : Int).toNat emp)] := hcs
  have h2 := hcell 0 (.string y) (by rw [h1,Int.toNat_natCast,List.getD_eq_getElem?_getD,hy];rfl)
  rw [← h2,Int.toNat_natCast]
  show w.cell? (au.add k) = w.cell? (au.add (k * 1 + 0))
  rw [Nat.mul_one,Nat.add_zero]
theorem abv_nodup {L : List Tn} (h : Shallow L) (n : Nm) : (abv L n).Nodup := (h.ch n).nodup
set_option maxHeartbeats 8000000 in
set_option maxRecDepth 100000 in
theorem ref_under {w : World} {r : Nat} {A : Option Addr} {c : Nat} {L : List Tn} (h : RC w r A c L) (hL : L.length ≤ 24) (hs : Shallow L) (n : Nm) :
    Calls Try.prog 110 #[.pointer (some ⟨r,0,none⟩),.string n] w fun e w' => ∃ v,e = .returned v ∧ SRow w' w.heap.size v (undL L n) ∧ Below w.heap.size w w' := by
  have HR := Aside0.mk h
  clear h
  go_enter Try.func110,Try.ntmps110
  go_wp2_with (fail)
  go_loopw [5,6] (fun ov iv wr => ∃ (i : Nat),iv = .int .i64 (i : Int) ∧ i ≤ L.length ∧ Aside0 (SRow wr w.heap.size ov (undI L n i)) ∧ Aside0 (NextW w.heap.size w wr)) (fun _ iv _ => L.length - (intOf iv).toNat)
  case atStart => exact ⟨0,rfl,Nat.zero_le _,⟨World.ownsRow_nil _ _ _ _⟩,⟨NextW.refl _⟩⟩
  case round =>
    rename World => wr
    obtain ⟨i,rfl,hi,HS,NW⟩ := hrel
    have R1 := Aside0.mk (HR.out.below NW.out.below)
    have x0 := R1.out.cell
    by_cases hlt : i < L.length
    · have k0 : decide ((i : Int) < (L.length : Int)) = true := decide_eq_true (by omega)
      obtain ⟨x,hx⟩ : ∃ x,L[i]? = some x := ⟨L[i],List.getElem?_eq_getElem hlt⟩
      obtain ⟨ad,rfl,c0,c1⟩ := R1.out.at_ hx
      have HX := Aside0.mk hx
      have p0 : (0 : Int) ≤ (i : Int) := by omega
      have p1 : (i : Int) < (L.length : Int) := by omega
      clear hx
      go_wp2_with (fail)
      refine (ref_above R1.out hL hs x.1).mono ?_
      rintro e w2 ⟨v2,rfl,hrow,hb2⟩
      obtain ⟨U,hU⟩ : ∃ U,abv L x.1 = U := ⟨_,rfl⟩
      have HU := Aside0.mk hU
      rw [hU] at hrow
      obtain ⟨Au,cu,rfl,hcu,hCu⟩ := hrow.reads
      obtain ⟨m,hm⟩ : ∃ m,U.length = m := ⟨_,rfl⟩
      have HM := Aside0.mk hm
      have m5 : m ≤ 5 := by
        have := abv_len hs x.1
        rw [hU,hm] at this
        exact this
      rw [hm] at hrow ⊢
      have UR := Aside0.mk hrow
      have N2 := Aside0.mk (NW.out.next hb2)
      have S2 := Aside0.mk (World.ownsRow.kept HS.out (below_none hb2) (by
        cases h : Value.ownBlock _ with
        | none => exact .inl rfl
        | some k => exact .inr (by simp)))
      clear hU hm hrow hb2 hcu hCu
      go_wp2_with (fail)
      go_loopw [5,8] (fun ov kv wr2 => ∃ (k : Nat),kv = .int .i64 (k : Int) ∧ k ≤ m ∧ Aside0 (SRow wr2 w.heap.size ov (undI L n i ++ (if hasN (U.take k) n then [x.1] else []))) ∧ Aside0 (SRow wr2 wr.heap.size (.slice Au m cu) U) ∧ Aside0 (hasN (U.take k) n = false → ∀ g,ov.ownBlock = some g → (Value.slice Au m cu).ownBlock ≠ some g) ∧ Aside0 (NextW w.heap.size w wr2)) (fun _ kv _ => m - (intOf kv).toNat)
      case atStart => exact ⟨0,rfl,Nat.zero_le _,⟨by rw [show U.take 0 = [] from rfl];simp [hasN];exact S2.out⟩,UR,⟨fun _ g hg h2 => by have h3 := (UR.out.lt g h2);have h4 := (World.ownsRow.lt HS.out g hg).2;omega⟩,N2⟩
      case round =>
        rename World => wr2
        obtain ⟨k,rfl,hk,HS3,UR3,HNE,NW3⟩ := hrel
        by_cases hlt2 : k < m
        · have k2 : decide ((k : Int) < (m : Int)) = true := decide_eq_true (by omega)
          obtain ⟨y,hy⟩ : ∃ y,U[k]? = some y := ⟨U[k]'(by rw [HM.out];exact hlt2),List.getElem?_eq_getElem _⟩
          obtain ⟨au,rfl,u0⟩ : ∃ au,Au = some au ∧ wr2.cell? (au.add k) = some (.string y) := by
            obtain ⟨Aq,cq,eq,_,hCq⟩ := UR3.out.reads
            injection eq with e1 e2 e3
            obtain ⟨au,ha,hc⟩ := str_at hCq hy
            exact ⟨au,e1.trans ha,hc⟩
          have r0 : (0 : Int) ≤ (k : Int) := by omega
          have r1 : (k : Int) < (m : Int) := by omega
          have HTS := Aside0.mk (has_take_succ U n hy)
          by_cases hn : y = n
          · have q0 : (ByteArray.toList y == ByteArray.toList n) = true := by rw [eqS,decide_eq_true hn]
            have HT := Aside0.mk (has_take_nodup (n := n) (show U.Nodup from HU.out ▸ abv_nodup hs x.1) (hn ▸ hy))
            subst hn
            have R3 := Aside0.mk (HR.out.below NW3.out.below)
            have x3 := R3.out.cell
            obtain ⟨ad3,e4,c30,c31⟩ := R3.out.at_ HX.out
            obtain rfl := Option.some.inj e4
            have GE := Aside0.mk NW3.out.le
            obtain ⟨q,hq⟩ : ∃ q,(undI L y i).length = q := ⟨_,rfl⟩
            have HQ := Aside0.mk (show q ≤ i from hq ▸ undI_len L y i)
            have HSS := HS3.out
            rw [HT.out,if_neg (by simp),List.append_nil] at HSS
            obtain ⟨Av,cv,rfl,_⟩ := HSS.reads
            have HQE := Aside0.mk hq
            have HSR := Aside0.mk (show wr2.ownsRow w.heap.size 9 1 (.slice Av q cv) q ((undI L y i).map strV) by rw [← hq];exact HSS)
            have hnq := HNE.out HT.out
            rw [hq] at hnq ⊢
            have HNQ := Aside0.mk hnq
            obtain ⟨i0,hi0,hz0,hz1,hz2⟩ := info_parts info9
            have HTT := Aside0.mk (show hasN (U.take (k + 1)) y = true by rw [HTS.out];simp)
            clear HSS hq HS3 hy hnq HNE
            go_wp2_with (at_builtin;refine wpList_append_own _ rfl _ _ tS rfl w.heap.size 9 i0 (.string ⟨#[]⟩) 1 16 Try.underlying124 hi0 hz0 hz1 hz2 rfl (by decide) _ _ _ rfl (HSR.out.alloc _) ⟨wr2.heap.size,0,none⟩ 1 1 [.string x.1] rfl rfl (cell_one_new _ _ _) (by simp [Value.oneCell']) (by have := HQ.out;unfold maxLen;omega) (by have := HQ.out;omega) (by have := GE.out;simp;omega) ?_;intro v' w3 hown' hgrow _;obtain ⟨g',cap',rfl⟩ := ownsRow_succ hown';have hall := (World.grownBy_alloc wr2 (Obj.cells #[.string x.1] 9) _).trans hgrow;have hbr := NW3.out.below.grown hall GE.out (fun j e => (World.ownsRow.lt HSR.out j e).1);have N3 := Aside0.mk (NextW.mk hbr (Nat.le_trans GE.out hall.size));have HS4 := Aside0.mk (show SRow w3 w.heap.size (.slice (some ⟨g',0,none⟩) (q + 1) cap') (undI L y i ++ [x.1]) by (unfold SRow;rw [List.length_append,HQE.out,List.map_append];exact hown'));have UR4 := Aside0.mk (show SRow w3 wr.heap.size (.slice (some au) m cu) U from World.ownsRow.kept UR3.out hall (kept_or HNQ.out));clear hown' hgrow hall hbr)
            go_roundw
            case rel => exact ⟨k + 1,by go_num,by omega,⟨by rw [HTT.out,if_pos rfl];exact HS4.out⟩,UR4,⟨fun h => by rw [HTT.out] at h;cases h⟩,N3⟩
            case measure => simp [intOf];omega
          · have q0 : (ByteArray.toList y == ByteArray.toList n) = false := by rw [eqS,decide_eq_false hn]
            have HTT := Aside0.mk (show hasN (U.take (k + 1)) n = hasN (U.take k) n by rw [HTS.out,decide_eq_false hn,Bool.or_false])
            clear hy hn
            go_wp2_with (fail)
            go_roundw
            case rel => exact ⟨k + 1,by go_num,by omega,⟨by rw [HTT.out];exact HS3.out⟩,UR3,⟨by rw [HTT.out];exact HNE.out⟩,NW3⟩
            case measure => simp [intOf];omega
        · have k2 : decide ((k : Int) < (m : Int)) = false := decide_eq_false (by omega)
          have HE := Aside0.mk (show undI L n (i + 1) = undI L n i ++ (if hasN (U.take k) n then [x.1] else []) by
            rw [undI_succ L n HX.out,HU.out,List.take_of_length_le (by rw [HM.out];omega)])
          go_wp2_with (fail)
          go_roundw
          case rel => exact ⟨i + 1,by go_num,by omega,⟨by rw [HE.out];exact HS3.out⟩,NW3⟩
          case measure => simp [intOf];omega
    · have k0 : decide ((i : Int) < (L.length : Int)) = false := decide_eq_false (by omega)
      have HE := Aside0.mk (undI_all L n (i := i) (by omega))
      go_wp2_with (fail)
      go_ret
      exact ⟨_,rfl,by rw [← HE.out];exact HS.out,NW.out.below⟩
end Go.Proofs.Ytcenlehfbgnphaa.Z
end
section
namespace Go.Proofs.Ytcenlehfbgnphaa.Z
set_option linter.unusedVariables false
set_option linter.unusedSimpArgs false
open Go.RowKit Go.Shelf Go.Maps Go.Proofs.YtcenlehfbgnphaaW.PrintWords Go.Proofs.YtcenlehfbgnphaaW.PrintLast Go.Proofs.YtcenlehfbgnphaaW.PrintMore Go.Proofs.Ytcenlehfbgnphaa.Cmp
def sumT (l : List En) : List Nm → Int
  | [] => 0
  | n :: r => (ownL n l).1 + sumT l r
theorem sumT_snoc (l : List En) (n : Nm) : ∀ U : List Nm,sumT l (U ++ [n]) = sumT l U + (ownL n l).1
  | [] => by show (ownL n l).1 + 0 = 0 + (ownL n l).1;omega
  | x :: r => by
    show (ownL x l).1 + sumT l (r ++ [n]) = (ownL x l).1 + sumT l r + (ownL n l).1
    rw [sumT_snoc l n r]
    omega
theorem sumT_bd {l : List En} (h : NumE l) : ∀ U : List Nm,-(U.length * 9223372036854775808 : Int) ≤ sumT l U ∧ sumT l U ≤ U.length * 9223372036854775808
  | [] => ⟨by show -((0 : Nat) * 9223372036854775808 : Int) ≤ 0;omega,by show (0 : Int) ≤ (0 : Nat) * 9223372036854775808;omega⟩
  | x :: r => by
    have h1 := sumT_bd h r
    obtain ⟨h2,h3⟩ := own_in h x
    rw [List.length_cons]
    show -(((r.length + 1 : Nat) : Int) * 9223372036854775808) ≤ (ownL x l).1 + sumT l r ∧ (ownL x l).1 + sumT l r ≤ ((r.length + 1 : Nat) : Int) * 9223372036854775808
    omega
theorem sumT_ok {l : List En} (h : NumE l) (U : List Nm) (hU : U.length ≤ 1000) : SumOk (sumT l U) := by
  have := sumT_bd h U
  exact ⟨by omega,by omega⟩
set_option maxHeartbeats 8000000 in
set_option maxRecDepth 100000 in
theorem use_sum {A : Option Addr} {c : Nat} {l : List En} {An : Option Addr} {cn : Nat} {U : List Nm} {w : World} (hC : Kd.C k83 w A l.length l) (hc : l.length ≤ c) (hN : NumE l) (hU : Kd.C Kd.string w An U.length U) (h24 : U.length ≤ 24) :
    Calls Try.prog 91 #[.slice An U.length cn,.slice A l.length c] w fun e w' => e = .returned (.tuple #[.int .i64 (fitF (sumT l U)).1,.int .i64 (fitF (sumT l U)).2]) ∧ Below w.heap.size w w' := by
  have HC := Aside0.mk hC
  have HK := Aside0.mk hc
  have HN := Aside0.mk hN
  have HU := Aside0.mk hU
  have hbw : Below w.heap.size w (w.alloc (.cells (sumCells 0 0 0) 26)) := below_alloc (Below.refl _ _) _
  have S1 := Aside0.mk (SumAt.new w)
  have N1 := Aside0.mk (show NextW w.heap.size w (w.alloc (.cells (sumCells 0 0 0) 26)) from ⟨hbw,hbw.size⟩)
  obtain ⟨LL,hLL⟩ : ∃ LL,l.length = LL := ⟨_,rfl⟩
  have HLL := Aside0.mk hLL
  rw [hLL]
  clear hC hc hN hU hbw hLL
  go_enter Try.func91,Try.ntmps91
  go_wp2_with (fail)
  obtain ⟨g,hg⟩ : ∃ g,w.heap.size = g := ⟨_,rfl⟩
  have HG := Aside0.mk hg
  rw [hg] at S1
  try rw [hg]
  clear hg
  rw [show sumCells 0 0 0 = #[.int .i64 0,.int .i64 0,.int .i64 0] from rfl] at S1 N1
  generalize w.alloc (.cells #[.int .i64 0,.int .i64 0,.int .i64 0] 26) = w1 at *
  go_loopw [15] (fun iv wr => ∃ i : Nat,iv = .int .i64 (i : Int) ∧ i ≤ U.length ∧ Aside0 (SumAt wr g (sumT l (U.take i))) ∧ Aside0 (NextW w.heap.size w wr)) (fun iv _ => U.length - (intOf iv).toNat)
  case atStart => exact ⟨0,rfl,Nat.zero_le _,S1,N1⟩
  case round =>
    rename World => wr
    clear S1 N1
    obtain ⟨i,rfl,hi,HS,NW⟩ := hrel
    by_cases hlt : i < U.length
    · have k0 : decide ((i : Int) < (U.length : Int)) = true := decide_eq_true (by omega)
      obtain ⟨x,hx⟩ : ∃ x,U[i]? = some x := ⟨U[i],List.getElem?_eq_getElem hlt⟩
      obtain ⟨ad,rfl,c1⟩ := str_at (Kd.C_below HU.out NW.out.below) hx
      have TK := Aside0.mk (show U.take (i + 1) = U.take i ++ [x] by rw [List.take_add_one,hx];rfl)
      have p0 : (0 : Int) ≤ (i : Int) := by omega
      have p1 : (i : Int) < (U.length : Int) := by omega
      have C2 := Aside0.mk (Kd.C_below HC.out NW.out.below)
      have XI := Aside0.mk (own_in HN.out x)
      have SO := Aside0.mk (sumT_ok HN.out (U.take i) (by have := List.length_take_le i U;omega))
      have OW := Aside0.mk (use_own (w := wr) C2.out HK.out x)
      rw [HLL.out] at OW
      obtain ⟨o,ho⟩ : ∃ o,ownL x l = o := ⟨_,rfl⟩
      have HOO := Aside0.mk ho
      rw [ho] at OW XI
      clear hx ho
      go_wp2_with (fail)
      refine OW.out.mono ?_
      rintro e w3 ⟨rfl,hb3⟩
      have S3 := Aside0.mk (show SumAt w3 g (sumT l (U.take i)) by
        obtain ⟨x0,x1,x2,hh,r⟩ := HS.out.out
        exact ⟨x0,x1,x2,(hb3.block g (blk_lt hh)).trans hh,r⟩)
      have N3 := Aside0.mk (NW.out.next hb3)
      clear hb3 HS NW
      go_wp2_with (fail)
      refine (sum_put g _ o.1 1 w3 S3.out SO.out XI.out (by decide) (by decide)).mono ?_
      rintro e w4 ⟨rfl,hs4,hg4⟩
      have S4 := Aside0.mk (show SumAt w4 g (sumT l (U.take (i + 1))) by rw [TK.out,sumT_snoc,HOO.out];rw [Int.mul_one] at hs4;exact hs4)
      have N4 := Aside0.mk (show NextW w.heap.size w w4 from ⟨N3.out.below.grown hg4 N3.out.le (fun k e => by cases e;have := HG.out;omega),Nat.le_trans N3.out.le hg4.size⟩)
      clear hs4 hg4
      go_wp2_with (fail)
      exact ⟨⟨i + 1,by rw [show (((i + 1 : Nat)) : Int) = (i : Int) + 1 from by omega],hlt,S4,N4⟩,by simp [intOf];omega⟩
    · have k0 : decide ((i : Int) < (U.length : Int)) = false := decide_eq_false (by omega)
      have HT := Aside0.mk (show U.take i = U from List.take_of_length_le (by omega))
      have S3 := Aside0.mk (show SumAt wr g (sumT l U) by have := HS.out;rw [HT.out] at this;exact this)
      obtain ⟨F,hF⟩ : ∃ F,fitF (sumT l U) = F := ⟨_,rfl⟩
      have HF := Aside0.mk hF
      have SV := Aside0.mk (sum_value g _ wr S3.out)
      rw [hF] at SV
      clear hF HS
      go_wp2_with (fail)
      refine SV.out.mono ?_
      rintro e w3 ⟨rfl,hd3⟩
      have N3 := Aside0.mk (NW.out.next hd3.below)
      clear hd3
      go_wp2_with (fail)
      go_ret2
      exact ⟨by rw [HF.out];rfl,N3.out.below⟩
end Go.Proofs.Ytcenlehfbgnphaa.Z
end
section
namespace Go.Proofs
open Go.Shelf
def Try.keys112_ren : Go.Shelf.Ren := ⟨fun | 7 => 112 | 10 => 120 | n => n,fun | 23 => 131 | 26 => 9 | 3 => 9 | 28 => 140 | 0 => 0 | 27 => 139 | 33 => 134 | 4 => 4 | n => n,fun | n => n⟩
theorem Try.keys112 : Go.Proofs.SlLaysZ.n7 Try.prog Try.keys112_ren := {
  mixed := by kernel_rfl
  f7 := ⟨Try.f112.name,by decide,Try.func112.trans (congrArg some (by kernel_rfl))⟩
  f10 := ⟨Try.f120.name,by decide,Try.func120.trans (congrArg some (by kernel_rfl))⟩
  t0 := Try.underlying0
  a0 := Try.isAgg0
  z0 := Try.sizeOf0
  v0 := Try.zeroValue0
  t4 := Try.underlying4
  a4 := Try.isAgg4
  z4 := Try.sizeOf4
  v4 := Try.zeroValue4
  t23 := Try.underlying131
  a23 := Try.isAgg131
  z23 := Try.sizeOf131
  v23 := Try.zeroValue131
  t26 := Try.underlying9
  a26 := Try.isAgg9
  z26 := Try.sizeOf9
  v26 := Try.zeroValue9
  t27 := Try.underlying139
  a27 := Try.isAgg139
  z27 := Try.sizeOf139
  v27 := Try.zeroValue139
  t28 := Try.underlying140
  a28 := Try.isAgg140
  z28 := Try.sizeOf140
  v28 := Try.zeroValue140
  t33 := Try.underlying134
  a33 := Try.isAgg134
  z33 := Try.sizeOf134
  v33 := Try.zeroValue134 }
def Try.sorted111_ren : Go.Shelf.Ren := ⟨fun | 6 => 111 | 8 => 119 | 9 => 113 | 11 => 125 | 13 => 122 | 12 => 121 | 23 => 135 | 24 => 136 | 14 => 126 | 15 => 127 | 16 => 128 | 17 => 129 | 18 => 130 | 19 => 131 | 20 => 132 | 21 => 133 | 22 => 134 | 25 => 138 | 26 => 139 | 27 => 140 | 28 => 141 | 29 => 142 | 30 => 143 | 31 => 144 | n => n,fun | 26 => 9 | 28 => 140 | 24 => 124 | 0 => 0 | 3 => 3 | 37 => 94 | 48 => 160 | 50 => 96 | 4 => 4 | 40 => 153 | 39 => 152 | 45 => 157 | 5 => 5 | 9 => 9 | 51 => 162 | 55 => 166 | 57 => 168 | 58 => 169 | 33 => 134 | n => n,fun | n => n⟩
theorem Try.sorted111 : Go.Proofs.SlLaysZ.n6 Try.prog Try.sorted111_ren := {
  mixed := by kernel_rfl
  f6 := ⟨Try.f111.name,by decide,Try.func111.trans (congrArg some (by kernel_rfl))⟩
  f8 := ⟨Try.f119.name,by decide,Try.func119.trans (congrArg some (by kernel_rfl))⟩
  f11 := ⟨Try.f125.name,by decide,Try.func125.trans (congrArg some (by kernel_rfl))⟩
  t0 := Try.underlying0
  a0 := Try.isAgg0
  z0 := Try.sizeOf0
  v0 := Try.zeroValue0
  t24 := Try.underlying124
  a24 := Try.isAgg124
  z24 := Try.sizeOf124
  v24 := Try.zeroValue124
  t26 := Try.underlying9
  a26 := Try.isAgg9
  z26 := Try.sizeOf9
  v26 := Try.zeroValue9
  t28 := Try.underlying140
  a28 := Try.isAgg140
  z28 := Try.sizeOf140
  v28 := Try.zeroValue140
  i26 := by kernel_rfl }
def Try.sort113_ren : Go.Shelf.Ren := ⟨fun | 6 => 113 | 8 => 122 | 9 => 121 | 19 => 135 | 20 => 136 | 21 => 126 | 22 => 127 | 23 => 128 | 24 => 129 | 25 => 130 | 26 => 131 | 27 => 132 | 28 => 133 | 29 => 134 | 36 => 138 | 31 => 139 | 32 => 140 | 37 => 141 | 38 => 142 | 39 => 143 | 41 => 144 | n => n,fun | 27 => 124 | 29 => 9 | 3 => 3 | 32 => 94 | 26 => 124 | 0 => 0 | 44 => 160 | 46 => 96 | 4 => 4 | 36 => 153 | 35 => 152 | 41 => 157 | 5 => 5 | 9 => 9 | 53 => 162 | 57 => 166 | 63 => 168 | 64 => 169 | n => n,fun | n => n⟩
theorem Try.sort113 : Go.Proofs.SlLaysM.n6 Try.prog Try.sort113_ren := {
  mixed := by kernel_rfl
  f6 := ⟨Try.f113.name,by decide,Try.func113.trans (congrArg some (by kernel_rfl))⟩
  f8 := Try.func122.trans (congrArg some (by kernel_rfl))
  f9 := ⟨Try.f121.name,by decide,Try.func121.trans (congrArg some (by kernel_rfl))⟩
  f19 := Try.func135.trans (congrArg some (by kernel_rfl))
  f20 := Try.func136.trans (congrArg some (by kernel_rfl))
  f21 := ⟨Try.f126.name,by decide,Try.func126.trans (congrArg some (by kernel_rfl))⟩
  f22 := ⟨Try.f127.name,by decide,Try.func127.trans (congrArg some (by kernel_rfl))⟩
  f23 := ⟨Try.f128.name,by decide,Try.func128.trans (congrArg some (by kernel_rfl))⟩
  f24 := ⟨Try.f129.name,by decide,Try.func129.trans (congrArg some (by kernel_rfl))⟩
  f25 := ⟨Try.f130.name,by decide,Try.func130.trans (congrArg some (by kernel_rfl))⟩
  f26 := ⟨Try.f131.name,by decide,Try.func131.trans (congrArg some (by kernel_rfl))⟩
  f27 := ⟨Try.f132.name,by decide,Try.func132.trans (congrArg some (by kernel_rfl))⟩
  f28 := ⟨Try.f133.name,by decide,Try.func133.trans (congrArg some (by kernel_rfl))⟩
  f29 := ⟨Try.f134.name,by decide,Try.func134.trans (congrArg some (by kernel_rfl))⟩
  f31 := Try.func139.trans (congrArg some (by kernel_rfl))
  f32 := Try.func140.trans (congrArg some (by kernel_rfl))
  f36 := ⟨Try.f138.name,by decide,Try.func138.trans (congrArg some (by kernel_rfl))⟩
  f37 := ⟨Try.f141.name,by decide,Try.func141.trans (congrArg some (by kernel_rfl))⟩
  f38 := ⟨Try.f142.name,by decide,Try.func142.trans (congrArg some (by kernel_rfl))⟩
  f39 := ⟨Try.f143.name,by decide,Try.func143.trans (congrArg some (by kernel_rfl))⟩
  f41 := ⟨Try.f144.name,by decide,Try.func144.trans (congrArg some (by kernel_rfl))⟩
  t0 := Try.underlying0
  a0 := Try.isAgg0
  z0 := Try.sizeOf0
  v0 := Try.zeroValue0
  t3 := Try.underlying3
  a3 := Try.isAgg3
  z3 := Try.sizeOf3
  v3 := Try.zeroValue3
  t4 := Try.underlying4
  a4 := Try.isAgg4
  z4 := Try.sizeOf4
  v4 := Try.zeroValue4
  t5 := Try.underlying5
  a5 := Try.isAgg5
  z5 := Try.sizeOf5
  v5 := Try.zeroValue5
  t9 := Try.underlying9
  a9 := Try.isAgg9
  z9 := Try.sizeOf9
  v9 := Try.zeroValue9
  t26 := Try.underlying124
  a26 := Try.isAgg124
  z26 := Try.sizeOf124
  v26 := Try.zeroValue124
  t27 := Try.underlying124
  a27 := Try.isAgg124
  z27 := Try.sizeOf124
  v27 := Try.zeroValue124
  t29 := Try.underlying9
  a29 := Try.isAgg9
  z29 := Try.sizeOf9
  v29 := Try.zeroValue9
  t32 := Try.underlying94
  a32 := Try.isAgg94
  z32 := Try.sizeOf94
  v32 := Try.zeroValue94
  t35 := Try.underlying152
  a35 := Try.isAgg152
  z35 := Try.sizeOf152
  v35 := Try.zeroValue152
  t36 := Try.underlying153
  a36 := Try.isAgg153
  z36 := Try.sizeOf153
  v36 := Try.zeroValue153
  t41 := Try.underlying157
  a41 := Try.isAgg157
  z41 := Try.sizeOf157
  v41 := Try.zeroValue157
  t44 := Try.underlying160
  a44 := Try.isAgg160
  z44 := Try.sizeOf160
  v44 := Try.zeroValue160
  t46 := Try.underlying96
  a46 := Try.isAgg96
  z46 := Try.sizeOf96
  v46 := Try.zeroValue96
  t53 := Try.underlying162
  a53 := Try.isAgg162
  z53 := Try.sizeOf162
  v53 := Try.zeroValue162
  t57 := Try.underlying166
  a57 := Try.isAgg166
  z57 := Try.sizeOf166
  v57 := Try.zeroValue166
  t63 := Try.underlying168
  a63 := Try.isAgg168
  z63 := Try.sizeOf168
  v63 := Try.zeroValue168
  t64 := Try.underlying169
  a64 := Try.isAgg169
  z64 := Try.sizeOf169
  v64 := Try.zeroValue169 }
open Go.RowKit Go.Maps Go.Sort Go.Shelf
theorem Try.sorts111 (m : Nat) : AnyZ.SortsIn Try.prog Try.sorted111_ren Fence.wide m :=
  ⟨fun blk off cap ss W hH hblk hsz => callsIn_wide.2 (AnyM.slices_Sort_string Try.sort113 blk off cap ss W hH hblk hsz),
   fun p cap W => callsIn_wide.2 (AnyM.slices_Sort_string_none Try.sort113 p cap W)⟩
theorem Try.maps_Keys_112 (mb : Option Nat) (W : World) : CallsIn Fence.wide 5 Try.prog 112 #[.map mb] W fun e w' => e = .returned (.func (.func 120) #[] #[.pointer (some ⟨W.heap.size,0,none⟩)]) ∧ w' = W.alloc (.cells #[.map mb] 131) :=
  AnyZ.keys_in Try.keys112 Fence.wide 5 trivial rfl mb W
set_option maxHeartbeats 1000000 in
theorem Try.slices_Sorted_keys_111_112 {H : Type} (b nn : Nat) (D0 : DataW H) (R : Value → Option (DataW H × List MemPlace)) (w : World) (hown : w.ownsMap Try.prog 9 R b nn D0) (hmax : Maps.size D0 ≤ maxLen) (hbytes : Maps.size D0 * 16 ≤ 140737488355328) :
    CallsIn Fence.wide 5 Try.prog 111 #[.func (.func 120) #[] #[.pointer (some ⟨w.heap.size,0,none⟩)]] (w.alloc (.cells #[.map (some b)] 131)) fun e w' => ∃ (v : Value) (ss : List (List UInt8)),e = .returned v ∧ ss.Perm (strKeys D0) ∧
      w'.ownsRow (w.alloc (.cells #[.map (some b)] 131)).heap.size 9 1 v ss.length ((ss.mergeSort (fun x y => decide (x ≤ y))).map encStr) ∧ (v = .slice none 0 0 ↔ ss = []) ∧ Below (w.alloc (.cells #[.map (some b)] 131)).heap.size (w.alloc (.cells #[.map (some b)] 131)) w' := by
  have hbl := hown.lt
  have hseq : SeqGives Fence.wide 2 Try.prog 120 #[.pointer (some ⟨w.heap.size,0,none⟩)] encStr (fun ss => ss.Perm (strKeys D0)) (Maps.size D0) (w.alloc (.cells #[.map (some b)] 131)) :=
    AnyZ.keys_gives (ρ := Try.keys112_ren) { Try.keys112 with } Fence.wide _ trivial rfl (by omega) w.heap.size b nn D0 _ (by simp) (by simp) (by
      obtain ⟨es,clock,hb,Ft,hs,hD⟩ := hown
      exact ⟨es,clock,(Below.heap_alloc _ _ b hbl).trans hb,Ft,hs,hD⟩)
  exact AnyZ.sorted_in Try.sorted111 Fence.wide 5 trivial trivial trivial trivial rfl (by omega) (Try.sorts111 _) (enters_of Try.func113 (by kernel_rfl) rfl) 120 #[.pointer (some ⟨w.heap.size,0,none⟩)] trivial (enters_of Try.func120 (by kernel_rfl) rfl) _ _ hmax hbytes _ hseq
end Go.Proofs
end
section
namespace Go.Proofs.Ytcenlehfbgnphaa.Z
set_option linter.unusedVariables false
set_option linter.unusedSimpArgs false
open Go.RowKit Go.Shelf Go.Maps Go.Proofs.YtcenlehfbgnphaaW.PrintWords Go.Proofs.YtcenlehfbgnphaaW.PrintLast Go.Proofs.YtcenlehfbgnphaaW.PrintMore Go.Proofs.Ytcenlehfbgnphaa.Cmp
theorem keys_row {w W : World} {t b base : Nat} {L : List Tn} {v : Value} {ss : List (List UInt8)} (h : TreeAt w t b L) (hp : ss.Perm (strKeys (mapD L))) (hr : W.ownsRow base 9 1 v ss.length ((ss.mergeSort (fun x y => decide (x ≤ y))).map encStr)) : SRow W base v (L.map Prod.fst) := by
  rw [strKeys_mapD] at hp
  have h1 : sortN (ss.map ofB) = L.map Prod.fst := by
    refine sortN_eq ?_ (List.pairwise_map.2 (h.rise.imp (fun h => List.le_of_lt h)))
    have := hp.map ofB
    rw [map_of_to] at this
    exact this
  have h2 : (ss.mergeSort leB).map ofB = L.map Prod.fst := by
    rw [← h1]
    unfold sortN
    rw [map_to_of]
  have h3 : ((ss.mergeSort leB).map encStr) = (L.map Prod.fst).map strV := by
    rw [← h2,List.map_map]
    exact List.map_congr_left (fun x _ => by show encStr x = strV (ofB x);rw [← enc_to,to_of])
  have h4 : ss.length = (L.map Prod.fst).length := by rw [hp.length_eq,List.length_map]
  unfold SRow
  rw [← h3,← h4]
  exact hr
theorem getT_at {L : List Tn} (hn : (L.map Prod.fst).Nodup) {i : Nat} {x : Tn} (hx : L[i]? = some x) : getT L x.1 = some x.2 := by
  cases hg : getT L x.1 with
  | none => exact absurd rfl ((getT_none L x.1).1 hg x (List.mem_of_getElem? hx))
  | some p => rw [nodup_eq hn (getT_mem L x.1 p hg) (List.mem_of_getElem? hx) rfl rfl]
set_option maxHeartbeats 8000000 in
set_option maxRecDepth 100000 in
theorem ten_all {w : World} {t b : Nat} {L : List Tn} (h : TreeAt w t b L) (hO : Ok L) : Calls Try.prog 90 #[.pointer (some ⟨t,0,none⟩)] w fun e w' => ∃ v,e = .returned v ∧ Kd.N kTn tE w' w.heap.size (fun _ => True) v (L.map tn) ∧ Below w.heap.size w w' := by
  have HA := Aside0.mk h
  have HO := Aside0.mk hO
  have x0 : w.cell? ⟨t,0,none⟩ = some (.map (some b)) := blk_cell h.blk 0
  have HSZ := Aside0.mk (size_mapD L)
  clear h hO
  go_enter Try.func90,Try.ntmps90
  go_wp2_with (fail)
  refine (callsIn_wide.1 (Try.maps_Keys_112 (some b) w)).mono ?_
  rintro e w' ⟨rfl,rfl⟩
  go_wp2_with (fail)
  refine (callsIn_wide.1 (Try.slices_Sorted_keys_111_112 b L.length (mapD L) RvS w HA.out.map (by rw [HSZ.out];have := HO.out.len;unfold maxLen;omega) (by rw [HSZ.out];have := HO.out.len;omega))).mono ?_
  rintro e w2 ⟨v,ss,rfl,hp,hr,_,hb⟩
  have hrow := keys_row HA.out hp hr
  have B2 := Aside0.mk ((below_alloc (Below.refl w.heap.size w) (.cells #[.map (some b)] tM)).trans (hb.mono (by simp)))
  obtain ⟨Ak,ck,rfl,_,hC⟩ := hrow.reads
  have HC := Aside0.mk hC
  have A2 := Aside0.mk (HA.out.below B2.out)
  rw [List.length_map] at HC ⊢
  clear hp hr hb hrow hC
  go_wp2_with (fail)
  go_loopw [3,15] (fun ov iv wr => ∃ (i : Nat) (K : List Tn),iv = .int .i64 (i : Int) ∧ i ≤ L.length ∧ Aside0 (K = L.take i) ∧ Aside0 (Kd.N kTn tE wr w.heap.size (fun _ => True) ov (K.map tn)) ∧ Aside0 (∀ k,ov.ownBlock = some k → w2.heap.size ≤ k) ∧ Aside0 (NextW w2.heap.size w2 wr)) (fun _ iv _ => L.length - (intOf iv).toNat)
  case atStart => exact ⟨0,[],rfl,Nat.zero_le _,⟨rfl⟩,⟨Kd.N_nil _ _ _ _ _⟩,⟨fun k hk => by simp [Value.ownBlock] at hk⟩,⟨NextW.refl _⟩⟩
  case round =>
    rename World => wr
    obtain ⟨i,K,rfl,hi,HK,HN,HV,NW⟩ := hrel
    obtain ⟨m,hm⟩ : ∃ m,(K.map tn).length = m := ⟨_,rfl⟩
    have HM := Aside0.mk hm
    obtain ⟨Ao,co,rfl⟩ := Kd.N_slice HN.out
    rw [hm] at HN HV ⊢
    clear hm
    have h24 := HO.out.len
    by_cases hlt : i < L.length
    · have k0 : decide ((i : Int) < (L.length : Int)) = true := decide_eq_true (by omega)
      obtain ⟨x,hx⟩ : ∃ x,L[i]? = some x := ⟨L[i],List.getElem?_eq_getElem hlt⟩
      have A3 := Aside0.mk (A2.out.below NW.out.below)
      have hgx := getT_at A3.out.names hx
      have hkx := HO.out.nm x (List.mem_of_getElem? hx)
      have hsx : x.1.size ≤ maxLen := by have := (name_size hkx).2;unfold maxLen;omega
      obtain ⟨ad,cs,rfl,_,hcs,hcell⟩ := Kd.C_get (Kd.C_below HC.out NW.out.below) emp (i : Int) (by omega) (by omega)
      have c0 := hcell 0 (.string x.1) (by
        have h1 : cs = [.string ((L.map Prod.fst).getD (i : Int).toNat emp)] := hcs
        rw [h1,Int.toNat_natCast,List.getD_eq_getElem?_getD,List.getElem?_map,hx]
        rfl)
      have c1 : wr.cell? (ad.add i) = some (.string x.1) := by
        rw [← c0]
        congr 2
        show i = (i : Int).toNat * 1 + 0
        omega
      have y0 : wr.cell? ⟨t,0,none⟩ = some (.map (some b)) := blk_cell A3.out.blk 0
      have l0 := A3.out.look x.1 hsx
      rw [hgx] at l0
      have l1 : (Instr.lookup tM (.map (some b)) (.string x.1) false).run Try.prog wr = .ok (.string x.2) wr := l0
      have TK := Aside0.mk (show L.take (i + 1) = K ++ [x] by rw [HK.out,List.take_add_one,hx];rfl)
      have KL := Aside0.mk (show m ≤ 24 by have := HM.out;rw [← this,List.length_map,HK.out,List.length_take];omega)
      obtain ⟨x1,hx1⟩ : ∃ x1,x.1 = x1 := ⟨_,rfl⟩
      obtain ⟨x2,hx2⟩ : ∃ x2,x.2 = x2 := ⟨_,rfl⟩
      have HXT := Aside0.mk (show tn x = ⟨x1,x2⟩ by rw [← hx1,← hx2];rfl)
      rw [hx1] at c1 l1
      rw [hx2] at l1
      have p0 : (0 : Int) ≤ (i : Int) := by omega
      have p1 : (i : Int) < (L.length : Int) := by omega
      have GE := Aside0.mk (show w.heap.size ≤ wr.heap.size from Nat.le_trans B2.out.size NW.out.le)
      clear hcell hcs c0 hx hgx hkx hsx l0 hx1 hx2
      go_wp2_with (((with_reducible refine gate_builtin (b := .append) (xs := #[.tmp 19,.tmp 28]) rfl ?_);at_builtin;refine Kd.N_append kTn (w0 := w) w.heap.size rfl (.tmp 19) (.tmp 28) 86 tE (.agg #[(.string ⟨#[]⟩),(.string ⟨#[]⟩)]) 32 rfl Try.underlying86 (by kernel_rfl) rfl (by decide) (by omega) (.slice Ao m co) (K.map tn) ⟨x1,x2⟩ [.string x1,.string x2] (fun _ => True) (fun _ => False) rfl rfl (k92_mkF _ _ ⟨x1,x2⟩) (fun k hk => hk.elim) (fun _ _ => trivial) HN.out (B2.out.trans (NW.out.below.mono B2.out.size)) GE.out (by rw [HM.out];have := KL.out;omega) ?_;intro v2 w8 hv hb3 hg hat;have NV8 := Aside0.mk (show Kd.N kTn tE w8 w.heap.size (fun _ => True) v2 ((K ++ [x]).map tn) by (rw [List.map_append];show Kd.N kTn tE w8 w.heap.size (fun _ => True) v2 (K.map tn ++ [tn x]);rw [HXT.out];exact hv));have OV8 := Aside0.mk (own_new2 HV.out NW.out.le hat);have NW8 := Aside0.mk (show NextW w2.heap.size w2 w8 from ⟨NW.out.below.grown hg NW.out.le (fun k e => HV.out k e),Nat.le_trans NW.out.le hg.size⟩);clear hv hb3 hg hat))
      go_roundw
      case rel => exact ⟨i + 1,K ++ [x],by go_num,hlt,⟨TK.out.symm⟩,NV8,OV8,NW8⟩
      case measure => simp [intOf];omega
    · have k0 : decide ((i : Int) < (L.length : Int)) = false := decide_eq_false (by omega)
      have HE := Aside0.mk (show K = L by rw [HK.out,List.take_of_length_le (by omega)])
      go_wp2_with (fail)
      go_ret
      exact ⟨_,rfl,by rw [← HE.out];exact HN.out,B2.out.trans (NW.out.below.mono B2.out.size)⟩
end Go.Proofs.Ytcenlehfbgnphaa.Z
end
section
namespace Go.Proofs.Ytcenlehfbgnphaa.Z
set_option linter.unusedVariables false
set_option linter.unusedSimpArgs false
open Go.RowKit Go.Proofs.YtcenlehfbgnphaaW.PrintWords Go.Proofs.YtcenlehfbgnphaaW.PrintLast Go.Proofs.YtcenlehfbgnphaaW.PrintMore
structure S120 where
  f0 : Int
  f1 : ByteArray
  f2 : ByteArray
def z120 : S120 := ⟨(0 : Int),(⟨#[]⟩ : ByteArray),(⟨#[]⟩ : ByteArray)⟩
def k120 : Kd S120 := Kd.iso (Kd.pair (Kd.int .i64) (Kd.pair Kd.string Kd.string)) (fun x : S120 => (x.f0,x.f1,x.f2))
theorem k120_open {w : World} {x : S120} {cs : List Value} (h : k120.K w x cs) : cs = [.int .i64 x.f0,.string x.f1,.string x.f2] := by
  obtain ⟨_,_,rfl,rfl,⟨_,_,rfl,rfl,rfl⟩⟩ := h
  exact rfl
def rd_T120 (xs : List S120) (i : Int) : S120 := xs.getD i.toNat z120
theorem at_T120 {w : World} {A : Option Addr} {n : Nat} {xs : List S120} (h : Kd.C k120 w A n xs) (i : Int) (h0 : 0 ≤ i) (h1 : i < n) : ∃ ad,A = some ad ∧ w.cell? (ad.add (i.toNat * 3)) = some (.int .i64 (rd_T120 xs i).f0) ∧ w.cell? ⟨(ad.add (i.toNat * 3)).block,(ad.add (i.toNat * 3)).off + 1,none⟩ = some (.string (rd_T120 xs i).f1) ∧ w.cell? ⟨(ad.add (i.toNat * 3)).block,(ad.add (i.toNat * 3)).off + 2,none⟩ = some (.string (rd_T120 xs i).f2) := by
  obtain ⟨ad,c,e,_,hK,hc0⟩ := Kd.C_get h z120 i h0 h1
  have hc : ∀ j u,c[j]? = some u → w.cell? (ad.add (i.toNat * 3 + j)) = some u := hc0
  obtain rfl := k120_open hK
  exact ⟨ad,e,hc 0 _ rfl,by rw [← add_field _ _ 1 (by omega)];exact hc 1 _ rfl,by rw [← add_field _ _ 2 (by omega)];exact hc 2 _ rfl⟩
end Go.Proofs.Ytcenlehfbgnphaa.Z
end
section
namespace Go.Proofs.Ytcenlehfbgnphaa.Z
set_option linter.unusedVariables false
set_option linter.unusedSimpArgs false
open Go.RowKit Go.Shelf Go.Maps Go.Proofs.YtcenlehfbgnphaaW.PrintWords Go.Proofs.YtcenlehfbgnphaaW.PrintLast Go.Proofs.YtcenlehfbgnphaaW.PrintMore Go.Proofs.Ytcenlehfbgnphaa.Cmp
abbrev Act9 := S120
abbrev kAct : Kd Act9 := k120
def actP (L : List Tn) (a : Act9) : List Tn := if a.f0.tmod 3 = 0 then (addP L a.f1 a.f2).2 else if a.f0.tmod 3 = 1 then (moveP L a.f1 a.f2).2 else (dropP L a.f1).2
theorem Ok.actP {L : List Tn} (h : Ok L) (hn : (L.map Prod.fst).Nodup) (a : Act9) : Ok (Z.actP L a) := by
  unfold Z.actP
  split
  · exact h.addP _ _
  split
  · exact h.moveP hn _ _
  · exact h.dropP hn _
theorem row_at {w : World} {A : Option Addr} {L : List Tn} (h : Kd.C kTn w A L.length (L.map tn)) {i : Nat} {x : Tn} (hx : L[i]? = some x) :
    ∃ ad,A = some ad ∧ w.cell? (ad.add (i * 2)) = some (.string x.1) ∧ w.cell? ⟨(ad.add (i * 2)).block,(ad.add (i * 2)).off + 1,none⟩ = some (.string x.2) := by
  have hi : i < L.length := (List.getElem?_eq_some_iff.1 hx).1
  obtain ⟨ad,rfl,h1,h2⟩ := at_T92 h (i : Int) (by omega) (by omega)
  have e : rd_T92 (L.map tn) (i : Int) = tn x := by
    unfold rd_T92
    rw [Int.toNat_natCast,List.getD_eq_getElem?_getD,List.getElem?_map,hx]
    rfl
  rw [e,Int.toNat_natCast] at h1 h2
  exact ⟨ad,rfl,h1,h2⟩
theorem TreeAt.at_ {w W : World} {t b : Nat} {L : List Tn} (h : TreeAt w t b L) (e : SameW w W := by exact ⟨rfl,rfl,rfl,rfl⟩) : TreeAt W t b L := h.below (e.below _)
def GAct (a : Act9) : Prop := a.f1.size ≤ maxLen ∧ a.f2.size ≤ maxLen
end Go.Proofs.Ytcenlehfbgnphaa.Z
end
section
namespace Go.Proofs.Ytcenlehfbgnphaa.Z
set_option linter.unusedVariables false
set_option linter.unusedSimpArgs false
open Go.RowKit Go.Shelf Go.Maps Go.Proofs.YtcenlehfbgnphaaW.PrintWords Go.Proofs.YtcenlehfbgnphaaW.PrintLast Go.Proofs.YtcenlehfbgnphaaW.PrintMore Go.Proofs.Ytcenlehfbgnphaa.Cmp
abbrev Us := S45
abbrev kUs : Kd Us := k45
def useF (l : List En) (L : List Tn) (n : Nm) : Int × Int := fitF (sumT l (undL L n))
def useX (l : List En) (L : List Tn) (rule : Nm) (lim : Int) (x : Tn) : Us := ⟨rule,x.1,(useF l L x.1).1,lim⟩
def ofCode (l : List En) (L : List Tn) : List Tn → Int
  | [] => 0
  | x :: r => if (useF l L x.1).2 = 0 then ofCode l L r else (useF l L x.1).2
theorem kUs_mkF (W : World) (ok : Nat → Prop) (x : Us) : Kd.FK kUs W ok x [.string x.f0,.string x.f1,.int .i64 x.f2,.int .i64 x.f3] := fun W2 _ => k45_mk W2 x
set_option maxHeartbeats 2000000 in
set_option maxRecDepth 100000 in
theorem use_of0 (rule : Nm) (lim : Int) (A : Option Addr) (n c : Nat) (w : World) : Calls Try.prog 57 #[.string rule,.int .i64 lim,.pointer none,.slice A n c] w fun e w' => e = .returned (.tuple #[.slice none 0 0,.int .i64 1]) ∧ w' = w := by
  go_enter Try.func57,Try.ntmps57
  go_wp2
  go_ret2
  exact ⟨rfl,rfl⟩
set_option maxHeartbeats 8000000 in
set_option maxRecDepth 100000 in
theorem use_of {w : World} {t b : Nat} {L : List Tn} (h : TreeAt w t b L) (hO : Ok L) (rule : Nm) (lim : Int) {A : Option Addr} {c : Nat} {l : List En} (hC : Kd.C k83 w A l.length l) (hc : l.length ≤ c) (hN : NumE l) :
    Calls Try.prog 57 #[.string rule,.int .i64 lim,.pointer (some ⟨t,0,none⟩),.slice A l.length c] w fun e w' => ∃ v,e = .returned (.tuple #[v,.int .i64 (ofCode l L L)]) ∧ (ofCode l L L = 0 → Kd.N kUs 45 w' w.heap.size (fun _ => True) v (L.map (useX l L rule lim))) ∧ (ofCode l L L ≠ 0 → v = .slice none 0 0) ∧ Below w.heap.size w w' := by
  have HA := Aside0.mk h
  have HO := Aside0.mk hO
  have HC := Aside0.mk hC
  have HK := Aside0.mk hc
  have HN := Aside0.mk hN
  have L24 := hO.len
  obtain ⟨code,hcode⟩ : ∃ code,ofCode l L L = code := ⟨_,rfl⟩
  have HCODE := Aside0.mk hcode
  rw [hcode]
  obtain ⟨LL,hLL⟩ : ∃ LL,l.length = LL := ⟨_,rfl⟩
  have HLL := Aside0.mk hLL
  rw [hLL]
  clear h hO hC hc hN hcode hLL
  go_enter Try.func57,Try.ntmps57
  go_wp2_with (fail)
  refine (ten_all HA.out HO.out).mono ?_
  rintro e w1 ⟨v1,rfl,hN1,hb1⟩
  have A1 := Aside0.mk (HA.out.below hb1)
  have B1 := Aside0.mk (NextW.mk hb1 hb1.size)
  obtain ⟨Al,cl,rfl,hcl,hCl⟩ := Kd.N_reads hN1
  rw [List.length_map] at hcl hCl ⊢
  have CL := Aside0.mk hCl
  have C1 := Aside0.mk (Kd.C_below HC.out hb1)
  clear hb1 hN1 hCl hcl HA
  go_wp2_with (fail)
  go_loopw [10,20] (fun ov iv wr => ∃ i : Nat,iv = .int .i64 (i : Int) ∧ i ≤ L.length ∧ Aside0 (ofCode l L (L.drop i) = code) ∧ Aside0 (Kd.N kUs 45 wr w1.heap.size (fun _ => True) ov ((L.take i).map (useX l L rule lim))) ∧ Aside0 (NextW w1.heap.size w1 wr)) (fun _ iv _ => L.length - (intOf iv).toNat)
  case atStart => exact ⟨0,rfl,Nat.zero_le _,HCODE,⟨Kd.N_nil _ _ _ _ _⟩,⟨NextW.refl _⟩⟩
  case round =>
    rename World => wr
    obtain ⟨i,rfl,hi,HCD,HV,NW⟩ := hrel
    by_cases hlt : i < L.length
    · have k0 : decide ((i : Int) < (L.length : Int)) = true := decide_eq_true (by omega)
      obtain ⟨x,hx⟩ : ∃ x,L[i]? = some x := ⟨L[i],List.getElem?_eq_getElem hlt⟩
      obtain ⟨ad,rfl,c0,c1⟩ := row_at (Kd.C_below CL.out NW.out.below) hx
      have DR := Aside0.mk (show L.drop i = x :: L.drop (i + 1) by
        have h1 : L[i] = x := by rw [List.getElem?_eq_getElem hlt] at hx;exact Option.some.inj hx
        rw [← h1]
        exact List.drop_eq_getElem_cons hlt)
      have TK := Aside0.mk (show L.take (i + 1) = L.take i ++ [x] by rw [List.take_add_one,hx];rfl)
      have p0 : (0 : Int) ≤ (i : Int) := by omega
      have p1 : (i : Int) < (L.length : Int) := by omega
      obtain ⟨x1,x2⟩ := x
      simp only at c0 c1
      have hbx : Below wr.heap.size wr (wr.alloc (.cells #[.string x1,.string x2] 92)) := below_alloc (Below.refl _ _) _
      have A2 := Aside0.mk ((A1.out.below NW.out.below).below hbx)
      have N2 := Aside0.mk (NW.out.next hbx)
      have V2 := Aside0.mk (Kd.N_below HV.out hbx)
      have BX := Aside0.mk (blk_new wr (.cells #[.string x1,.string x2] 92))
      obtain ⟨gx,hgx⟩ : ∃ gx,wr.heap.size = gx := ⟨_,rfl⟩
      have HGX := Aside0.mk hgx
      rw [hgx] at BX
      clear hx hbx NW HV
      go_wp2_with (fail)
      refine (ten_under A2.out HO.out.sh HO.out.psize (by omega) x1).mono ?_
      rintro e w3 ⟨v3,rfl,hrow,hb3⟩
      obtain ⟨U,hU⟩ : ∃ U,undL L x1 = U := ⟨_,rfl⟩
      have HU := Aside0.mk hU
      have U24 : U.length ≤ 24 := by rw [← hU];have := und_lenL L x1;omega
      rw [hU] at hrow
      obtain ⟨Au,cu,rfl,_,hUC⟩ := hrow.reads
      have UC := Aside0.mk hUC
      have N3 := Aside0.mk (N2.out.next hb3)
      have V3 := Aside0.mk (Kd.N_below V2.out hb3)
      have BX3 := Aside0.mk ((hb3.block gx (blk_lt BX.out)).trans BX.out)
      have C3 := Aside0.mk (Kd.C_below C1.out N3.out.below)
      obtain ⟨F,hF⟩ : ∃ F,fitF (sumT l U) = F := ⟨_,rfl⟩
      have HF := Aside0.mk (show useF l L x1 = F by unfold useF;rw [hU,hF])
      have SM := Aside0.mk (use_sum (cn := cu) C3.out HK.out HN.out UC.out U24)
      rw [hF,HLL.out] at SM
      clear hb3 hrow hUC hU hF A2 N2 V2 BX
      go_wp2_with (fail)
      refine SM.out.mono ?_
      rintro e w4 ⟨rfl,hb4⟩
      have N4 := Aside0.mk (N3.out.next hb4)
      have V4 := Aside0.mk (Kd.N_below V3.out hb4)
      have BX4 := Aside0.mk ((hb4.block gx (blk_lt BX3.out)).trans BX3.out)
      have y0 := (blk_cell BX4.out 0).trans rfl
      obtain ⟨f1,f2⟩ := F
      simp only at *
      clear hb4 N3 V3 BX3 SM UC C3
      have HCD2 := Aside0.mk (show (if f2 = 0 then ofCode l L (L.drop (i + 1)) else f2) = code by
        have h1 := HCD.out
        rw [DR.out] at h1
        show _ = code
        rw [← h1]
        show _ = (if (useF l L x1).2 = 0 then ofCode l L (L.drop (i + 1)) else (useF l L x1).2)
        rw [HF.out])
      by_cases hz : f2 = 0
      · have q0 : (f2 == 0) = true := by rw [hz];rfl
        have q1 : (f2 != 0) = false := by rw [hz];rfl
        obtain ⟨K,hK⟩ : ∃ K,(L.take i).map (useX l L rule lim) = K := ⟨_,rfl⟩
        have HKK := Aside0.mk hK
        have hV4 := V4.out
        rw [hK] at hV4
        obtain ⟨Ao,co,rfl⟩ := Kd.N_slice hV4
        obtain ⟨m,hm⟩ : ∃ m,K.length = m := ⟨_,rfl⟩
        have HM := Aside0.mk hm
        have m24 : m ≤ 24 := by rw [← hm,← hK,List.length_map,List.length_take];omega
        rw [hm] at hV4 ⊢
        have V5 := Aside0.mk hV4
        have NEX := Aside0.mk (show (useX l L rule lim (x1,x2)) = ⟨rule,x1,f1,lim⟩ by unfold useX;rw [show (x1,x2).1 = x1 from rfl,HF.out])
        have HC5 := Aside0.mk (show ofCode l L (L.drop (i + 1)) = code by have := HCD2.out;rw [if_pos hz] at this;exact this)
        have LE4 := Aside0.mk N4.out.le
        clear hK hm hV4 hz V4
        go_wp2_with (((with_reducible refine gate_builtin (b := .append) (xs := #[.tmp 36,.tmp 43]) rfl ?_);at_builtin;refine Kd.N_append kUs (w0 := w1) w1.heap.size rfl (.tmp 36) (.tmp 43) 53 45 (.agg #[(.string ⟨#[]⟩),(.string ⟨#[]⟩),(.int .i64 0),(.int .i64 0)]) 48 rfl Try.underlying53 info45 rfl (by decide) (by omega) (.slice Ao m co) K ⟨rule,x1,f1,lim⟩ [.string rule,.string x1,.int .i64 f1,.int .i64 lim] (fun _ => True) (fun _ => False) rfl rfl (kUs_mkF _ _ ⟨rule,x1,f1,lim⟩) (fun k hk => hk.elim) (fun _ _ => trivial) V5.out N4.out.below LE4.out (by rw [HM.out];omega) ?_;intro v2 w8 hv hb3 hg hat;have V8 := Aside0.mk (show Kd.N kUs 45 w8 w1.heap.size (fun _ => True) v2 ((L.take (i + 1)).map (useX l L rule lim)) by (rw [TK.out,List.map_append,List.map_cons,List.map_nil,NEX.out,HKK.out];exact hv));have N8 := Aside0.mk (show NextW w1.heap.size w1 w8 from ⟨hb3,Nat.le_trans LE4.out hg.size⟩);clear hv hb3 hg hat))
        exact ⟨⟨i + 1,by rw [show (((i + 1 : Nat)) : Int) = (i : Int) + 1 from by omega],hlt,HC5,V8,N8⟩,by simp [intOf];omega⟩
      · have q0 : (f2 == 0) = false := beq_eq_false_iff_ne.2 hz
        have q1 : (f2 != 0) = true := by rw [bne,q0];rfl
        have HE := Aside0.mk (show code = f2 by have := HCD2.out;rw [if_neg hz] at this;exact this.symm)
        have HZ := Aside0.mk hz
        clear hz
        go_wp2_with (fail)
        go_ret2
        exact ⟨_,by rw [HE.out];rfl,fun h => absurd (HE.out.symm.trans h) HZ.out,fun _ => rfl,B1.out.below.trans (N4.out.below.mono B1.out.le)⟩
    · have k0 : decide ((i : Int) < (L.length : Int)) = false := decide_eq_false (by omega)
      have HE := Aside0.mk (show code = 0 by
        have := HCD.out
        rw [List.drop_eq_nil_of_le (by omega)] at this
        exact this.symm)
      have HT := Aside0.mk (show L.take i = L from List.take_of_length_le (by omega))
      go_wp2_with (fail)
      go_ret2
      exact ⟨_,by rw [HE.out];rfl,fun _ => by rw [HT.out] at HV;exact Kd.N_lower HV.out B1.out.le,fun h => absurd HE.out h,B1.out.below.trans (NW.out.below.mono B1.out.le)⟩
end Go.Proofs.Ytcenlehfbgnphaa.Z
end
section
namespace Go.Proofs.Ytcenlehfbgnphaa.Z
set_option linter.unusedVariables false
set_option linter.unusedSimpArgs false
open Go.RowKit Go.Proofs.YtcenlehfbgnphaaW.PrintWords Go.Proofs.YtcenlehfbgnphaaW.PrintLast Go.Proofs.YtcenlehfbgnphaaW.PrintMore Go.Proofs.Ytcenlehfbgnphaa.Cmp
theorem lessN_cmp : ∀ a b : List UInt8,(Op.bytesLess a b = true ↔ cmpB a b < 0)
  | [],[] => by simp [Op.bytesLess,cmpB,lexC]
  | [],b :: bs => by simp [Op.bytesLess,cmpB,lexC]
  | a :: as',[] => by simp [Op.bytesLess,cmpB,lexC]
  | a :: as',b :: bs => by
    have ih := lessN_cmp as' bs
    simp only [Op.bytesLess,cmpB,lexC,Bool.or_eq_true,Bool.and_eq_true,decide_eq_true_eq,beq_iff_eq] at ih ⊢
    have hlt : a < b ↔ a.toNat < b.toNat := UInt8.lt_iff_toNat_lt
    have heq : a = b ↔ a.toNat = b.toNat := UInt8.toNat_inj.symm
    rw [hlt,heq]
    by_cases h1 : a.toNat = b.toNat
    · have h0 : cmpI (a.toNat : Int) (b.toNat : Int) = 0 := cmpI_eq.2 (by omega)
      rw [if_pos h0,← ih]
      constructor
      · rintro (h | ⟨_,h⟩)
        · omega
        · exact h
      · exact fun h => .inr ⟨h1,h⟩
    · have h0 : ¬ cmpI (a.toNat : Int) (b.toNat : Int) = 0 := fun h => h1 (by have := cmpI_eq.1 h;omega)
      rw [if_neg h0]
      unfold cmpI
      constructor
      · rintro (h | ⟨h,_⟩)
        · rw [if_pos (by omega)];omega
        · exact absurd h h1
      · intro h
        refine .inl ?_
        split at h
        · omega
        · split at h <;> omega
end Go.Proofs.Ytcenlehfbgnphaa.Z
end
section
namespace Go.Proofs.Ytcenlehfbgnphaa.Z
set_option linter.unusedVariables false
set_option linter.unusedSimpArgs false
open Go.RowKit Go.Shelf Go.Maps Go.Proofs.Ytcenlehfbgnphaa.Cmp
theorem bb_less : ∀ a b : List UInt8,bytesBefore a b = Op.bytesLess a b
  | [],[] => rfl
  | [],b :: s => rfl
  | a :: r,[] => rfl
  | a :: r,b :: s => by
    unfold bytesBefore Op.bytesLess
    rw [bb_less r s]
def cmpN (a b : Nm) : Int := cmpB a.data.toList b.data.toList
theorem before_cmp (a b : Nm) : (lk a).before (lk b) = true ↔ cmpN a b < 0 := by
  show bytesBefore _ _ = true ↔ _
  rw [bb_less,lessN_cmp]
  exact Iff.rfl
theorem cmpN_ne {a b : Nm} (h : a ≠ b) : cmpN a b ≠ 0 := fun e => h (toB_inj (cmpB_eq e))
theorem cmpN_anti (a b : Nm) : cmpN b a = -cmpN a b := cmpB_law.anti _ _
def posI : List Tn → Nm → Nat
  | [],_ => 0
  | y :: r,n => if cmpN y.1 n < 0 then posI r n + 1 else 0
theorem posI_le : ∀ (L : List Tn) (n : Nm),posI L n ≤ L.length
  | [],_ => Nat.le_refl _
  | y :: r,n => by
    unfold posI
    split
    · exact Nat.succ_le_succ (posI_le r n)
    · exact Nat.zero_le _
theorem posI_step : ∀ (L : List Tn) (n : Nm) (i : Nat) (x : Tn),i ≤ posI L n → L[i]? = some x → cmpN x.1 n < 0 → i + 1 ≤ posI L n
  | [],_,i,x,_,h,_ => by simp at h
  | y :: r,n,i,x,h,hx,hn => by
    unfold posI at h ⊢
    cases i with
    | zero =>
      simp only [List.getElem?_cons_zero,Option.some.injEq] at hx
      subst hx
      rw [if_pos hn]
      omega
    | succ i =>
      by_cases e : cmpN y.1 n < 0
      · rw [if_pos e] at h ⊢
        have := posI_step r n i x (by omega) (by simpa using hx) hn
        omega
      · rw [if_neg e] at h;omega
theorem posI_stop : ∀ (L : List Tn) (n : Nm) (i : Nat) (x : Tn),i ≤ posI L n → L[i]? = some x → ¬ cmpN x.1 n < 0 → posI L n = i
  | [],_,i,x,_,h,_ => by simp at h
  | y :: r,n,i,x,h,hx,hn => by
    unfold posI at h ⊢
    cases i with
    | zero =>
      simp only [List.getElem?_cons_zero,Option.some.injEq] at hx
      subst hx
      rw [if_neg hn]
    | succ i =>
      by_cases e : cmpN y.1 n < 0
      · rw [if_pos e] at h ⊢
        have := posI_stop r n i x (by omega) (by simpa using hx) hn
        omega
      · rw [if_neg e] at h;omega
theorem ins_at (n p : Nm) : ∀ L : List Tn,(∀ q ∈ L,q.1 ≠ n) → insL (n,p) L = L.take (posI L n) ++ (n,p) :: L.drop (posI L n)
  | [],_ => rfl
  | y :: r,h => by
    have hy := h y List.mem_cons_self
    have hc := cmpN_ne hy
    have ha := cmpN_anti y.1 n
    unfold insL posI
    by_cases e : cmpN y.1 n < 0
    · rw [if_neg (by rw [before_cmp];show ¬ cmpN n y.1 < 0;omega),if_pos e,ins_at n p r (fun q hq => h q (List.mem_cons_of_mem _ hq))]
      rfl
    · rw [if_pos (by rw [before_cmp];show cmpN n y.1 < 0;omega),if_neg e]
      rfl
theorem del_gone {n : Nm} {L : List Tn} (h : ∀ q ∈ L,q.1 ≠ n) : delL n L = L := by
  unfold delL
  rw [List.filter_eq_self]
  intro q hq
  simp [h q hq]
theorem put_new {L : List Tn} {n p : Nm} (h : getT L n = none) : putTn n p L = L.take (posI L n) ++ (n,p) :: L.drop (posI L n) := by
  have h1 := (getT_none L n).1 h
  unfold putTn
  rw [del_gone h1]
  exact ins_at n p L h1
theorem before_of_lt {a b : Nm} (h : toB a < toB b) : cmpN a b < 0 := by
  by_cases e : cmpN a b < 0
  · exact e
  · exfalso
    have hne : a ≠ b := fun q => by rw [q] at h;exact List.lt_irrefl _ h
    have h1 := cmpN_ne hne
    have h2 := cmpN_anti a b
    have h3 : (lk b).before (lk a) = true := (before_cmp b a).2 (by omega)
    exact absurd (before_lt _ _ h3) (List.lt_asymm h)
theorem put_old {n p : Nm} : ∀ {L : List Tn},L.Pairwise (fun p q => toB p.1 < toB q.1) → getT L n ≠ none → putTn n p L = L.set (posL L n) (n,p)
  | [],_,h => absurd rfl h
  | y :: r,hp,h => by
    rw [List.pairwise_cons] at hp
    rw [getT_cons] at h
    rw [posL_cons]
    unfold putTn delL
    by_cases e : y.1 = n
    · rw [if_pos e,List.filter_cons,if_neg (by simp [e])]
      have hd : (∀ q ∈ r,q.1 ≠ n) := fun q hq he => by
        have := hp.1 q hq
        rw [e,he] at this
        exact List.lt_irrefl _ this
      have h2 := del_gone hd
      unfold delL at h2
      rw [h2]
      cases r with
      | nil => rfl
      | cons z s =>
        unfold insL
        rw [if_pos ((before_cmp n z.1).2 (before_of_lt (by rw [← e];exact hp.1 z List.mem_cons_self)))]
        rfl
    · rw [if_neg e] at h ⊢
      rw [List.filter_cons,if_pos (by simp [e])]
      unfold insL
      have hn : toB y.1 < toB n := by
        cases hg : getT r n with
        | none => exact absurd hg h
        | some q => exact hp.1 _ (getT_mem r n q hg)
      have h3 := before_of_lt hn
      have h4 := cmpN_anti y.1 n
      rw [if_neg (by rw [before_cmp];show ¬ cmpN n y.1 < 0;omega),List.set_cons_succ]
      congr 1
      exact put_old hp.2 h
theorem del_old {n : Nm} : ∀ {L : List Tn},L.Pairwise (fun p q => toB p.1 < toB q.1) → getT L n ≠ none → delL n L = L.take (posL L n) ++ L.drop (posL L n + 1)
  | [],_,h => absurd rfl h
  | y :: r,hp,h => by
    rw [List.pairwise_cons] at hp
    rw [getT_cons] at h
    rw [posL_cons]
    by_cases e : y.1 = n
    · rw [if_pos e]
      have hd : (∀ q ∈ r,q.1 ≠ n) := fun q hq he => by
        have := hp.1 q hq
        rw [e,he] at this
        exact List.lt_irrefl _ this
      have h2 := del_gone hd
      show delL n (y :: r) = r
      unfold delL at h2 ⊢
      rw [List.filter_cons,if_neg (by simp [e]),h2]
    · rw [if_neg e] at h ⊢
      have ih := del_old hp.2 h
      unfold delL at ih ⊢
      rw [List.filter_cons,if_pos (by simp [e]),ih]
      rfl
end Go.Proofs.Ytcenlehfbgnphaa.Z
end
section
namespace Go.Proofs.Ytcenlehfbgnphaa.Z
open Go.RowKit Go.Proofs.YtcenlehfbgnphaaW.PrintWords Go.Proofs.YtcenlehfbgnphaaW.PrintLast Go.Proofs.YtcenlehfbgnphaaW.PrintMore
attribute [local go_sem] max2_int min2_int max_two min_two max_three min_three max_four min_four
set_option linter.unusedVariables false
set_option linter.unusedSimpArgs false
mutual
def verdererref01_Text.l0 : Nat → ByteArray → ByteArray → Int → Option (Int)
  | 0,_,_,_ => none
  | k + 1,x0,x1,x5 => if x5 < (x0.size : Int) then (verdererref01_Text.j1 k x0 x1 x5 (decide (x5 < (x1.size : Int)))) else (verdererref01_Text.j1 k x0 x1 x5 false)
def verdererref01_Text.j1 : Nat → ByteArray → ByteArray → Int → Bool → Option (Int)
  | 0,_,_,_,_ => none
  | k + 1,x0,x1,x5,x15 => if x15 = true then (if 0 ≤ x5 then (if x5 < (x0.size : Int) then (if x5 < (x1.size : Int) then (if (bt x0 x5) < (bt x1 x5) then (some (-1)) else (if (bt x0 x5) > (bt x1 x5) then (some 1) else (verdererref01_Text.l0 k x0 x1 (wrap64 (x5 + 1))))) else (none)) else (none)) else (none)) else (if (x0.size : Int) < (x1.size : Int) then (some (-1)) else (if (x0.size : Int) > (x1.size : Int) then (some 1) else (some 0)))
end
def verdererref01_Text.f (k : Nat) (a0 : ByteArray) (a1 : ByteArray) : Option (Int) := verdererref01_Text.l0 k a0 a1 0
theorem verdererref01_Text.mono_l : ∀ k,(∀ y0 y1 y2,LeO (verdererref01_Text.l0 k y0 y1 y2) (verdererref01_Text.l0 (k + 1) y0 y1 y2)) ∧ (∀ y0 y1 y2 y3,LeO (verdererref01_Text.j1 k y0 y1 y2 y3) (verdererref01_Text.j1 (k + 1) y0 y1 y2 y3))
  | 0 => ⟨fun _ _ _ r h => by simp [verdererref01_Text.l0] at h,fun _ _ _ _ r h => by simp [verdererref01_Text.j1] at h⟩
  | k + 1 => by
    obtain ⟨ih0,ih1⟩ := verdererref01_Text.mono_l k
    refine ⟨?_,?_⟩
    · intro y0 y1 y2
      unfold verdererref01_Text.l0
      repeat' first
      | (with_reducible exact ih0 _ _ _)
      | (with_reducible exact ih1 _ _ _ _)
      | (with_reducible exact LeO.refl _)
      | (with_reducible exact LeO.none _)
      | (with_reducible refine LeO.ite ?_ ?_)
      | (with_reducible refine LeO.bind ?_ (fun _ => ?_))
      | exact ih0 _ _ _
      | exact ih1 _ _ _ _
      | exact LeO.none _
      | refine LeO.ite ?_ ?_
      | refine LeO.bind ?_ (fun _ => ?_)
    · intro y0 y1 y2 y3
      unfold verdererref01_Text.j1
      repeat' first
      | (with_reducible exact ih0 _ _ _)
      | (with_reducible exact ih1 _ _ _ _)
      | (with_reducible exact LeO.refl _)
      | (with_reducible exact LeO.none _)
      | (with_reducible refine LeO.ite ?_ ?_)
      | (with_reducible refine LeO.bind ?_ (fun _ => ?_))
      | exact ih0 _ _ _
      | exact ih1 _ _ _ _
      | exact LeO.none _
      | refine LeO.ite ?_ ?_
      | refine LeO.bind ?_ (fun _ => ?_)
theorem verdererref01_Text.mono : ∀ a0 a1 k,LeO (verdererref01_Text.f k a0 a1) (verdererref01_Text.f (k + 1) a0 a1) := by
  intro a0 a1 k
  obtain ⟨ih0,ih1⟩ := verdererref01_Text.mono_l k
  unfold verdererref01_Text.f
  repeat' first
      | (with_reducible exact ih0 _ _ _)
      | (with_reducible exact ih1 _ _ _ _)
      | (with_reducible exact LeO.refl _)
      | (with_reducible exact LeO.none _)
      | (with_reducible refine LeO.ite ?_ ?_)
      | (with_reducible refine LeO.bind ?_ (fun _ => ?_))
      | exact ih0 _ _ _
      | exact ih1 _ _ _ _
      | exact LeO.none _
      | refine LeO.ite ?_ ?_
      | refine LeO.bind ?_ (fun _ => ?_)
set_option maxHeartbeats 8000000 in
set_option maxRecDepth 100000 in
theorem verdererref01_Text.calls (k : Nat) (a0 : ByteArray) (a1 : ByteArray) (r : Int) (w : World) (h : verdererref01_Text.f k a0 a1 = some r) :
    Calls Try.prog 106 #[.string a0,.string a1] w fun e w' => e = .returned (.int .i64 r) ∧ Drawn0 w w' := by
  have H : (verdererref01_Text.l0 k a0 a1 0) = some r := h
  clear h
  have H' := Aside0.mk H
  clear H
  go_enter Try.func106,Try.ntmps106
  go_wp2
  repeat (go_quiet (fail);try go_wp2)
  go_loopg [5] k (fun kq v5 w' => ∃ (x5_1 : Int),v5 = .int .i64 x5_1 ∧ Aside0 (verdererref01_Text.l0 kq a0 a1 x5_1 = some r) ∧ Aside0 (kq ≤ k) ∧ Drawn0 w w')
  case atStart => exact ⟨(0),(by first | rfl | (simp;done) | (simp [*];done)),H',⟨Nat.le_refl _⟩,by repeat (first | exact Drawn0.refl _ | apply Drawn0.step)⟩
  case round =>
    clear H'
    try clear c1
    try clear p2
    obtain ⟨x5_1,rfl,HA,HK1,⟨m1,rfl⟩⟩ := hrel
    cases gk with
    | zero => exact absurd HA.out (by simp [verdererref01_Text.l0])
    | succ k1 =>
      have H := HA.out
      clear HA
      simp only [verdererref01_Text.l0] at H
      have HC3 := Aside0.mk H
      clear H
      go_upto_region 2 with (fail)
      repeat (go_quiet (fail);go_upto_region 2 with (fail))
      go_cut [15] (fun v15 wc => ∃ (kq : Nat) (x15_2 : Bool),v15 = .bool x15_2 ∧ Aside0 (verdererref01_Text.j1 kq a0 a1 x5_1 x15_2 = some r) ∧ Aside0 (kq ≤ k1) ∧ Drawn0 w wc)
      case first =>
        have H := HC3.out
        clear HC3
        by_cases c4 : x5_1 < (a0.size : Int)
        · rw [if_pos c4] at H
          have c4b0 : decide (x5_1 < (a0.size : Int)) = true := decide_eq_true c4
          clear c4
          (first | rw [c4b0] | (simp only [i64_w,i32_w];rw [c4b0]) | skip)
          have H' := Aside0.mk H
          clear H
          go_wp2
          repeat (go_quiet (fail);try go_wp2)
          go_meet
          case rel => exact ⟨_,(decide (x5_1 < (a1.size : Int))),(by first | rfl | (simp;done) | (simp [*];done)),H',⟨by have := HK1.out;first | omega | exact Nat.le_refl _⟩,by repeat (first | exact Drawn0.refl _ | apply Drawn0.step)⟩
        · rw [if_neg c4] at H
          have c4b0 : decide (x5_1 < (a0.size : Int)) = false := decide_eq_false c4
          clear c4
          (first | rw [c4b0] | (simp only [i64_w,i32_w];rw [c4b0]) | skip)
          have H' := Aside0.mk H
          clear H
          go_wp2
          repeat (go_quiet (fail);try go_wp2)
          go_meet
          case rel => exact ⟨_,(false),(by first | rfl | (simp;done) | (simp [*];done)),H',⟨by have := HK1.out;first | omega | exact Nat.le_refl _⟩,by repeat (first | exact Drawn0.refl _ | apply Drawn0.step)⟩
      case rest =>
        clear HC3
        try clear c1
        try clear p2
        try clear c4
        try clear c4b0
        try clear p2
        obtain ⟨kq,x15_2,rfl,HA,HJ2,⟨mc2,rfl⟩⟩ := hcut
        cases kq with
        | zero => exact absurd HA.out (by simp [verdererref01_Text.j1])
        | succ kj2 =>
          have H := HA.out
          clear HA
          simp only [verdererref01_Text.j1] at H
          by_cases c5 : x15_2 = true
          · subst c5
            have H1 : (if 0 ≤ x5_1 then (if x5_1 < (a0.size : Int) then (if x5_1 < (a1.size : Int) then (if (bt a0 x5_1) < (bt a1 x5_1) then (some (-1)) else (if (bt a0 x5_1) > (bt a1 x5_1) then (some 1) else (verdererref01_Text.l0 kj2 a0 a1 (wrap64 (x5_1 + 1))))) else (none)) else (none)) else (none)) = some r := by rw [if_pos rfl] at H;exact H
            clear H
            have H := H1
            clear H1
            by_cases c6 : 0 ≤ x5_1
            · rw [if_pos c6] at H
              have c6b0 : decide (0 ≤ x5_1) = true := decide_eq_true c6
              clear c6
              by_cases c7 : x5_1 < (a0.size : Int)
              · rw [if_pos c7] at H
                have c7b0 : decide (x5_1 < (a0.size : Int)) = true := decide_eq_true c7
                clear c7
                by_cases c9 : x5_1 < (a1.size : Int)
                · rw [if_pos c9] at H
                  have c9b0 : decide (x5_1 < (a1.size : Int)) = true := decide_eq_true c9
                  clear c9
                  by_cases c11 : (bt a0 x5_1) < (bt a1 x5_1)
                  · rw [if_pos c11] at H
                    have c11b0 : decide ((bt a0 x5_1) < (bt a1 x5_1)) = true := decide_eq_true c11
                    clear c11
                    obtain rfl := Option.some.inj H
                    have p8 : 0 ≤ (x5_1 : Int) := of_decide_eq_true (by first | (with_reducible assumption) | assumption)
                    have q8 : x5_1 < (a0.size : Int) := of_decide_eq_true (by first | (with_reducible assumption) | assumption)
                    have hx8 := bt_at a0 x5_1
                    replace p8 := eq_true p8
                    replace q8 := eq_true q8
                    have p10 : 0 ≤ (x5_1 : Int) := of_decide_eq_true (by first | (with_reducible assumption) | assumption)
                    have q10 : x5_1 < (a1.size : Int) := of_decide_eq_true (by first | (with_reducible assumption) | assumption)
                    have hx10 := bt_at a1 x5_1
                    replace p10 := eq_true p10
                    replace q10 := eq_true q10
                    go_wp2
                    repeat (go_quiet (fail);try go_wp2)
                    go_ret
                    exact ⟨by first | rfl | (simp;done) | (simp [*];done),by repeat (first | exact Drawn0.refl _ | apply Drawn0.step)⟩
                  · rw [if_neg c11] at H
                    have c11b0 : decide ((bt a0 x5_1) < (bt a1 x5_1)) = false := decide_eq_false c11
                    clear c11
                    by_cases c14 : (bt a0 x5_1) > (bt a1 x5_1)
                    · rw [if_pos c14] at H
                      have c14b0 : decide ((bt a1 x5_1) < (bt a0 x5_1)) = true := decide_eq_true c14
                      clear c14
                      obtain rfl := Option.some.inj H
                      have p8 : 0 ≤ (x5_1 : Int) := of_decide_eq_true (by first | (with_reducible assumption) | assumption)
                      have q8 : x5_1 < (a0.size : Int) := of_decide_eq_true (by first | (with_reducible assumption) | assumption)
                      have hx8 := bt_at a0 x5_1
                      replace p8 := eq_true p8
                      replace q8 := eq_true q8
                      have p10 : 0 ≤ (x5_1 : Int) := of_decide_eq_true (by first | (with_reducible assumption) | assumption)
                      have q10 : x5_1 < (a1.size : Int) := of_decide_eq_true (by first | (with_reducible assumption) | assumption)
                      have hx10 := bt_at a1 x5_1
                      replace p10 := eq_true p10
                      replace q10 := eq_true q10
                      have p12 : 0 ≤ (x5_1 : Int) := of_decide_eq_true (by first | (with_reducible assumption) | assumption)
                      have q12 : x5_1 < (a0.size : Int) := of_decide_eq_true (by first | (with_reducible assumption) | assumption)
                      have hx12 := bt_at a0 x5_1
                      replace p12 := eq_true p12
                      replace q12 := eq_true q12
                      have p13 : 0 ≤ (x5_1 : Int) := of_decide_eq_true (by first | (with_reducible assumption) | assumption)
                      have q13 : x5_1 < (a1.size : Int) := of_decide_eq_true (by first | (with_reducible assumption) | assumption)
                      have hx13 := bt_at a1 x5_1
                      replace p13 := eq_true p13
                      replace q13 := eq_true q13
                      go_wp2
                      repeat (go_quiet (fail);try go_wp2)
                      go_ret
                      exact ⟨by first | rfl | (simp;done) | (simp [*];done),by repeat (first | exact Drawn0.refl _ | apply Drawn0.step)⟩
                    · rw [if_neg c14] at H
                      have c14b0 : decide ((bt a1 x5_1) < (bt a0 x5_1)) = false := decide_eq_false c14
                      clear c14
                      have H' := Aside0.mk H
                      clear H
                      have p8 : 0 ≤ (x5_1 : Int) := of_decide_eq_true (by first | (with_reducible assumption) | assumption)
                      have q8 : x5_1 < (a0.size : Int) := of_decide_eq_true (by first | (with_reducible assumption) | assumption)
                      have hx8 := bt_at a0 x5_1
                      replace p8 := eq_true p8
                      replace q8 := eq_true q8
                      have p10 : 0 ≤ (x5_1 : Int) := of_decide_eq_true (by first | (with_reducible assumption) | assumption)
                      have q10 : x5_1 < (a1.size : Int) := of_decide_eq_true (by first | (with_reducible assumption) | assumption)
                      have hx10 := bt_at a1 x5_1
                      replace p10 := eq_true p10
                      replace q10 := eq_true q10
                      have p12 : 0 ≤ (x5_1 : Int) := of_decide_eq_true (by first | (with_reducible assumption) | assumption)
                      have q12 : x5_1 < (a0.size : Int) := of_decide_eq_true (by first | (with_reducible assumption) | assumption)
                      have hx12 := bt_at a0 x5_1
                      replace p12 := eq_true p12
                      replace q12 := eq_true q12
                      have p13 : 0 ≤ (x5_1 : Int) := of_decide_eq_true (by first | (with_reducible assumption) | assumption)
                      have q13 : x5_1 < (a1.size : Int) := of_decide_eq_true (by first | (with_reducible assumption) | assumption)
                      have hx13 := bt_at a1 x5_1
                      replace p13 := eq_true p13
                      replace q13 := eq_true q13
                      go_wp2
                      repeat (go_quiet (fail);try go_wp2)
                      go_roundg kj2
                      case measure => have := HK1.out;have := HJ2.out;omega
                      case rel => exact ⟨(wrap64 (x5_1 + 1)),(by first | rfl | (simp;done) | (simp [*];done)),H',⟨by have := HK1.out;have := HJ2.out;omega⟩,by repeat (first | exact Drawn0.refl _ | apply Drawn0.step)⟩
                · rw [if_neg c9] at H
                  exact absurd H (by simp)
              · rw [if_neg c7] at H
                exact absurd H (by simp)
            · rw [if_neg c6] at H
              exact absurd H (by simp)
          · replace c5 := Bool.eq_false_iff.mpr c5
            subst c5
            have H1 : (if (a0.size : Int) < (a1.size : Int) then (some (-1)) else (if (a0.size : Int) > (a1.size : Int) then (some 1) else (some 0))) = some r := by rw [if_neg (show ¬ (false = true) by decide)] at H;exact H
            clear H
            have H := H1
            clear H1
            by_cases c15 : (a0.size : Int) < (a1.size : Int)
            · rw [if_pos c15] at H
              have c15b0 : decide ((a0.size : Int) < (a1.size : Int)) = true := decide_eq_true c15
              have c15b1 : decide (a0.size < a1.size) = true := decide_eq_true (Int.ofNat_lt.mp c15)
              clear c15
              obtain rfl := Option.some.inj H
              go_wp2
              repeat (go_quiet (fail);try go_wp2)
              go_ret
              exact ⟨by first | rfl | (simp;done) | (simp [*];done),by repeat (first | exact Drawn0.refl _ | apply Drawn0.step)⟩
            · rw [if_neg c15] at H
              have c15b0 : decide ((a0.size : Int) < (a1.size : Int)) = false := decide_eq_false c15
              have c15b1 : decide (a0.size < a1.size) = false := decide_eq_false (fun h => c15 (Int.ofNat_lt.mpr h))
              clear c15
              by_cases c16 : (a0.size : Int) > (a1.size : Int)
              · rw [if_pos c16] at H
                have c16b0 : decide ((a1.size : Int) < (a0.size : Int)) = true := decide_eq_true c16
                have c16b1 : decide (a1.size < a0.size) = true := decide_eq_true (Int.ofNat_lt.mp c16)
                clear c16
                obtain rfl := Option.some.inj H
                go_wp2
                repeat (go_quiet (fail);try go_wp2)
                go_ret
                exact ⟨by first | rfl | (simp;done) | (simp [*];done),by repeat (first | exact Drawn0.refl _ | apply Drawn0.step)⟩
              · rw [if_neg c16] at H
                have c16b0 : decide ((a1.size : Int) < (a0.size : Int)) = false := decide_eq_false c16
                have c16b1 : decide (a1.size < a0.size) = false := decide_eq_false (fun h => c16 (Int.ofNat_lt.mpr h))
                clear c16
                obtain rfl := Option.some.inj H
                go_wp2
                repeat (go_quiet (fail);try go_wp2)
                go_ret
                exact ⟨by first | rfl | (simp;done) | (simp [*];done),by repeat (first | exact Drawn0.refl _ | apply Drawn0.step)⟩
end Go.Proofs.Ytcenlehfbgnphaa.Z
end
section
namespace Go.Proofs.Ytcenlehfbgnphaa.Z
open Go.RowKit Go.Proofs.YtcenlehfbgnphaaW.PrintWords Go.Proofs.YtcenlehfbgnphaaW.PrintLast Go.Proofs.YtcenlehfbgnphaaW.PrintMore Go.Proofs.Ytcenlehfbgnphaa.Cmp
theorem bt_get {s : ByteArray} {i : Nat} (h : i < s.size) : bt s (i : Int) = ((s.data.toList[i]'(by simpa using h)).toNat : Int) := by
  rw [← bt_at s (i : Int) (by simpa using h)]
  rfl
theorem bytes_drop {s : ByteArray} {i : Nat} (h : i < s.size) : s.data.toList.drop i = s.data.toList[i]'(by simpa using h) :: s.data.toList.drop (i + 1) := List.drop_eq_getElem_cons (by simpa using h)
theorem text_l0 (a b : ByteArray) (ha : a.size ≤ 9223372036854775807) : ∀ d i k,a.size - i = d → i ≤ a.size → i ≤ b.size → 2 * d + 1 < k → verdererref01_Text.l0 k a b (i : Int) = some (cmpB (a.data.toList.drop i) (b.data.toList.drop i)) := by
  intro d
  induction d with
  | zero =>
    intro i k hd hi hib hk
    obtain ⟨k,rfl⟩ : ∃ m,k = m + 2 := ⟨k - 2,by omega⟩
    have e0 : a.data.toList.drop i = [] := List.drop_eq_nil_of_le (by simp;omega)
    simp only [verdererref01_Text.l0]
    rw [if_neg (by omega),e0]
    simp only [verdererref01_Text.j1,Bool.false_eq_true,if_false]
    by_cases h : i < b.size
    · rw [if_pos (by omega),bytes_drop h];rfl
    · rw [if_neg (by omega),if_neg (by omega),List.drop_eq_nil_of_le (by simp;omega)];rfl
  | succ d ih =>
    intro i k hd hi hib hk
    obtain ⟨k,rfl⟩ : ∃ m,k = m + 2 := ⟨k - 2,by omega⟩
    have hlt : i < a.size := by omega
    simp only [verdererref01_Text.l0]
    rw [if_pos (by omega)]
    simp only [verdererref01_Text.j1]
    by_cases h : i < b.size
    · rw [if_pos (decide_eq_true (by omega)),if_pos (by omega),if_pos (by omega),if_pos (by omega),bt_get hlt,bt_get h,bytes_drop hlt,bytes_drop h]
      generalize a.data.toList[i]'(by simpa using hlt) = x
      generalize b.data.toList[i]'(by simpa using h) = y
      have e : cmpB (x :: a.data.toList.drop (i + 1)) (y :: b.data.toList.drop (i + 1)) = if cmpI x.toNat y.toNat = 0 then cmpB (a.data.toList.drop (i + 1)) (b.data.toList.drop (i + 1)) else cmpI x.toNat y.toNat := rfl
      rw [e,wrap_succ hlt ha,ih (i + 1) k (by omega) (by omega) (by omega) (by omega)]
      unfold cmpI
      by_cases h1 : (x.toNat : Int) < y.toNat
      · rw [if_pos h1,if_pos h1,if_neg (by omega)]
      · by_cases h2 : (y.toNat : Int) < x.toNat
        · rw [if_neg h1,if_neg h1,if_pos h2,if_pos h2,if_neg (by omega)]
        · rw [if_neg h1,if_neg h1,if_neg h2,if_neg h2,if_pos rfl]
    · rw [if_neg (by simp;omega),if_neg (by omega),if_pos (by omega),bytes_drop hlt,List.drop_eq_nil_of_le (show b.data.toList.length ≤ i by simp;omega)]
      rfl
theorem text_f (a b : ByteArray) (ha : a.size ≤ 9223372036854775807) (k : Nat) (hk : 2 * a.size + 1 < k) : verdererref01_Text.f k a b = some (cmpB a.data.toList b.data.toList) := by
  have h := text_l0 a b ha a.size 0 k (by omega) (by omega) (by omega) hk
  rw [show ((0 : Nat) : Int) = 0 from rfl] at h
  exact h
end Go.Proofs.Ytcenlehfbgnphaa.Z
end
section
namespace Go.Proofs.Ytcenlehfbgnphaa.Z
set_option linter.unusedVariables false
set_option linter.unusedSimpArgs false
open Go.RowKit Go.Shelf Go.Maps Go.Proofs.YtcenlehfbgnphaaW.PrintWords Go.Proofs.YtcenlehfbgnphaaW.PrintLast Go.Proofs.YtcenlehfbgnphaaW.PrintMore Go.Proofs.Ytcenlehfbgnphaa.Cmp
theorem RTree.lenc {w : World} {r N : Nat} {A : Option Addr} {len c : Nat} {L : List Tn} (h : RTree w r N (.slice A len c) L) : len = L.length ∧ len ≤ c := by
  have h1 := Kd.N_reads' h.row
  rw [List.length_map] at h1
  exact ⟨h1.1,h1.2.1⟩
theorem RTree.cell {w : World} {r N : Nat} {v : Value} {L : List Tn} (h : RTree w r N v L) : w.cell? ⟨r,0,none⟩ = some v := (blk_cell h.blk 0).trans rfl
theorem RTree.far {w W : World} {r N : Nat} {A : Option Addr} {len c : Nat} {L : List Tn} (h : RTree w r N (.slice A len c) L) (hb : Below w.heap.size w W) : Kd.F kTn W (fun k => k ≠ r ∧ k < w.heap.size) A (L.map tn).length (L.map tn) := by
  have h1 := Kd.N_F (Kd.N_below (Kd.N_bound h.row) hb)
  rw [List.length_map,← h.lenc.1]
  exact h1
theorem RTree.take {w W : World} {r N : Nat} {A : Option Addr} {len c : Nat} {L : List Tn} (h : RTree w r N (.slice A len c) L) (hb : Below w.heap.size w W) {q : Nat} (hq : q ≤ L.length) : Kd.F kTn W (fun k => k ≠ r ∧ k < w.heap.size) A q ((L.take q).map tn) := by
  have h1 := Kd.F_take (m := q) (h.far hb) (by rw [List.length_map];exact hq)
  rw [← List.map_take,List.length_map,List.length_take,Nat.min_eq_left hq] at h1
  exact h1
theorem RTree.drop {w W : World} {r N : Nat} {A : Option Addr} {len c : Nat} {L : List Tn} (h : RTree w r N (.slice A len c) L) (hb : Below w.heap.size w W) {q : Nat} (hq : q ≤ L.length) : Kd.F kTn W (fun k => k ≠ r ∧ k < w.heap.size) (if c = q then A else A.map (·.add (q * 2))) (len - q) ((L.drop q).map tn) := by
  have h1 := Kd.F_cut (c := c) (m := q) (h.far hb) (by rw [List.length_map];exact hq) (by rw [List.length_map,← h.lenc.1];exact h.lenc.2)
  rw [← List.map_drop,List.length_map,List.length_drop,← h.lenc.1] at h1
  exact h1
theorem grown_put {w W : World} {r : Nat} (h : w.grownBy W (some r)) (p : Addr) (hp : p.block = r) (u : Value) : w.grownBy (W.setCell p u) (some r) := by
  have cg : Below 0 W (W.setCell p u) := below_setT (Below.refl 0 W) (Nat.zero_le _) u
  refine grown_trans h ⟨cg.os,cg.tape,cg.output,cg.size,fun k hk hn => Below.heap_setCell W p u k (fun e => hn (by rw [e,hp]))⟩
theorem info_tE : ∃ i0,Try.prog.info? tE = some i0 ∧ i0.size = 2 := by
  have e : (Try.prog.info? tE).map (fun i => i.size) = some 2 := by kernel_rfl
  obtain ⟨i0,hi,hz⟩ := Option.map_eq_some_iff.1 e
  exact ⟨i0,hi,hz⟩
theorem orphR (L : List Tn) (p : Nm) : orph L p = (!decide (p = emp) && !(getT L p).isSome) := by
  unfold orph
  cases getT L p <;> rfl
set_option maxHeartbeats 8000000 in
set_option maxRecDepth 100000 in
theorem ref_add {w : World} {r N : Nat} {v : Value} {L : List Tn} (h : RTree w r N v L) (hO : Ok L) (n p : Nm) (hn : n.size ≤ maxLen) (hp : p.size ≤ maxLen) :
    Calls Try.prog 85 #[.pointer (some ⟨r,0,none⟩),.string n,.string p] w fun e w' => ∃ v',e = .returned (.int .i64 (addP L n p).1) ∧ RTree w' r N v' (addP L n p).2 ∧ w.grownBy w' (some r) := by
  have HT := Aside0.mk h
  have HO := Aside0.mk hO
  obtain ⟨A,c,rfl,hr⟩ := h.rc
  have HD := Aside0.mk (show addP L n p = (if nameB n = false then (3,L) else if (getT L n).isSome = true then (4,L) else if orph L p = true then (18,L) else if 5 ≤ (abv L p).length then (17,L) else if 24 ≤ L.length then (6,L) else (0,putTn n p L)) from rfl)
  have NM := Aside0.mk (fun w' => verdererref07_Name.calls 41 n (nameB n) w' (ref_name_f n 41 (by omega)))
  have HNS := Aside0.mk hn
  have HL24 := hO.len
  clear h hO hr
  generalize addP L n p = R at HD ⊢
  go_enter Try.func85,Try.ntmps85
  go_wp2_with (fail)
  refine (NM.out w).mono ?_
  rintro e w1 ⟨rfl,hb1⟩
  have T1 := Aside0.mk (HT.out.below hb1.below)
  have G1 := Aside0.mk (grown_of_below hb1.below (some r))
  clear hb1 HT NM
  have HRC := Aside0.mk (show RC w1 r A c L from by
    obtain ⟨A',c',e,h⟩ := T1.out.rc
    injection e with e1 e2 e3
    rw [e1,e3]
    exact h)
  cases hnb : nameB n with
  | false =>
    rw [hnb,if_pos rfl] at HD
    go_wp2_with (fail)
    go_ret
    rw [HD.out]
    exact ⟨_,rfl,T1.out,G1.out⟩
  | true =>
    rw [hnb,if_neg (by simp)] at HD
    clear hnb
    go_wp2_with (fail)
    refine (ref_has HRC.out (by omega) n).mono ?_
    rintro e w2 ⟨rfl,rfl⟩
    cases hgn : (getT L n).isSome with
    | true =>
      rw [hgn,if_pos rfl] at HD
      go_wp2_with (fail)
      go_ret
      rw [HD.out]
      exact ⟨_,rfl,T1.out,G1.out⟩
    | false =>
      rw [hgn,if_neg (by simp)] at HD
      have NG := Aside0.mk (show getT L n = none by cases h : getT L n with | none => rfl | some q => rw [h] at hgn;cases hgn)
      clear hgn
      have HW := Aside0.mk (ref_has HRC.out (by omega) p)
      have HOR := Aside0.mk (orphR L p)
      have q0 : (ByteArray.toList p == ([] : List UInt8)) = decide (p = emp) := neS p
      generalize hgp : (getT L p).isSome = gp at HW HOR
      generalize hpe : decide (p = emp) = pe at q0 HOR
      clear hgp hpe
      cases hor : orph L p with
      | true =>
        rw [hor,if_pos rfl] at HD
        have e1 : pe = false := by rw [HOR.out] at hor;cases pe <;> simp_all
        have e2 : gp = false := by rw [HOR.out] at hor;cases gp <;> simp_all
        subst e1
        subst e2
        clear hor
        go_wp2_with (fail)
        refine HW.out.mono ?_
        rintro e w3 ⟨rfl,rfl⟩
        go_wp2_with (fail)
        go_ret
        rw [HD.out]
        exact ⟨_,rfl,T1.out,G1.out⟩
      | false =>
        rw [hor,if_neg (by simp)] at HD
        have e1 : pe = true ∨ (pe = false ∧ gp = true) := by rw [HOR.out] at hor;cases pe <;> simp_all
        clear hor HOR
        have hdep := Aside0.mk (ref_depth HRC.out (by omega) HO.out.sh p)
        obtain ⟨d,hd⟩ : ∃ d,(abv L p).length = d := ⟨_,rfl⟩
        have d5 : d ≤ 5 := by have := abv_len HO.out.sh p;omega
        rw [hd] at hdep HD
        clear hd
        obtain ⟨d1,hd1⟩ : ∃ d1,d + 1 = d1 := ⟨_,rfl⟩
        have hw1 : IntKind.i64.wrap ((d : Int) + 1) = (d1 : Int) := by rw [IntKind.wrap_i64];omega
        obtain ⟨len,hlen⟩ : ∃ len,L.length = len := ⟨_,rfl⟩
        have HLEN := Aside0.mk hlen
        rw [hlen] at HD T1 HL24
        have x0 := T1.out.cell
        rcases e1 with e1 | ⟨e1,e2⟩
        all_goals
          subst e1
          try subst e2
          by_cases hd : 5 ≤ d
          · rw [if_pos hd] at HD
            have q1 : decide ((5 : Int) < (d1 : Int)) = true := decide_eq_true (by omega)
            clear hd hd1 hlen
            go_wp2_with (fail)
            first
              | (refine HW.out.mono ?_
                 rintro e w3 ⟨rfl,rfl⟩
                 go_wp2_with (fail))
              | skip
            refine hdep.out.mono ?_
            rintro e w4 ⟨rfl,hb4⟩
            have T4 := Aside0.mk (T1.out.below hb4)
            have G4 := Aside0.mk (grown_trans G1.out (grown_of_below hb4 (some r)))
            clear hb4
            go_wp2_with (fail)
            go_ret
            rw [HD.out]
            exact ⟨_,rfl,T4.out,G4.out⟩
          · rw [if_neg hd] at HD
            have q1 : decide ((5 : Int) < (d1 : Int)) = false := decide_eq_false (by omega)
            clear hd hd1
            go_wp2_with (fail)
            first
              | (refine HW.out.mono ?_
                 rintro e w3 ⟨rfl,rfl⟩
                 go_wp2_with (fail))
              | skip
            refine hdep.out.mono ?_
            rintro e w4 ⟨rfl,hb4⟩
            have T4 := Aside0.mk (T1.out.below hb4)
            have G4 := Aside0.mk (grown_trans G1.out (grown_of_below hb4 (some r)))
            replace x0 := T4.out.cell
            clear hb4
            by_cases hl : 24 ≤ len
            · rw [if_pos hl] at HD
              have q4 : decide ((24 : Int) ≤ (len : Int)) = true := decide_eq_true (by omega)
              have q3 : decide ((len : Int) ≥ 24) = true := decide_eq_true (by omega)
              clear hl hlen
              go_wp2_with (fail)
              go_ret
              rw [HD.out]
              exact ⟨_,rfl,T4.out,G4.out⟩
            · rw [if_neg hl] at HD
              have q4 : decide ((24 : Int) ≤ (len : Int)) = false := decide_eq_false (by omega)
              have q3 : decide ((len : Int) ≥ 24) = false := decide_eq_false (by omega)
              have hl2 : len < 24 := by omega
              clear hl hlen hdep HW
              go_wp2_with (fail)
              go_loopw [7] (fun iv wr => ∃ (i : Nat),iv = .int .i64 (i : Int) ∧ i ≤ len ∧ Aside0 (i ≤ posI L n) ∧ Aside0 (NextW w4.heap.size w4 wr)) (fun iv _ => len - (intOf iv).toNat)
              case atStart => exact ⟨0,rfl,Nat.zero_le _,⟨Nat.zero_le _⟩,⟨NextW.refl _⟩⟩
              case round =>
                rename World => wr
                obtain ⟨i,rfl,hi,HP,NW⟩ := hrel
                have TR := Aside0.mk (T4.out.below NW.out.below)
                have y0 := TR.out.cell
                have ZC : (i < len ∧ ∃ x,L[i]? = some x ∧ cmpN x.1 n < 0) ∨ ((i < len ∧ ∃ x,L[i]? = some x ∧ ¬ cmpN x.1 n < 0) ∨ i = len) := by
                  by_cases hlt : i < len
                  · have hx : L[i]? = some (L[i]'(by rw [HLEN.out];exact hlt)) := List.getElem?_eq_getElem _
                    by_cases hz : cmpN (L[i]'(by rw [HLEN.out];exact hlt)).1 n < 0
                    · exact .inl ⟨hlt,_,hx,hz⟩
                    · exact .inr (.inl ⟨hlt,_,hx,hz⟩)
                  · exact .inr (.inr (by omega))
                rcases ZC with ⟨hlt,x,hx,hz⟩ | ZC
                · have k0 : decide ((i : Int) < (len : Int)) = true := decide_eq_true (by omega)
                  obtain ⟨ad,rfl,c0,c1⟩ : ∃ ad,A = some ad ∧ wr.cell? (ad.add (i * 2)) = some (.string x.1) ∧ wr.cell? ⟨(ad.add (i * 2)).block,(ad.add (i * 2)).off + 1,none⟩ = some (.string x.2) := by
                    obtain ⟨A',c',e,h⟩ := TR.out.rc
                    injection e with e1 e2 e3
                    obtain ⟨ad,ha,h1,h2⟩ := h.at_ hx
                    exact ⟨ad,e1.trans ha,h1,h2⟩
                  have p0 : (0 : Int) ≤ (i : Int) := by omega
                  have p1 : (i : Int) < (len : Int) := by omega
                  have XS := Aside0.mk (show x.1.size ≤ 9223372036854775807 by have := (name_size (HO.out.nm x (List.mem_of_getElem? hx))).2;omega)
                  have HS := Aside0.mk (posI_step L n i x HP.out hx hz)
                  have TX := Aside0.mk (fun W => verdererref01_Text.calls (2 * x.1.size + 2) x.1 n (cmpN x.1 n) W (text_f x.1 n XS.out _ (by omega)))
                  generalize cmpN x.1 n = z at hz TX
                  have q0 : decide (z < 0) = true := decide_eq_true hz
                  clear hx
                  go_wp2_with (fail)
                  refine (TX.out _).mono ?_
                  rintro e w5 ⟨rfl,hd5⟩
                  have N5 := Aside0.mk (NW.out.next hd5.below)
                  clear hd5
                  go_wp2_with (fail)
                  go_roundw
                  case rel => exact ⟨i + 1,by go_num,by omega,HS,N5⟩
                  case measure => simp [intOf];omega
                · obtain ⟨q,hq,hqc⟩ : ∃ q,posI L n = q ∧ i = q := by
                    refine ⟨i,?_,rfl⟩
                    rcases ZC with ⟨hlt,x,hx,hz⟩ | e
                    · exact posI_stop L n i x HP.out hx hz
                    · have h1 := posI_le L n
                      have h2 := HP.out
                      have h3 := HLEN.out
                      omega
                  subst hqc
                  rename Nat => q
                  have hqr := Aside0.mk hi
                  have HPUT := Aside0.mk (show putTn n p L = L.take q ++ (n,p) :: L.drop q by rw [put_new NG.out,hq])
                  obtain ⟨q1,hq1'⟩ : ∃ q1,q + 1 = q1 := ⟨_,rfl⟩
                  have hq1 := Aside0.mk hq1'
                  obtain ⟨i0,hi0,hsz0⟩ := info_tE
                  have hcl := TR.out.lenc.2
                  have CT := Aside0.mk (cut_to 86 tE .i64 Try.underlying86 hi0 A len c (q : Int) (by omega) (by omega) (by omega))
                  have CF := Aside0.mk (cut_from 86 tE .i64 Try.underlying86 hi0 2 hsz0 A len c (q : Int) (by omega) (by omega))
                  simp only [Int.toNat_natCast] at CT CF
                  obtain ⟨A2,hA2⟩ : ∃ A2,(if c = q then A else A.map (·.add (q * 2))) = A2 := ⟨_,rfl⟩
                  have HA2 := Aside0.mk hA2
                  rw [hA2] at CF
                  obtain ⟨m2,hm2⟩ : ∃ m2,len - q = m2 := ⟨_,rfl⟩
                  obtain ⟨c2,hc2⟩ : ∃ c2,c - q = c2 := ⟨_,rfl⟩
                  rw [hm2,hc2] at CF
                  have FT := Aside0.mk (fun W (hb : Below wr.heap.size wr W) => (show Kd.F kTn W (fun k => k ≠ r ∧ k < wr.heap.size) A2 m2 ((L.drop q).map tn) from hA2 ▸ hm2 ▸ TR.out.drop hb (HLEN.out.symm ▸ hqr.out)))
                  have ML := Aside0.mk (show m2 ≤ 24 by omega)
                  have HM2 := Aside0.mk hm2
                  clear hm2 hc2
                  have hct := CT.out
                  have hcf := CF.out
                  have RLT := Aside0.mk (blk_lt TR.out.blk)
                  have GW := Aside0.mk (grown_trans G4.out (grown_of_below NW.out.below (some r)))
                  have NLE := Aside0.mk TR.out.le
                  rcases ZC with ⟨hlt,x,hx,hz⟩ | e
                  · have k0 : decide ((q : Int) < (len : Int)) = true := decide_eq_true (by omega)
                    obtain ⟨ad,rfl,c0,c1⟩ : ∃ ad,A = some ad ∧ wr.cell? (ad.add (q * 2)) = some (.string x.1) ∧ wr.cell? ⟨(ad.add (q * 2)).block,(ad.add (q * 2)).off + 1,none⟩ = some (.string x.2) := by
                      obtain ⟨A',c',e,h⟩ := TR.out.rc
                      injection e with e1 e2 e3
                      obtain ⟨ad,ha,h1,h2⟩ := h.at_ hx
                      exact ⟨ad,e1.trans ha,h1,h2⟩
                    have p0 : (0 : Int) ≤ (q : Int) := by omega
                    have p1 : (q : Int) < (len : Int) := by omega
                    have XS := Aside0.mk (show x.1.size ≤ 9223372036854775807 by have := (name_size (HO.out.nm x (List.mem_of_getElem? hx))).2;omega)
                    have TX := Aside0.mk (fun W => verdererref01_Text.calls (2 * x.1.size + 2) x.1 n (cmpN x.1 n) W (text_f x.1 n XS.out _ (by omega)))
                    generalize cmpN x.1 n = z at hz TX
                    have q0 : decide (z < 0) = false := decide_eq_false hz
                    clear hx hA2 hq hq1' hi0 hsz0 NW HP
                    go_wp2_with (fail)
                    refine (TX.out _).mono ?_
                    rintro e w8 ⟨rfl,hd8⟩
                    have T8 := Aside0.mk (TR.out.below hd8.below)
                    have y8 := T8.out.cell
                    have RLT8 := Aside0.mk (blk_lt T8.out.blk)
                    have GW8 := Aside0.mk (grown_trans GW.out (grown_of_below hd8.below (some r)))
                    have NLE8 := Aside0.mk T8.out.le
                    have FT8 := Aside0.mk (fun W (hb : Below w8.heap.size w8 W) => (show Kd.F kTn W (fun k => k ≠ r ∧ k < w8.heap.size) A2 m2 ((L.drop q).map tn) from HA2.out ▸ HM2.out ▸ T8.out.drop hb (HLEN.out.symm ▸ hqr.out)))
                    clear hd8
                    go_wp2_with (first | ((with_reducible refine gate_builtin (b := .append) (xs := #[.tmp 56,.tmp 62]) rfl ?_);at_builtin;refine Kd.N_append_rows kTn (w0 := w8) w8.heap.size rfl (.tmp 56) (.tmp 62) 86 tE (.agg #[(.string ⟨#[]⟩),(.string ⟨#[]⟩)]) 32 rfl Try.underlying86 (by kernel_rfl) rfl (by decide) (by omega) (.slice none 0 0) [] ((L.take q).map tn) (some ad) q c (fun k => k ≠ r) (fun k => k ≠ r ∧ k < w8.heap.size) rfl rfl (Kd.N_nil _ _ _ _ _) (T8.out.take (Below.refl _ _) (HLEN.out.symm ▸ hqr.out)) (fun k hk => ⟨hk.1,by simp [Value.ownBlock]⟩) (fun k hk => by have := RLT8.out;omega) (Below.refl _ _) (Nat.le_refl _) (by have := hqr.out;rw [List.length_nil];omega) ?_;intro v5 w5 hv hb3 hg hat;rw [List.nil_append] at hv;have T5 := Aside0.mk (T8.out.below hb3);have B5 := Aside0.mk hb3;have N5 := Aside0.mk hv;have E5 := Aside0.mk (show ((L.take q).map tn).length = q by (rw [List.length_map,List.length_take,HLEN.out];exact Nat.min_eq_left hqr.out));have x5 := T5.out.cell;obtain ⟨Al,cl,el⟩ := Kd.N_slice hv;rw [E5.out] at el;clear hv hb3 hg hat;subst el) | ((with_reducible refine gate_builtin (b := .append) (xs := #[.tmp 64,.tmp 68]) rfl ?_);at_builtin;refine Kd.N_append kTn (w0 := w8) w8.heap.size rfl (.tmp 64) (.tmp 68) 86 tE (.agg #[(.string ⟨#[]⟩),(.string ⟨#[]⟩)]) 32 rfl Try.underlying86 (by kernel_rfl) rfl (by decide) (by omega) (.slice Al q cl) ((L.take q).map tn) ⟨n,p⟩ [.string n,.string p] (fun k => k ≠ r) (fun _ => False) rfl rfl (k92_mkF _ _ ⟨n,p⟩) (fun k hk => hk.elim) (fun k hk => by have h1 := RLT8.out;have h2 := B5.out.size;omega) N5.out B5.out B5.out.size (by rw [E5.out];have := hqr.out;omega) ?_;intro v6 w6 hv hb3 hg hat;have T6 := Aside0.mk (T8.out.below hb3);have B6 := Aside0.mk hb3;have N6 := Aside0.mk hv;have E6 := Aside0.mk (show ((L.take q).map tn ++ [(⟨n,p⟩ : STn)]).length = q1 by (rw [List.length_append,E5.out];exact hq1.out));have x6 := T6.out.cell;have W6 := Aside0.mk (Kd.N_base hv);obtain ⟨Am,cm,em⟩ := Kd.N_slice hv;rw [E6.out] at em;clear hv hb3 hg hat;subst em) | ((with_reducible refine gate_builtin (b := .append) (xs := #[.tmp 71,.tmp 77]) rfl ?_);at_builtin;refine Kd.N_append_rows kTn (w0 := w8) w8.heap.size rfl (.tmp 71) (.tmp 77) 86 tE (.agg #[(.string ⟨#[]⟩),(.string ⟨#[]⟩)]) 32 rfl Try.underlying86 (by kernel_rfl) rfl (by decide) (by omega) (.slice Am q1 cm) ((L.take q).map tn ++ [(⟨n,p⟩ : STn)]) ((L.drop q).map tn) A2 m2 c2 (fun k => k ≠ r) (fun k => k ≠ r ∧ k < w8.heap.size) rfl rfl N6.out (FT8.out _ B6.out) (fun k hk => ⟨hk.1,fun e => by have := W6.out k e.symm;omega⟩) (fun k hk => by have h1 := RLT8.out;have h2 := B6.out.size;omega) B6.out B6.out.size (by rw [E6.out];have := hqr.out;have := hq1.out;have := ML.out;omega) ?_;intro v7 w7 hv hb3 hg hat;have T7 := Aside0.mk (T8.out.below hb3);have B7 := Aside0.mk hb3;have N7 := Aside0.mk (show Kd.N kTn tE w7 w8.heap.size (fun k => k ≠ r) v7 ((putTn n p L).map tn) by (rw [HPUT.out,List.map_append,List.map_cons,List.append_cons];exact hv));have z7 := blk_frozen T7.out.blk 0;have x7 := T7.out.cell;obtain ⟨Aw,cw,ew⟩ := Kd.N_slice hv;generalize List.length _ = lw at ew;clear hv hb3 hg hat;subst ew))
                    go_ret
                    rw [HD.out]
                    have hlw : lw = (putTn n p L).length := by
                      obtain ⟨A',c',e⟩ := Kd.N_slice N7.out
                      injection e with e1 e2 e3
                      rw [e2,List.length_map]
                    refine ⟨_,rfl,⟨blk_put T7.out.blk 0 _ rfl,Kd.N_far (p := ⟨r,0,none⟩) (Kd.N_lower N7.out (by have := RLT8.out;have := NLE8.out;omega)) (fun k hk => hk) _,NLE8.out⟩,grown_put (grown_trans GW8.out (grown_of_below B7.out (some r))) ⟨r,0,none⟩ rfl _⟩
                  · subst e
                    have k0 : decide ((q : Int) < (q : Int)) = false := decide_eq_false (by omega)
                    clear hA2 hq hq1' hi0 hsz0 NW HP
                    go_wp2_with (first | ((with_reducible refine gate_builtin (b := .append) (xs := #[.tmp 56,.tmp 62]) rfl ?_);at_builtin;refine Kd.N_append_rows kTn (w0 := wr) wr.heap.size rfl (.tmp 56) (.tmp 62) 86 tE (.agg #[(.string ⟨#[]⟩),(.string ⟨#[]⟩)]) 32 rfl Try.underlying86 (by kernel_rfl) rfl (by decide) (by omega) (.slice none 0 0) [] ((L.take q).map tn) A q c (fun k => k ≠ r) (fun k => k ≠ r ∧ k < wr.heap.size) rfl rfl (Kd.N_nil _ _ _ _ _) (TR.out.take (Below.refl _ _) (HLEN.out.symm ▸ hqr.out)) (fun k hk => ⟨hk.1,by simp [Value.ownBlock]⟩) (fun k hk => by have := RLT.out;omega) (Below.refl _ _) (Nat.le_refl _) (by have := hqr.out;rw [List.length_nil];omega) ?_;intro v5 w5 hv hb3 hg hat;rw [List.nil_append] at hv;have T5 := Aside0.mk (TR.out.below hb3);have B5 := Aside0.mk hb3;have N5 := Aside0.mk hv;have E5 := Aside0.mk (show ((L.take q).map tn).length = q by (rw [List.length_map,List.length_take,HLEN.out];exact Nat.min_eq_left hqr.out));have x5 := T5.out.cell;obtain ⟨Al,cl,el⟩ := Kd.N_slice hv;rw [E5.out] at el;clear hv hb3 hg hat;subst el) | ((with_reducible refine gate_builtin (b := .append) (xs := #[.tmp 64,.tmp 68]) rfl ?_);at_builtin;refine Kd.N_append kTn (w0 := wr) wr.heap.size rfl (.tmp 64) (.tmp 68) 86 tE (.agg #[(.string ⟨#[]⟩),(.string ⟨#[]⟩)]) 32 rfl Try.underlying86 (by kernel_rfl) rfl (by decide) (by omega) (.slice Al q cl) ((L.take q).map tn) ⟨n,p⟩ [.string n,.string p] (fun k => k ≠ r) (fun _ => False) rfl rfl (k92_mkF _ _ ⟨n,p⟩) (fun k hk => hk.elim) (fun k hk => by have h1 := RLT.out;have h2 := B5.out.size;omega) N5.out B5.out B5.out.size (by rw [E5.out];have := hqr.out;omega) ?_;intro v6 w6 hv hb3 hg hat;have T6 := Aside0.mk (TR.out.below hb3);have B6 := Aside0.mk hb3;have N6 := Aside0.mk hv;have E6 := Aside0.mk (show ((L.take q).map tn ++ [(⟨n,p⟩ : STn)]).length = q1 by (rw [List.length_append,E5.out];exact hq1.out));have x6 := T6.out.cell;have W6 := Aside0.mk (Kd.N_base hv);obtain ⟨Am,cm,em⟩ := Kd.N_slice hv;rw [E6.out] at em;clear hv hb3 hg hat;subst em) | ((with_reducible refine gate_builtin (b := .append) (xs := #[.tmp 71,.tmp 77]) rfl ?_);at_builtin;refine Kd.N_append_rows kTn (w0 := wr) wr.heap.size rfl (.tmp 71) (.tmp 77) 86 tE (.agg #[(.string ⟨#[]⟩),(.string ⟨#[]⟩)]) 32 rfl Try.underlying86 (by kernel_rfl) rfl (by decide) (by omega) (.slice Am q1 cm) ((L.take q).map tn ++ [(⟨n,p⟩ : STn)]) ((L.drop q).map tn) A2 m2 c2 (fun k => k ≠ r) (fun k => k ≠ r ∧ k < wr.heap.size) rfl rfl N6.out (FT.out _ B6.out) (fun k hk => ⟨hk.1,fun e => by have := W6.out k e.symm;omega⟩) (fun k hk => by have h1 := RLT.out;have h2 := B6.out.size;omega) B6.out B6.out.size (by rw [E6.out];have := hqr.out;have := hq1.out;have := ML.out;omega) ?_;intro v7 w7 hv hb3 hg hat;have T7 := Aside0.mk (TR.out.below hb3);have B7 := Aside0.mk hb3;have N7 := Aside0.mk (show Kd.N kTn tE w7 wr.heap.size (fun k => k ≠ r) v7 ((putTn n p L).map tn) by (rw [HPUT.out,List.map_append,List.map_cons,List.append_cons];exact hv));have z7 := blk_frozen T7.out.blk 0;have x7 := T7.out.cell;obtain ⟨Aw,cw,ew⟩ := Kd.N_slice hv;generalize List.length _ = lw at ew;clear hv hb3 hg hat;subst ew))
                    go_ret
                    rw [HD.out]
                    have hlw : lw = (putTn n p L).length := by
                      obtain ⟨A',c',e⟩ := Kd.N_slice N7.out
                      injection e with e1 e2 e3
                      rw [e2,List.length_map]
                    refine ⟨_,rfl,⟨blk_put T7.out.blk 0 _ rfl,Kd.N_far (p := ⟨r,0,none⟩) (Kd.N_lower N7.out (by have := RLT.out;have := NLE.out;omega)) (fun k hk => hk) _,NLE.out⟩,grown_put (grown_trans GW.out (grown_of_below B7.out (some r))) ⟨r,0,none⟩ rfl _⟩
end Go.Proofs.Ytcenlehfbgnphaa.Z
end
section
namespace Go.Proofs.Ytcenlehfbgnphaa.Z
set_option linter.unusedVariables false
set_option linter.unusedSimpArgs false
open Go.RowKit Go.Shelf Go.Maps Go.Proofs.YtcenlehfbgnphaaW.PrintWords Go.Proofs.YtcenlehfbgnphaaW.PrintLast Go.Proofs.YtcenlehfbgnphaaW.PrintMore Go.Proofs.Ytcenlehfbgnphaa.Cmp
theorem RTree.rca {w : World} {r N : Nat} {A : Option Addr} {len c : Nat} {L : List Tn} (h : RTree w r N (.slice A len c) L) : RC w r A c L := by
  obtain ⟨A',c',e,h⟩ := h.rc
  injection e with e1 e2 e3
  rw [e1,e3]
  exact h
set_option maxHeartbeats 8000000 in
set_option maxRecDepth 100000 in
theorem ref_drop {w : World} {r N : Nat} {v : Value} {L : List Tn} (h : RTree w r N v L) (hO : Ok L) (hR : L.Pairwise (fun p q => toB p.1 < toB q.1)) (n : Nm) :
    Calls Try.prog 89 #[.pointer (some ⟨r,0,none⟩),.string n] w fun e w' => ∃ v',e = .returned (.int .i64 (dropP L n).1) ∧ RTree w' r N v' (dropP L n).2 ∧ w.grownBy w' (some r) := by
  have HT := Aside0.mk h
  have HO := Aside0.mk hO
  have HRI := Aside0.mk hR
  obtain ⟨A,c,rfl,hr⟩ := h.rc
  have HD := Aside0.mk (show dropP L n = (if (getT L n).isSome = false then (5,L) else if 1 < (undL L n).length then (14,L) else (0,delL n L)) from rfl)
  have HF := Aside0.mk (ref_find hr (by have := hO.len;omega) n)
  have HU := Aside0.mk (ref_under hr hO.len hO.sh n)
  have HL24' := hO.len
  clear h hO hr hR
  generalize dropP L n = R at HD ⊢
  cases hg : getT L n with
  | none =>
    rw [hg,Option.isSome_none,if_pos rfl] at HD
    rw [idx_none hg] at HF
    clear hg
    go_enter Try.func89,Try.ntmps89
    go_wp2_with (fail)
    refine HF.out.mono ?_
    rintro e w1 ⟨rfl,rfl⟩
    go_wp2_with (fail)
    go_ret
    rw [HD.out]
    exact ⟨_,rfl,HT.out,grown_refl _ _⟩
  | some p =>
    obtain ⟨he,hpl⟩ := idx_some hg
    rw [he] at HF
    rw [hg,if_neg (by simp)] at HD
    have HDL := Aside0.mk (del_old HRI.out (by rw [hg];simp))
    obtain ⟨q,hq⟩ : ∃ q,posL L n = q := ⟨_,rfl⟩
    rw [hq] at HF hpl HDL
    have q0 : decide ((q : Int) < 0) = false := decide_eq_false (by omega)
    obtain ⟨du,hdu⟩ : ∃ du,(undL L n).length = du := ⟨_,rfl⟩
    have HDU := Aside0.mk hdu
    have du24 : du ≤ 24 := by have := und_lenL L n;omega
    rw [hdu] at HD
    obtain ⟨len,hlen⟩ : ∃ len,L.length = len := ⟨_,rfl⟩
    have HLEN := Aside0.mk hlen
    rw [hlen] at HT hpl HL24'
    have x0 := HT.out.cell
    clear hg he hq hdu hlen
    go_enter Try.func89,Try.ntmps89
    go_wp2_with (fail)
    refine HF.out.mono ?_
    rintro e w1 ⟨rfl,rfl⟩
    go_wp2_with (fail)
    refine HU.out.mono ?_
    rintro e wr ⟨v4,rfl,hrow,hb4⟩
    obtain ⟨Au,cu,rfl,_,_⟩ := hrow.reads
    have TR := Aside0.mk (HT.out.below hb4)
    have y0 := TR.out.cell
    have GW := Aside0.mk (grown_of_below hb4 (some r))
    rw [HDU.out]
    clear hb4 hrow
    by_cases hd : 1 < du
    · rw [if_pos hd] at HD
      have q1 : decide ((1 : Int) < (du : Int)) = true := decide_eq_true (by omega)
      clear hd hpl
      go_wp2_with (fail)
      go_ret
      rw [HD.out]
      exact ⟨_,rfl,TR.out,GW.out⟩
    · rw [if_neg hd] at HD
      have qd : decide ((1 : Int) < (du : Int)) = false := decide_eq_false (by omega)
      have hqr := Aside0.mk hpl
      obtain ⟨q1,hq1'⟩ : ∃ q1,q + 1 = q1 := ⟨_,rfl⟩
      have HPUT := Aside0.mk (show delL n L = L.take q ++ L.drop q1 by rw [← hq1'];exact HDL.out)
      have hw1 : IntKind.i64.wrap ((q : Int) + 1) = (q1 : Int) := by rw [IntKind.wrap_i64];omega
      have HL24 := Aside0.mk HL24'
      obtain ⟨i0,hi0,hsz0⟩ := info_tE
      have hcl := TR.out.lenc.2
      have CT := Aside0.mk (cut_to 86 tE .i64 Try.underlying86 hi0 A len c (q : Int) (by omega) (by omega) (by omega))
      have CF := Aside0.mk (cut_from 86 tE .i64 Try.underlying86 hi0 2 hsz0 A len c (q1 : Int) (by omega) (by omega))
      simp only [Int.toNat_natCast] at CT CF
      obtain ⟨A2,hA2⟩ : ∃ A2,(if c = q1 then A else A.map (·.add (q1 * 2))) = A2 := ⟨_,rfl⟩
      rw [hA2] at CF
      obtain ⟨m2,hm2⟩ : ∃ m2,len - q1 = m2 := ⟨_,rfl⟩
      obtain ⟨c2,hc2⟩ : ∃ c2,c - q1 = c2 := ⟨_,rfl⟩
      rw [hm2,hc2] at CF
      have FT := Aside0.mk (fun W (hb : Below wr.heap.size wr W) => (show Kd.F kTn W (fun k => k ≠ r ∧ k < wr.heap.size) A2 m2 ((L.drop q1).map tn) from hA2 ▸ hm2 ▸ TR.out.drop hb (by have := HLEN.out;omega)))
      have ML := Aside0.mk (show m2 ≤ 24 by omega)
      have hct := CT.out
      have hcf := CF.out
      have RLT := Aside0.mk (blk_lt TR.out.blk)
      have NLE := Aside0.mk TR.out.le
      clear hm2 hc2 hA2 hd hpl hq1' hi0 hsz0 x0
      go_wp2_with (first | ((with_reducible refine gate_builtin (b := .append) (xs := #[.tmp 17,.tmp 23]) rfl ?_);at_builtin;refine Kd.N_append_rows kTn (w0 := wr) wr.heap.size rfl (.tmp 17) (.tmp 23) 86 tE (.agg #[(.string ⟨#[]⟩),(.string ⟨#[]⟩)]) 32 rfl Try.underlying86 (by kernel_rfl) rfl (by decide) (by omega) (.slice none 0 0) [] ((L.take q).map tn) A q c (fun k => k ≠ r) (fun k => k ≠ r ∧ k < wr.heap.size) rfl rfl (Kd.N_nil _ _ _ _ _) (TR.out.take (Below.refl _ _) (by have := hqr.out;have := HLEN.out;omega)) (fun k hk => ⟨hk.1,by simp [Value.ownBlock]⟩) (fun k hk => by have := RLT.out;omega) (Below.refl _ _) (Nat.le_refl _) (by have := hqr.out;have := HL24.out;rw [List.length_nil];omega) ?_;intro v5 w5 hv hb3 hg hat;rw [List.nil_append] at hv;have T5 := Aside0.mk (TR.out.below hb3);have B5 := Aside0.mk hb3;have N5 := Aside0.mk hv;have E5 := Aside0.mk (show ((L.take q).map tn).length = q by (rw [List.length_map,List.length_take,HLEN.out];exact Nat.min_eq_left (Nat.le_of_lt hqr.out)));have x5 := T5.out.cell;have W5 := Aside0.mk (Kd.N_base hv);obtain ⟨Al,cl,el⟩ := Kd.N_slice hv;rw [E5.out] at el;clear hv hb3 hg hat;subst el) | ((with_reducible refine gate_builtin (b := .append) (xs := #[.tmp 26,.tmp 33]) rfl ?_);at_builtin;refine Kd.N_append_rows kTn (w0 := wr) wr.heap.size rfl (.tmp 26) (.tmp 33) 86 tE (.agg #[(.string ⟨#[]⟩),(.string ⟨#[]⟩)]) 32 rfl Try.underlying86 (by kernel_rfl) rfl (by decide) (by omega) (.slice Al q cl) ((L.take q).map tn) ((L.drop q1).map tn) A2 m2 c2 (fun k => k ≠ r) (fun k => k ≠ r ∧ k < wr.heap.size) rfl rfl N5.out (FT.out _ B5.out) (fun k hk => ⟨hk.1,fun e => by have := W5.out k e.symm;omega⟩) (fun k hk => by have h1 := RLT.out;have h2 := B5.out.size;omega) B5.out B5.out.size (by rw [E5.out];have := hqr.out;have := ML.out;have := HL24.out;omega) ?_;intro v7 w7 hv hb3 hg hat;have T7 := Aside0.mk (TR.out.below hb3);have B7 := Aside0.mk hb3;have N7 := Aside0.mk (show Kd.N kTn tE w7 wr.heap.size (fun k => k ≠ r) v7 ((delL n L).map tn) by (rw [HPUT.out,List.map_append];exact hv));have z7 := blk_frozen T7.out.blk 0;have x7 := T7.out.cell;obtain ⟨Aw,cw,ew⟩ := Kd.N_slice hv;generalize List.length _ = lw at ew;clear hv hb3 hg hat;subst ew))
      go_ret
      rw [HD.out]
      have hlw : lw = (delL n L).length := by
        obtain ⟨A',c',e⟩ := Kd.N_slice N7.out
        injection e with e1 e2 e3
        rw [e2,List.length_map]
      refine ⟨_,rfl,⟨blk_put T7.out.blk 0 _ rfl,Kd.N_far (p := ⟨r,0,none⟩) (Kd.N_lower N7.out (by have := RLT.out;have := NLE.out;omega)) (fun k hk => hk) _,NLE.out⟩,grown_put (grown_trans GW.out (grown_of_below B7.out (some r))) ⟨r,0,none⟩ rfl _⟩
end Go.Proofs.Ytcenlehfbgnphaa.Z
end
section
namespace Go.Proofs.Ytcenlehfbgnphaa.Z
set_option linter.unusedVariables false
set_option linter.unusedSimpArgs false
open Go.RowKit Go.Shelf Go.Maps Go.Proofs.YtcenlehfbgnphaaW.PrintWords Go.Proofs.YtcenlehfbgnphaaW.PrintLast Go.Proofs.YtcenlehfbgnphaaW.PrintMore Go.Proofs.Ytcenlehfbgnphaa.Cmp
theorem hasU {L : List Tn} (hs : Shallow L) (n p : Nm) : hasN (undL L n) p = hasN (abv L p) n := by
  cases h : hasN (abv L p) n with
  | true =>
    rw [hasN_iff] at h ⊢
    have hg : getT L p ≠ none := fun e => by rw [abv_none e] at h;cases h
    exact mem_undL hg h
  | false =>
    rw [Bool.eq_false_iff]
    intro h1
    rw [hasN_iff] at h1
    unfold undL at h1
    have := (List.mem_filter.1 h1).2
    rw [h] at this
    cases this
theorem N_flat {w : World} {base : Nat} {ok ok' : Nat → Prop} {v : Value} {xs : List STn} (h : Kd.N kTn tE w base ok v xs) (h0 : ∀ k,v.ownBlock = some k → ok' k) : Kd.N kTn tE w base ok' v xs := by
  obtain ⟨_,rows,hl,hR,hf⟩ := h
  refine ⟨h0,rows,hl,hR,fun j x c hx hc => ?_⟩
  have hK := Kd.FK_now (hf j x c hx hc)
  rw [k92_open hK]
  exact k92_mkF _ _ x
theorem und_sizes {L : List Tn} (hO : Ok L) (n : Nm) : ∀ x ∈ undL L n,x.size ≤ maxLen := by
  intro x hx
  unfold undL at hx
  obtain ⟨q,hq,rfl⟩ := List.mem_map.1 (List.mem_filter.1 hx).1
  have := (name_size (hO.nm q hq)).2
  unfold maxLen
  omega
set_option maxHeartbeats 8000000 in
set_option maxRecDepth 100000 in
theorem ref_move {w : World} {r N : Nat} {v : Value} {L : List Tn} (h : RTree w r N v L) (hO : Ok L) (hR : L.Pairwise (fun p q => toB p.1 < toB q.1)) (n p : Nm) :
    Calls Try.prog 87 #[.pointer (some ⟨r,0,none⟩),.string n,.string p] w fun e w' => ∃ v',e = .returned (.int .i64 (moveP L n p).1) ∧ RTree w' r N v' (moveP L n p).2 ∧ (w.grownBy w' (some r) ∨ ∃ g,v.ownBlock = some g ∧ w.grownBy w' (some g)) := by
  have HT := Aside0.mk h
  have HO := Aside0.mk hO
  have HRI := Aside0.mk hR
  obtain ⟨A,c,rfl,hr⟩ := h.rc
  have HD := Aside0.mk (show moveP L n p = (if (getT L n).isSome = false then (5,L) else if orph L p = true then (18,L) else if hasN (abv L p) n = true then (13,L) else if (5 : Int) < ((abv L p).length : Int) + levL L n then (17,L) else (0,putTn n p L)) from rfl)
  have HF := Aside0.mk (ref_find hr (by have := hO.len;omega) n)
  have HW := Aside0.mk (ref_has hr (by have := hO.len;omega) p)
  have HU := Aside0.mk (ref_under hr hO.len hO.sh n)
  have HRC := Aside0.mk hr
  have HL24' := hO.len
  have LB := levL_bound hO.sh n
  have HLV := Aside0.mk (show levL L n = lev L ((abv L n).length : Int) (undL L n) 0 from rfl)
  have HIN := Aside0.mk (hasU hO.sh n p)
  clear h hO hr hR
  generalize moveP L n p = R at HD ⊢
  cases hg : getT L n with
  | none =>
    rw [hg,Option.isSome_none,if_pos rfl] at HD
    rw [idx_none hg] at HF
    clear hg
    go_enter Try.func87,Try.ntmps87
    go_wp2_with (fail)
    refine HF.out.mono ?_
    rintro e w1 ⟨rfl,rfl⟩
    go_wp2_with (fail)
    go_ret
    rw [HD.out]
    exact ⟨_,rfl,HT.out,.inl (grown_refl _ _)⟩
  | some old =>
    obtain ⟨he,hpl⟩ := idx_some hg
    rw [he] at HF
    rw [hg,if_neg (by simp)] at HD
    have HPO := Aside0.mk (put_old (p := p) HRI.out (show getT L n ≠ none by rw [hg];simp))
    have HPS := Aside0.mk (pos_some L n old hg)
    obtain ⟨q,hq⟩ : ∃ q,posL L n = q := ⟨_,rfl⟩
    rw [hq] at HF hpl HPO HPS
    have q0 : decide ((q : Int) < 0) = false := decide_eq_false (by omega)
    obtain ⟨len,hlen⟩ : ∃ len,L.length = len := ⟨_,rfl⟩
    have HLEN := Aside0.mk hlen
    rw [hlen] at HT hpl HL24'
    have HOR := Aside0.mk (orphR L p)
    have q2 : (ByteArray.toList p == ([] : List UInt8)) = decide (p = emp) := neS p
    generalize hgp : (getT L p).isSome = gp at HW HOR
    generalize hpe : decide (p = emp) = pe at q2 HOR
    clear hg he hq hlen hgp hpe
    cases hor : orph L p with
    | true =>
      rw [hor,if_pos rfl] at HD
      have e1 : pe = false := by rw [HOR.out] at hor;cases pe <;> simp_all
      have e2 : gp = false := by rw [HOR.out] at hor;cases gp <;> simp_all
      subst e1
      subst e2
      clear hor
      go_enter Try.func87,Try.ntmps87
      go_wp2_with (fail)
      refine HF.out.mono ?_
      rintro e w1 ⟨rfl,rfl⟩
      go_wp2_with (fail)
      refine HW.out.mono ?_
      rintro e w3 ⟨rfl,rfl⟩
      go_wp2_with (fail)
      go_ret
      rw [HD.out]
      exact ⟨_,rfl,HT.out,.inl (grown_refl _ _)⟩
    | false =>
      rw [hor,if_neg (by simp)] at HD
      have e1 : pe = true ∨ (pe = false ∧ gp = true) := by rw [HOR.out] at hor;cases pe <;> simp_all
      clear hor HOR
      rcases e1 with e1 | ⟨e1,e2⟩
      all_goals
        subst e1
        try subst e2
        go_enter Try.func87,Try.ntmps87
        go_wp2_with (fail)
        refine HF.out.mono ?_
        rintro e w1 ⟨rfl,rfl⟩
        go_wp2_with (fail)
        first
          | (refine HW.out.mono ?_
             rintro e w3 ⟨rfl,rfl⟩
             go_wp2_with (fail))
          | skip
        refine HU.out.mono ?_
        rintro e w2 ⟨v4,rfl,hrow,hb4⟩
        obtain ⟨U,hU⟩ : ∃ U,undL L n = U := ⟨_,rfl⟩
        have UL := Aside0.mk (show U.length ≤ 24 by rw [← hU];have := und_lenL L n;have := HO.out.len;omega)
        have UM := Aside0.mk (show ∀ x ∈ U,x.size ≤ maxLen from hU ▸ und_sizes HO.out n)
        rw [hU] at hrow HLV HIN
        obtain ⟨Au,cu,rfl,_,hC⟩ := hrow.reads
        have UC := Aside0.mk hC
        have R2 := Aside0.mk (HRC.out.below hb4)
        have B2 := Aside0.mk (NextW.mk hb4 hb4.size)
        obtain ⟨dn,hdn⟩ : ∃ dn,(abv L n).length = dn := ⟨_,rfl⟩
        have HDN := Aside0.mk hdn
        have hd5 : dn ≤ 5 := by have := abv_len HO.out.sh n;omega
        rw [hdn] at HLV
        obtain ⟨dp,hdp⟩ : ∃ dp,(abv L p).length = dp := ⟨_,rfl⟩
        have HDP := Aside0.mk hdp
        have hp5 : dp ≤ 5 := by have := abv_len HO.out.sh p;omega
        rw [hdp] at HD
        clear hU hb4 hC hrow hdn hdp HF HU HW
        go_wp2_with (fail)
        go_loopw [9,10] (fun mv iv wr => ∃ i : Nat,iv = .int .i64 (i : Int) ∧ i ≤ U.length ∧ mv = .int .i64 (lev L (dn : Int) (U.take i) 0) ∧ Aside0 (hasN (U.take i) p = false) ∧ Aside0 (NextW w2.heap.size w2 wr)) (fun mv iv _ => U.length - (intOf iv).toNat)
        case atStart => exact ⟨0,rfl,Nat.zero_le _,rfl,⟨rfl⟩,⟨NextW.refl w2⟩⟩
        case round =>
          rename World => wr
          obtain ⟨i,rfl,hi,rfl,HNO,NW⟩ := hrel
          obtain ⟨m0,hm0⟩ : ∃ m0,lev L (dn : Int) (U.take i) 0 = m0 := ⟨_,rfl⟩
          have HM := Aside0.mk hm0
          have hmb : 0 ≤ m0 ∧ m0 ≤ 6 := by rw [← hm0];exact lev_bound HO.out.sh _ (by omega) _ _ (by omega) (by omega)
          rw [hm0]
          clear hm0
          have R3 := Aside0.mk (R2.out.below NW.out.below)
          by_cases hlt : i < U.length
          · have k0 : decide ((i : Int) < (U.length : Int)) = true := decide_eq_true (by omega)
            have h24 := UL.out
            obtain ⟨x,hx⟩ : ∃ x,U[i]? = some x := ⟨U[i],List.getElem?_eq_getElem hlt⟩
            obtain ⟨ad,rfl,c1⟩ := str_at (Kd.C_below UC.out NW.out.below) hx
            have XS := Aside0.mk (UM.out _ (List.mem_of_getElem? hx))
            have TK := Aside0.mk (show U.take (i + 1) = U.take i ++ [x] by rw [List.take_add_one,hx];rfl)
            have HTS := Aside0.mk (has_take_succ U p hx)
            have HXM := Aside0.mk (List.mem_of_getElem? hx)
            have p0 : (0 : Int) ≤ (i : Int) := by omega
            have p1 : (i : Int) < (U.length : Int) := by omega
            clear hx
            by_cases hn : x = p
            · have q3 : (ByteArray.toList x == ByteArray.toList p) = true := by rw [eqS,decide_eq_true hn]
              have HI2 := Aside0.mk (show hasN (abv L p) n = true by rw [← HIN.out,hasN_iff,← hn];exact HXM.out)
              rw [HI2.out,if_pos rfl] at HD
              clear hn
              go_wp2_with (fail)
              go_ret
              rw [HD.out]
              exact ⟨_,rfl,HT.out.below (B2.out.below.trans (NW.out.below.mono B2.out.le)),.inl (grown_of_below (B2.out.below.trans (NW.out.below.mono B2.out.le)) _)⟩
            · have q3 : (ByteArray.toList x == ByteArray.toList p) = false := by rw [eqS,decide_eq_false hn]
              have HNX := Aside0.mk (show hasN (U.take (i + 1)) p = false by rw [HTS.out,HNO.out,decide_eq_false hn];rfl)
              clear hn
              go_wp2_with (fail)
              refine (ref_depth R3.out HO.out.len HO.out.sh x).mono ?_
              rintro e w3 ⟨rfl,hb3⟩
              have N3 := Aside0.mk (NW.out.next hb3)
              have R4 := Aside0.mk (R3.out.below hb3)
              have hx5 := abv_len HO.out.sh x
              clear hb3 R3
              obtain ⟨dx,hdx⟩ : ∃ dx,(abv L x).length = dx := ⟨_,rfl⟩
              have HDX := Aside0.mk hdx
              rw [hdx] at hx5 ⊢
              clear hdx
              have w0 : IntKind.i64.wrap ((dx : Int) - (dn : Int)) = (dx : Int) - (dn : Int) := by rw [IntKind.wrap_i64];omega
              have w1' : IntKind.i64.wrap ((dx : Int) - (dn : Int) + 1) = (dx : Int) - (dn : Int) + 1 := by rw [IntKind.wrap_i64];omega
              go_wp2_with (fail)
              refine (ref_depth R4.out HO.out.len HO.out.sh n).mono ?_
              rintro e w5 ⟨rfl,hb5⟩
              have N5 := Aside0.mk (N3.out.next hb5)
              rw [HDN.out]
              clear hb5
              go_wp2_with (fail)
              exact ⟨⟨i + 1,by rw [show (((i + 1 : Nat)) : Int) = (i : Int) + 1 from by omega],hlt,by rw [TK.out,lev_snoc,HM.out,HDX.out],HNX,N5⟩,by simp [intOf];omega⟩
          · have k0 : decide ((i : Int) < (U.length : Int)) = false := decide_eq_false (by omega)
            obtain rfl : i = U.length := by omega
            rw [List.take_length] at *
            have HI2 := Aside0.mk (show hasN (abv L p) n = false by rw [← HIN.out];exact HNO.out)
            rw [HI2.out,if_neg (by simp)] at HD
            rw [HLV.out,HM.out] at HD
            have w1' : IntKind.i64.wrap ((dp : Int) + m0) = (dp : Int) + m0 := by rw [IntKind.wrap_i64];omega
            by_cases hd : (5 : Int) < (dp : Int) + m0
            · rw [if_pos hd] at HD
              have q3 : decide ((5 : Int) < (dp : Int) + m0) = true := decide_eq_true hd
              clear hd
              go_wp2_with (fail)
              refine (ref_depth R3.out HO.out.len HO.out.sh p).mono ?_
              rintro e w5 ⟨rfl,hb5⟩
              rw [HDP.out]
              have B5 := Aside0.mk ((B2.out.below.trans (NW.out.below.mono B2.out.le)).trans (hb5.mono (Nat.le_trans B2.out.le NW.out.le)))
              clear hb5
              go_wp2_with (fail)
              go_ret
              rw [HD.out]
              exact ⟨_,rfl,HT.out.below B5.out,.inl (grown_of_below B5.out _)⟩
            · rw [if_neg hd] at HD
              have q3 : decide ((5 : Int) < (dp : Int) + m0) = false := decide_eq_false hd
              clear hd
              go_wp2_with (fail)
              refine (ref_depth R3.out HO.out.len HO.out.sh p).mono ?_
              rintro e w5 ⟨rfl,hb5⟩
              rw [HDP.out]
              have B5 := Aside0.mk ((B2.out.below.trans (NW.out.below.mono B2.out.le)).trans (hb5.mono (Nat.le_trans B2.out.le NW.out.le)))
              clear hb5
              have R5 := Aside0.mk (HT.out.below B5.out)
              obtain ⟨g,cap,hgc,_,_,_⟩ := Kd.N_form R5.out.row (by rw [List.length_map,HLEN.out];omega)
              injection hgc with g1 g2 g3
              subst g1
              have y0 := R5.out.cell
              have p0 : (0 : Int) ≤ (q : Int) := by omega
              have p1 : (q : Int) < (len : Int) := by omega
              have GR := Aside0.mk (show g ≠ r from R5.out.row.1 g rfl)
              have HCC := Aside0.mk (show ∀ (j : Nat) (u : Value),[Value.string n,Value.string old][j]? = some u → w5.cell? ⟨g,(q : Int).toNat * 2 + j,none⟩ = some u from fun j u hj => by
                obtain ⟨ad,ha,c0,c1⟩ := R5.out.rca.at_ HPS.out
                injection ha with ha
                subst ha
                rw [Addr.add_lit,Nat.zero_add] at c0 c1
                rw [Int.toNat_natCast]
                match j,hj with
                | 0,hj =>
                  simp only [List.getElem?_cons_zero,Option.some.injEq] at hj
                  rw [← hj]
                  exact c0
                | 1,hj =>
                  simp only [List.getElem?_cons_succ,List.getElem?_cons_zero,Option.some.injEq] at hj
                  rw [← hj]
                  exact c1)
              have OFF := Aside0.mk (show q * 2 + 1 = (q : Int).toNat * kTn.sz + 1 from rfl)
              have HMM := Aside0.mk (show Kd.FK kTn w5 (fun _ => False) (⟨n,p⟩ : STn) ([Value.string n,Value.string old].take 1 ++ [.string p] ++ [Value.string n,Value.string old].drop (1 + [Value.string p].length)) from k92_mkF _ _ (⟨n,p⟩ : STn))
              have HSZ := Aside0.mk (show 1 + [Value.string p].length ≤ kTn.sz from Nat.le_refl 2)
              have HON := Aside0.mk (show ∀ q ∈ [Value.string p],q.oneCell' = true from fun q hq => by simp at hq;subst hq;rfl)
              have HTS := Aside0.mk (show (Try.prog.info? 9).map (·.size) = some [Value.string p].length by kernel_rfl)
              have HRW := Aside0.mk R5.out.row
              clear g2 g3
              go_wp2_with (((with_reducible refine gate_store (t := 9) (p := 65) (v := .tmp 63) rfl ?_);refine Kd.N_store kTn (w0 := w5) N rfl rfl 9 (.tmp 65) (.tmp 63) rfl tE (q : Int) 1 (L.map tn) ⟨n,p⟩ (.string p) [.string p] [.string n,.string old] (fun k => k ≠ r) (fun _ => False) rfl OFF.out rfl rfl HTS.out HON.out HRW.out p0 p1 rfl HCC.out HSZ.out HMM.out (fun k hk => hk.elim) (Below.refl _ _) ?_;intro w6 hv hb hg;have N6 := Aside0.mk hv;have G6 := Aside0.mk hg;clear hv hb hg))
              go_ret
              rw [HD.out]
              refine ⟨.slice (some ⟨g,0,none⟩) len c,rfl,⟨?_,?_,R5.out.le⟩,.inr ⟨g,rfl,grown_trans (grown_of_below B5.out (some g)) G6.out⟩⟩
              · exact (G6.out.block r (blk_lt R5.out.blk) (fun e => GR.out (Option.some.inj e).symm)).trans R5.out.blk
              · rw [HPO.out,List.map_set]
                have := N6.out
                rw [Int.toNat_natCast] at this
                exact this
end Go.Proofs.Ytcenlehfbgnphaa.Z
end
section
namespace Go.Proofs.Ytcenlehfbgnphaa.Z
set_option linter.unusedVariables false
set_option linter.unusedSimpArgs false
open Go.RowKit Go.Shelf Go.Maps Go.Proofs.YtcenlehfbgnphaaW.PrintWords Go.Proofs.YtcenlehfbgnphaaW.PrintLast Go.Proofs.YtcenlehfbgnphaaW.PrintMore Go.Proofs.Ytcenlehfbgnphaa.Cmp
abbrev tAct : Nat := 120
def KeepA (w w1 : World) : Prop := ∀ (k : Nat) (cs : Array Value),w.heap[k]? = some (.cells cs tAct (0,0)) → w1.heap[k]? = some (.cells cs tAct (0,0))
theorem TreeAt.mapped {w : World} {t b : Nat} {L : List Tn} (h : TreeAt w t b L) : ∃ es clock,w.heap[b]? = some (.map es clock) := by
  obtain ⟨es,clock,h1,_⟩ := h.map
  exact ⟨es,clock,h1⟩
theorem RTree.past {w w1 : World} {r N b : Nat} {v : Value} {L : List Tn} (h : RTree w r N v L) (hg : w.grownBy w1 (some b)) (hb : ∃ es clock,w.heap[b]? = some (.map es clock)) : RTree w1 r N v L := by
  obtain ⟨es,clock,hb⟩ := hb
  have hrb : r ≠ b := fun e => by have := h.blk;rw [e,hb] at this;cases this
  refine ⟨(hg.block r (blk_lt h.blk) (fun e => hrb (Option.some.inj e))).trans h.blk,?_,h.le⟩
  have h1 : Kd.N kTn tE w N (fun k => k ≠ b) v (L.map tn) := N_flat h.row (fun k hk e => by
    obtain ⟨cells,hc⟩ := Kd.N_typed h.row k hk
    rw [e,hb] at hc
    cases hc)
  exact N_flat (Kd.N_step h1 (fun k hk hlt => hg.block k hlt (fun e => hk (Option.some.inj e)))) (fun k hk => h.row.1 k hk)
abbrev GrR (w w1 : World) (r : Nat) (v : Value) : Prop := w.grownBy w1 (some r) ∨ ∃ g,v.ownBlock = some g ∧ w.grownBy w1 (some g)
theorem TreeAt.past {w w1 : World} {t b r N : Nat} {v : Value} {L L2 : List Tn} (h : TreeAt w t b L) (hr : RTree w r N v L2) (hg : GrR w w1 r v) : TreeAt w1 t b L := by
  obtain ⟨es,clock,hb⟩ := h.mapped
  rcases hg with hg | ⟨g,hv,hg⟩
  · refine h.grown hg (fun e => ?_) (fun e => ?_)
    · have h1 := h.blk
      rw [Option.some.inj e,hr.blk] at h1
      injection h1 with h1
      injection h1 with _ h1
      exact absurd h1 (by decide)
    · rw [Option.some.inj e,hr.blk] at hb
      cases hb
  · obtain ⟨cells,hc⟩ := Kd.N_typed hr.row g hv
    refine h.grown hg (fun e => ?_) (fun e => ?_)
    · have h1 := h.blk
      rw [Option.some.inj e,hc] at h1
      injection h1 with h1
      injection h1 with _ h1
      exact absurd h1 (by decide)
    · rw [Option.some.inj e,hc] at hb
      cases hb
theorem keepA_map {w w1 : World} {b : Nat} (hg : w.grownBy w1 (some b)) (hb : ∃ es clock,w.heap[b]? = some (.map es clock)) : KeepA w w1 := fun k cs hk => by
  obtain ⟨es,clock,hb⟩ := hb
  exact (hg.block k (blk_lt hk) (fun e => by rw [Option.some.inj e,hb] at hk;cases hk)).trans hk
theorem RTree.at_ {w W : World} {r N : Nat} {v : Value} {L : List Tn} (h : RTree w r N v L) (e : SameW w W := by exact ⟨rfl,rfl,rfl,rfl⟩) : RTree W r N v L := h.below (e.below _)
theorem below_map {N : Nat} {w w1 : World} {b : Nat} (hg : w.grownBy w1 (some b)) (hw : N ≤ w.heap.size) (hb : N ≤ b) : Below N w w1 := (Below.refl N w).grown hg hw (fun k e => by cases e;exact hb)
theorem below_ref {N : Nat} {w w1 : World} {r : Nat} {v : Value} {L : List Tn} (hr : RTree w r N v L) (hg : GrR w w1 r v) : Below N w w1 := by
  have hw : N ≤ w.heap.size := Nat.le_trans hr.le (Nat.le_of_lt (blk_lt hr.blk))
  rcases hg with hg | ⟨g,hv,hg⟩
  · exact (Below.refl N w).grown hg hw (fun k e => by cases e;exact hr.le)
  · exact (Below.refl N w).grown hg hw (fun k e => by cases e;exact Kd.N_base hr.row g hv)
structure Half (w w1 : World) (t b r N : Nat) (v : Value) (L L' : List Tn) : Prop where
  ten : TreeAt w1 t b L'
  ref : RTree w1 r N v L
  below : Below N w w1
  keep : KeepA w w1
theorem half {w w1 : World} {t b r N : Nat} {v : Value} {L L' : List Tn} (h : TreeAt w t b L) (hr : RTree w r N v L) (hb : N ≤ b) (h1 : TreeAt w1 t b L') (hg : w.grownBy w1 (some b)) : Half w w1 t b r N v L L' :=
  ⟨h1,hr.past hg h.mapped,below_map hg (Nat.le_trans hr.le (Nat.le_of_lt (blk_lt hr.blk))) hb,keepA_map hg h.mapped⟩
structure Whole (w w1 : World) (t b r N : Nat) (v' : Value) (L' : List Tn) : Prop where
  ten : TreeAt w1 t b L'
  ref : RTree w1 r N v' L'
  below : Below N w w1
theorem whole {w w1 : World} {t b r N : Nat} {v v' : Value} {L L' : List Tn} (h : TreeAt w t b L') (hr : RTree w r N v L) (h1 : RTree w1 r N v' L') (hg : GrR w w1 r v) : Whole w w1 t b r N v' L' :=
  ⟨h.past hr hg,h1,below_ref hr hg⟩
end Go.Proofs.Ytcenlehfbgnphaa.Z
end
section
namespace Go.Proofs.Ytcenlehfbgnphaa.Z
set_option linter.unusedVariables false
set_option linter.unusedSimpArgs false
open Go.RowKit Go.Shelf Go.Maps Go.Proofs.YtcenlehfbgnphaaW.PrintWords Go.Proofs.YtcenlehfbgnphaaW.PrintLast Go.Proofs.YtcenlehfbgnphaaW.PrintMore Go.Proofs.Ytcenlehfbgnphaa.Cmp
theorem rtree_mk (w : World) (N : Nat) (hN : N ≤ w.heap.size) : RTree (w.alloc (.cells #[.slice none 0 0] tR)) w.heap.size N (.slice none 0 0) [] :=
  ⟨blk_new w _,Kd.N_nil _ _ _ _ _,hN⟩
set_option maxHeartbeats 8000000 in
set_option maxRecDepth 100000 in
theorem use_trees (A : Option Addr) (n c : Nat) (l : List Act9) (w : World) (hC : Kd.C kAct w A n l) (hG : ∀ x ∈ l,GAct x) : Calls Try.prog 56 #[.slice A n c] w fun e w' => ∃ (t b r : Nat) (v : Value) (L : List Tn),e = .returned (.tuple #[.pointer (some ⟨t,0,none⟩),.pointer (some ⟨r,0,none⟩)]) ∧ TreeAt w' t b L ∧ RTree w' r w.heap.size v L ∧ Ok L ∧ w.heap.size ≤ b ∧ Below w.heap.size w w' := by
  have HC := Aside0.mk hC
  have HG := Aside0.mk hG
  have HL := Aside0.mk (show l.length = n from hC.1)
  have hmax : n ≤ 9223372036854775807 := hC.2.1
  have hact := Try.underlying120
  clear hC hG
  go_enter Try.func56,Try.ntmps56
  go_wp2_with (fail)
  refine (ten_new w).mono ?_
  rintro e w1 ⟨t,b,rfl,hA,hB,ht,hb⟩
  have hbw : Below w1.heap.size w1 (w1.alloc (.cells #[.slice none 0 0] tR)) := below_alloc (Below.refl _ _) _
  have A1 := Aside0.mk (hA.below hbw)
  have B1 := Aside0.mk ((NextW.mk hB hB.size).next hbw)
  have R1 := Aside0.mk (rtree_mk w1 w.heap.size hB.size)
  have HB := Aside0.mk hb
  obtain ⟨r,hr⟩ : ∃ r,w1.heap.size = r := ⟨_,rfl⟩
  clear hA hB hbw
  go_wp2_with (fail)
  rw [hr] at R1
  clear hr
  generalize w1.alloc (.cells #[.slice none 0 0] tR) = w2 at *
  go_loopw [6] (fun iv wr => ∃ (i : Nat) (L : List Tn) (v : Value),iv = .int .i64 (i : Int) ∧ i ≤ n ∧ i ≤ 60 ∧ Aside0 (TreeAt wr t b L) ∧ Aside0 (RTree wr r w.heap.size v L) ∧ Aside0 (Ok L) ∧ Aside0 (NextW w.heap.size w wr)) (fun iv _ => 60 - (intOf iv).toNat)
  case atStart => exact ⟨0,[],_,rfl,Nat.zero_le _,Nat.zero_le _,A1,R1,⟨Ok.nil⟩,B1⟩
  case round =>
    rename World => wr
    clear A1 B1 R1
    obtain ⟨i,L,v,rfl,hi,hi2,HA,HR,HO,NW⟩ := hrel
    by_cases hlt : i < n ∧ i < 60
    · have k0 : decide ((i : Int) < (n : Int)) = true := decide_eq_true (by omega)
      have k1 : decide ((i : Int) < 60) = true := decide_eq_true (by omega)
      obtain ⟨x,hx⟩ : ∃ x,l[i]? = some x := ⟨l[i]'(by have := HL.out;omega),List.getElem?_eq_getElem (by have := HL.out;omega)⟩
      have XG := HG.out x (List.mem_of_getElem? hx)
      have G1 := Aside0.mk XG.1
      have G2 := Aside0.mk XG.2
      obtain ⟨ad,rfl,c0,c1,c2⟩ := at_T120 (Kd.C_below HC.out NW.out.below) (i : Int) (by omega) (by omega)
      have e0 : rd_T120 l (i : Int) = x := by
        unfold rd_T120
        rw [Int.toNat_natCast,List.getD_eq_getElem?_getD,hx]
        rfl
      rw [e0,Int.toNat_natCast] at c0 c1 c2
      have p0 : (0 : Int) ≤ (i : Int) := by omega
      have p1 : (i : Int) < (n : Int) := by omega
      have hlt1 := hlt.1
      have hlt2 := hlt.2
      have HRI := Aside0.mk HA.out.rise
      have O3 := Aside0.mk (HO.out.actP HA.out.names x)
      have P0 := Aside0.mk (fun h0 : (x.f0.tmod 3 == 0) = true => show actP L x = (addP L x.f1 x.f2).2 by unfold actP;rw [if_pos (eq_of_beq h0)])
      have P1 := Aside0.mk (fun (h0 : (x.f0.tmod 3 == 0) = false) (h1 : (x.f0.tmod 3 == 1) = true) => show actP L x = (moveP L x.f1 x.f2).2 by unfold actP;rw [if_neg (fun e => by rw [e] at h0;cases h0),if_pos (eq_of_beq h1)])
      have P2 := Aside0.mk (fun (h0 : (x.f0.tmod 3 == 0) = false) (h1 : (x.f0.tmod 3 == 1) = false) => show actP L x = (dropP L x.f1).2 by unfold actP;rw [if_neg (fun e => by rw [e] at h0;cases h0),if_neg (fun e => by rw [e] at h1;cases h1)])
      obtain ⟨a0,a1,a2⟩ := x
      simp only at *
      generalize actP L _ = LL at *
      have hbw : Below wr.heap.size wr (wr.alloc (.cells #[.int .i64 a0,.string a1,.string a2] tAct)) := below_alloc (Below.refl _ _) _
      have T1 := Aside0.mk (HA.out.below hbw)
      have R1 := Aside0.mk (HR.out.below hbw)
      have BK := Aside0.mk (blk_new wr (.cells #[.int .i64 a0,.string a1,.string a2] tAct))
      have N1 := Aside0.mk (NW.out.next hbw)
      have x0 := (blk_cell BK.out 0).trans rfl
      have x1 := (blk_cell BK.out 1).trans rfl
      have x2 := (blk_cell BK.out 2).trans rfl
      clear hx e0 hlt XG hbw HA HR NW
      cases h0 : (a0.tmod 3 == 0) with
      | true =>
        go_wp2_with (fail)
        have PD := Aside0.mk (P0.out h0)
        refine (ten_add T1.out HO.out a1 a2 G1.out G2.out).mono ?_
        rintro e w2 ⟨rfl,hA,hg⟩
        rw [← PD.out] at hA
        have H2 := Aside0.mk (half T1.out R1.out HB.out hA hg)
        have BK2 := Aside0.mk (H2.out.keep _ _ BK.out)
        have N2 := Aside0.mk (N1.out.nextN H2.out.below)
        have y1 := (blk_cell BK2.out 1).trans rfl
        have y2 := (blk_cell BK2.out 2).trans rfl
        clear hA hg BK T1 R1 N1
        go_wp2_with (fail)
        refine (ref_add H2.out.ref HO.out a1 a2 G1.out G2.out).mono ?_
        rintro e w3 ⟨v3,rfl,hR,hg⟩
        rw [← PD.out] at hR
        have W3 := Aside0.mk (whole H2.out.ten H2.out.ref hR (.inl hg))
        have N3 := Aside0.mk (N2.out.nextN W3.out.below)
        have T3 := Aside0.mk W3.out.ten
        have R3 := Aside0.mk W3.out.ref
        clear hR hg BK2 H2 N2 W3 y1 y2
        go_wp2_with (fail)
        go_roundw
        case rel => exact ⟨i + 1,LL,_,by go_num,by omega,by omega,T3,R3,O3,N3⟩
        case measure => simp [intOf];omega
      | false =>
        cases h1 : (a0.tmod 3 == 1) with
        | true =>
          go_wp2_with (fail)
          have PD := Aside0.mk (P1.out h0 h1)
          refine (ten_move T1.out HO.out a1 a2 G1.out G2.out).mono ?_
          rintro e w2 ⟨rfl,hA,hg⟩
          rw [← PD.out] at hA
          have H2 := Aside0.mk (half T1.out R1.out HB.out hA hg)
          have BK2 := Aside0.mk (H2.out.keep _ _ BK.out)
          have N2 := Aside0.mk (N1.out.nextN H2.out.below)
          have y1 := (blk_cell BK2.out 1).trans rfl
          have y2 := (blk_cell BK2.out 2).trans rfl
          clear hA hg BK T1 R1 N1
          go_wp2_with (fail)
          refine (ref_move H2.out.ref HO.out HRI.out a1 a2).mono ?_
          rintro e w3 ⟨v3,rfl,hR,hg⟩
          rw [← PD.out] at hR
          have W3 := Aside0.mk (whole H2.out.ten H2.out.ref hR hg)
          have N3 := Aside0.mk (N2.out.nextN W3.out.below)
          have T3 := Aside0.mk W3.out.ten
          have R3 := Aside0.mk W3.out.ref
          clear hR hg BK2 H2 N2 W3 y1 y2
          go_wp2_with (fail)
          go_roundw
          case rel => exact ⟨i + 1,LL,_,by go_num,by omega,by omega,T3,R3,O3,N3⟩
          case measure => simp [intOf];omega
        | false =>
          go_wp2_with (fail)
          have PD := Aside0.mk (P2.out h0 h1)
          refine (ten_drop T1.out HO.out a1 G1.out).mono ?_
          rintro e w2 ⟨rfl,hA,hg⟩
          rw [← PD.out] at hA
          have H2 := Aside0.mk (half T1.out R1.out HB.out hA hg)
          have BK2 := Aside0.mk (H2.out.keep _ _ BK.out)
          have N2 := Aside0.mk (N1.out.nextN H2.out.below)
          have y1 := (blk_cell BK2.out 1).trans rfl
          have y2 := (blk_cell BK2.out 2).trans rfl
          clear hA hg BK T1 R1 N1
          go_wp2_with (fail)
          refine (ref_drop H2.out.ref HO.out HRI.out a1).mono ?_
          rintro e w3 ⟨v3,rfl,hR,hg⟩
          rw [← PD.out] at hR
          have W3 := Aside0.mk (whole H2.out.ten H2.out.ref hR (.inl hg))
          have N3 := Aside0.mk (N2.out.nextN W3.out.below)
          have T3 := Aside0.mk W3.out.ten
          have R3 := Aside0.mk W3.out.ref
          clear hR hg BK2 H2 N2 W3 y1 y2
          go_wp2_with (fail)
          go_roundw
          case rel => exact ⟨i + 1,LL,_,by go_num,by omega,by omega,T3,R3,O3,N3⟩
          case measure => simp [intOf];omega
    · have kk : (decide ((60 : Int) < (n : Int)) = true ∧ i = 60) ∨ i = n := by
        by_cases hn : i < n
        · exact .inl ⟨decide_eq_true (by omega),by omega⟩
        · exact .inr (by omega)
      clear hlt hi hi2 HC HG HL hmax
      rcases kk with ⟨k1,hik⟩ | hik
      all_goals
        subst hik
        go_wp2_with (fail)
        go_ret2
        exact ⟨t,b,r,v,L,rfl,HA.out,HR.out,HO.out,HB.out,NW.out.below⟩
end Go.Proofs.Ytcenlehfbgnphaa.Z
end
section
namespace Go.Proofs.Ytcenlehfbgnphaa.Z
set_option linter.unusedVariables false
set_option linter.unusedSimpArgs false
open Go.RowKit
open Classical
noncomputable def cntK (x : Nm) (l : List Nm) : List Tn → Int
  | [] => 0
  | k :: r => (if k.2 = x ∧ k.1 ∈ l then 1 else 0) + cntK x l r
theorem cntK_nil (x : Nm) : ∀ K : List Tn,cntK x [] K = 0
  | [] => rfl
  | k :: r => by
    show (if k.2 = x ∧ k.1 ∈ ([] : List Nm) then (1 : Int) else 0) + cntK x [] r = 0
    rw [if_neg (by simp),cntK_nil x r]
    rfl
theorem cntK_cons (x y p : Nm) (l : List Nm) (hy : y ∉ l) : ∀ K : List Tn,(K.map Prod.fst).Nodup → (∀ k ∈ K,k.1 = y → k.2 = p) → cntK x (y :: l) K = cntK x l K + (if p = x ∧ y ∈ K.map Prod.fst then 1 else 0)
  | [],_,_ => by
    show (0 : Int) = 0 + _
    rw [if_neg (by simp)]
    rfl
  | k :: r,hn,hp => by
    rw [List.map_cons,List.nodup_cons] at hn
    have ih := cntK_cons x y p l hy r hn.2 (fun q hq => hp q (List.mem_cons_of_mem _ hq))
    show (if k.2 = x ∧ k.1 ∈ y :: l then (1 : Int) else 0) + cntK x (y :: l) r = (if k.2 = x ∧ k.1 ∈ l then (1 : Int) else 0) + cntK x l r + _
    rw [ih]
    by_cases hk : k.1 = y
    · have h2 := hp k List.mem_cons_self hk
      have h3 : y ∉ r.map Prod.fst := fun h => hn.1 (hk ▸ h)
      have h4 : k.1 ∉ l := fun h => hy (hk ▸ h)
      rw [if_neg (show ¬ (p = x ∧ y ∈ r.map Prod.fst) from fun h => h3 h.2),if_neg (show ¬ (k.2 = x ∧ k.1 ∈ l) from fun h => h4 h.2)]
      by_cases hx : p = x
      · rw [if_pos ⟨h2.trans hx,by rw [hk];exact List.mem_cons_self⟩,if_pos ⟨hx,by rw [List.map_cons,hk];exact List.mem_cons_self⟩]
        omega
      · rw [if_neg (fun h => hx (h2.symm.trans h.1)),if_neg (fun h => hx h.1)]
        omega
    · have e1 : (k.2 = x ∧ k.1 ∈ y :: l) ↔ (k.2 = x ∧ k.1 ∈ l) := by
        constructor
        · rintro ⟨h1,h2⟩
          rcases List.mem_cons.1 h2 with h2 | h2
          · exact absurd h2 hk
          · exact ⟨h1,h2⟩
        · rintro ⟨h1,h2⟩
          exact ⟨h1,List.mem_cons_of_mem _ h2⟩
      have e2 : (p = x ∧ y ∈ (k :: r).map Prod.fst) ↔ (p = x ∧ y ∈ r.map Prod.fst) := by
        rw [List.map_cons]
        constructor
        · rintro ⟨h1,h2⟩
          rcases List.mem_cons.1 h2 with h2 | h2
          · exact absurd h2.symm hk
          · exact ⟨h1,h2⟩
        · rintro ⟨h1,h2⟩
          exact ⟨h1,List.mem_cons_of_mem _ h2⟩
      by_cases a1 : k.2 = x ∧ k.1 ∈ l
      · rw [if_pos (e1.2 a1),if_pos a1]
        by_cases a2 : p = x ∧ y ∈ r.map Prod.fst
        · rw [if_pos a2,if_pos (e2.2 a2)];omega
        · rw [if_neg a2,if_neg (fun h => a2 (e2.1 h))];omega
      · rw [if_neg (fun h => a1 (e1.1 h)),if_neg a1]
        by_cases a2 : p = x ∧ y ∈ r.map Prod.fst
        · rw [if_pos a2,if_pos (e2.2 a2)];omega
        · rw [if_neg a2,if_neg (fun h => a2 (e2.1 h))];omega
theorem get_uniq {L : List Tn} (hn : (L.map Prod.fst).Nodup) {n p : Nm} (hg : getT L n = some p) : ∀ k ∈ L,k.1 = n → k.2 = p := by
  induction L with
  | nil => intro k hk;cases hk
  | cons q r ih =>
    rw [List.map_cons,List.nodup_cons] at hn
    rw [getT_cons] at hg
    intro k hk hkn
    by_cases e : q.1 = n
    · rw [if_pos e] at hg
      injection hg with hg
      rcases List.mem_cons.1 hk with rfl | hk
      · exact hg
      · exact absurd (List.mem_map.2 ⟨k,hk,hkn.trans e.symm⟩) hn.1
    · rw [if_neg e] at hg
      rcases List.mem_cons.1 hk with rfl | hk
      · exact absurd hkn e
      · exact ih hn.2 hg k hk hkn
theorem cnt_chain {L : List Tn} (hn : (L.map Prod.fst).Nodup) {x : Nm} (hx : getT L x ≠ none) {n : Nm} {l : List Nm} (h : Ch L n l) :
    cntK x l L + (if n = x then 1 else 0) = if x ∈ l then 1 else 0 := by
  induction h with
  | @stop n h1 =>
    rw [cntK_nil,if_neg (show ¬ n = x from fun e => hx (e ▸ h1)),if_neg (by simp)]
    rfl
  | @go n p l h1 hc ih =>
    have hnd := (Ch.go h1 hc).nodup
    rw [List.nodup_cons] at hnd
    have hm : n ∈ L.map Prod.fst := List.mem_map.2 ⟨(n,p),getT_mem L n p h1,rfl⟩
    rw [cntK_cons x n p l hnd.1 L hn (get_uniq hn h1)]
    have e1 : (if p = x ∧ n ∈ L.map Prod.fst then (1 : Int) else 0) = if p = x then 1 else 0 := by
      by_cases hp : p = x
      · rw [if_pos ⟨hp,hm⟩,if_pos hp]
      · rw [if_neg (fun h => hp h.1),if_neg hp]
    rw [e1,ih]
    by_cases hnx : n = x
    · have : x ∉ l := hnx ▸ hnd.1
      rw [if_neg this,if_pos hnx,if_pos (by rw [hnx];exact List.mem_cons_self)]
      rfl
    · rw [if_neg hnx]
      by_cases hl : x ∈ l
      · rw [if_pos hl,if_pos (List.mem_cons_of_mem _ hl)];rfl
      · rw [if_neg hl,if_neg (fun h => by rcases List.mem_cons.1 h with h | h;exact hnx h.symm;exact hl h)];rfl
def sumF (g : Nm → Int) : List Tn → Int
  | [] => 0
  | y :: r => g y.1 + sumF g r
theorem sumF_congr {g g' : Nm → Int} : ∀ {K : List Tn},(∀ y ∈ K,g y.1 = g' y.1) → sumF g K = sumF g' K
  | [],_ => rfl
  | y :: r,h => by
    show g y.1 + sumF g r = g' y.1 + sumF g' r
    rw [h y List.mem_cons_self,sumF_congr (fun q hq => h q (List.mem_cons_of_mem _ hq))]
theorem sumF_add (g g' : Nm → Int) : ∀ K : List Tn,sumF (fun y => g y + g' y) K = sumF g K + sumF g' K
  | [] => rfl
  | y :: r => by
    show g y.1 + g' y.1 + sumF (fun y => g y + g' y) r = g y.1 + sumF g r + (g' y.1 + sumF g' r)
    rw [sumF_add g g' r]
    omega
theorem sumF_zero : ∀ K : List Tn,sumF (fun _ => 0) K = 0
  | [] => rfl
  | y :: r => by
    show 0 + sumF (fun _ => 0) r = 0
    rw [sumF_zero r]
    rfl
theorem sumT_filter (l : List En) (f : Nm → Bool) : ∀ K : List Tn,sumT l ((K.map Prod.fst).filter f) = sumF (fun y => if f y = true then (ownL y l).1 else 0) K
  | [] => rfl
  | y :: r => by
    rw [List.map_cons,List.filter_cons]
    show _ = (if f y.1 = true then (ownL y.1 l).1 else 0) + sumF _ r
    by_cases h : f y.1 = true
    · rw [if_pos h,if_pos h,← sumT_filter l f r]
      rfl
    · rw [if_neg h,if_neg h,sumT_filter l f r]
      omega
theorem sumT_und (l : List En) (L : List Tn) (x : Nm) : sumT l (undL L x) = sumF (fun y => if x ∈ abv L y then (ownL y l).1 else 0) L := by
  unfold undL
  rw [sumT_filter]
  refine sumF_congr (fun y _ => ?_)
  by_cases h : x ∈ abv L y.1
  · rw [if_pos h,if_pos ((hasN_iff _ _).2 h)]
  · rw [if_neg h,if_neg (fun q => h ((hasN_iff _ _).1 q))]
noncomputable def childS (l : List En) (L : List Tn) (x : Nm) : List Tn → Int
  | [] => 0
  | k :: r => (if k.2 = x then sumT l (undL L k.1) else 0) + childS l L x r
theorem child_sum (l : List En) (L : List Tn) (x : Nm) : ∀ K : List Tn,childS l L x K = sumF (fun y => (ownL y l).1 * cntK x (abv L y) K) L
  | [] => by
    show (0 : Int) = _
    rw [sumF_congr (g' := fun _ => 0) (fun y _ => by show (ownL y.1 l).1 * 0 = 0;omega),sumF_zero]
  | k :: r => by
    show (if k.2 = x then sumT l (undL L k.1) else 0) + childS l L x r = _
    rw [child_sum l L x r,sumT_und]
    have key : sumF (fun y => (ownL y l).1 * cntK x (abv L y) (k :: r)) L = sumF (fun y => (if k.2 = x then (if k.1 ∈ abv L y then (ownL y l).1 else 0) else 0) + (ownL y l).1 * cntK x (abv L y) r) L := sumF_congr (fun y _ => by
      show (ownL y.1 l).1 * ((if k.2 = x ∧ k.1 ∈ abv L y.1 then (1 : Int) else 0) + cntK x (abv L y.1) r) = _
      rw [Int.mul_add]
      congr 1
      by_cases h1 : k.2 = x
      · rw [if_pos h1]
        by_cases h2 : k.1 ∈ abv L y.1
        · rw [if_pos ⟨h1,h2⟩,if_pos h2,Int.mul_one]
        · rw [if_neg (fun h => h2 h.2),if_neg h2,Int.mul_zero]
      · rw [if_neg h1,if_neg (fun h => h1 h.1),Int.mul_zero])
    rw [key,sumF_add]
    congr 1
    by_cases h1 : k.2 = x
    · simp only [if_pos h1]
    · simp only [if_neg h1]
      exact (sumF_zero L).symm
theorem sumF_one (g : Nm → Int) (x : Nm) : ∀ {K : List Tn},(K.map Prod.fst).Nodup → x ∈ K.map Prod.fst → sumF (fun y => if y = x then g y else 0) K = g x
  | [],_,h => by cases h
  | y :: r,hn,h => by
    rw [List.map_cons,List.nodup_cons] at hn
    show (if y.1 = x then g y.1 else 0) + sumF _ r = g x
    by_cases e : y.1 = x
    · rw [if_pos e,sumF_congr (g' := fun _ => 0) (fun q hq => if_neg (fun h2 => hn.1 (List.mem_map.2 ⟨q,hq,h2.trans e.symm⟩))),sumF_zero,e]
      omega
    · rw [if_neg e,sumF_one g x hn.2 (by rcases List.mem_cons.1 h with h | h;exact absurd h.symm e;exact h)]
      omega
theorem sum_law {L : List Tn} (hs : Shallow L) (hn : (L.map Prod.fst).Nodup) (l : List En) {x : Nm} (hx : x ∈ L.map Prod.fst) : sumT l (undL L x) = (ownL x l).1 + childS l L x L := by
  have hg : getT L x ≠ none := fun e => by
    obtain ⟨p,hp,hpx⟩ := List.mem_map.1 hx
    exact (getT_none L x).1 e p hp hpx
  rw [child_sum,sumT_und,← sumF_one (fun y => (ownL y l).1) x hn hx,← sumF_add]
  refine sumF_congr (fun y _ => ?_)
  have h1 := cnt_chain hn hg (hs.ch y.1)
  show (if x ∈ abv L y.1 then (ownL y.1 l).1 else 0) = (if y.1 = x then (ownL y.1 l).1 else 0) + (ownL y.1 l).1 * cntK x (abv L y.1) L
  by_cases h2 : x ∈ abv L y.1
  · rw [if_pos h2] at h1 ⊢
    by_cases h3 : y.1 = x
    · rw [if_pos h3] at h1 ⊢
      rw [show cntK x (abv L y.1) L = 0 by omega]
      omega
    · rw [if_neg h3] at h1 ⊢
      rw [show cntK x (abv L y.1) L = 1 by omega]
      omega
  · rw [if_neg h2] at h1 ⊢
    by_cases h3 : y.1 = x
    · exfalso
      apply h2
      rw [← h3]
      obtain ⟨r,hr⟩ := abv_head hs (n := y.1) (h3 ▸ hg)
      rw [hr]
      exact List.mem_cons_self
    · rw [if_neg h3] at h1 ⊢
      rw [show cntK x (abv L y.1) L = 0 by omega]
      omega
end Go.Proofs.Ytcenlehfbgnphaa.Z
end
section
namespace Go.Proofs.YtcenlehfbgnphaaW.PrintMore
open Go.RowKit Go.Proofs.YtcenlehfbgnphaaW.PrintWords Go.Proofs.YtcenlehfbgnphaaW.PrintLast
section
variable {P : Program} {ops : Array Oper} {Q : Exit → Act → World → Prop}
end
end Go.Proofs.YtcenlehfbgnphaaW.PrintMore
namespace Go.Proofs.YtcenlehfbgnphaaW.PrintWords
open Go.RowKit
section
variable {P : Program} {ops : Array Oper} {Q : Exit → Act → World → Prop} {o : Oper} {rest : List Oper} {a : Act}
end
end Go.Proofs.YtcenlehfbgnphaaW.PrintWords
namespace Go.Proofs.YtcenlehfbgnphaaW.PrintWords
open Go.RowKit
end Go.Proofs.YtcenlehfbgnphaaW.PrintWords
end
