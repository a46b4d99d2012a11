/-
  verdererlaw02.RowOrders: for every input the law returns true, and each argument reads behind the call as it read before. No condition.
-/
import Derived.Test.YtfoaeigoajooeaaMRowOrdersa
import Derived.Test.YtfoaeigoajooeaaMRowOrdersb
import Derived.Test.YtfoaeigoajooeaaMRowOrdersc
import Derived.Test.YtfoaeigoajooeaaWMore
import Derived.Test.YtfoaeigoajooeaaWShare
import Derived.Deep.Slices
import Derived.ProofKit
import Derived.Lib.Bytealg
import Derived.Test.YtfoaeigoajooeaaRows
import Derived.WalkKit
import Derived.OpenShut
import Derived.ShutString
import Derived.ChangeOld
import Derived.Below
namespace Go.Proofs.Ytfoaeigoajooeaa.Z
open Go.RowKit Go.Proofs.YtfoaeigoajooeaaW.PrintWords Go.Proofs.YtfoaeigoajooeaaW.PrintLast Go.Proofs.YtfoaeigoajooeaaW.PrintMore
attribute [local go_sem] max2_int min2_int max_two min_two max_three min_three max_four min_four   -- for this text's walks alone
set_option linter.unusedVariables false
set_option linter.unusedSimpArgs false

/-! ### verdererref02_Right: function 25 -/
def verdererref02_Right.l0 : Nat → List (S50) → Int → Option (Bool)
  | 0, _, _ => none
  | k + 1, x0, x3 => if x3 < (x0.length : Int) then (if 0 ≤ x3 then ((verdererref01_Right.f ((rd_T50 x0 x3).f0) ((rd_T50 x0 x3).f1) ((rd_T50 x0 x3).f2) ((rd_T50 x0 x3).f3)).bind fun t329 => (if t329 = true then (verdererref02_Right.l0 k x0 (wrap64 (x3 + 1))) else (some false))) else (none)) else (some true)
def verdererref02_Right.f (k : Nat) (l0 : List (S50)) : Option (Bool) := if (l0.length : Int) > 40 then (some false) else (verdererref02_Right.l0 k l0 0)
theorem verdererref02_Right.mono_l : ∀ k, (∀ y0 y1, LeO (verdererref02_Right.l0 k y0 y1) (verdererref02_Right.l0 (k + 1) y0 y1))
  | 0 => fun _ _ r h => by simp [verdererref02_Right.l0] at h
  | k + 1 => by
    have ih0 := verdererref02_Right.mono_l k
    · intro y0 y1
      unfold verdererref02_Right.l0
      repeat' first
      | (with_reducible exact ih0 _ _)
      | (with_reducible exact LeO.refl _)
      | (with_reducible exact LeO.none _)
      | (with_reducible refine LeO.ite ?_ ?_)
      | (with_reducible refine LeO.bind ?_ (fun _ => ?_))
      | exact ih0 _ _
      | exact LeO.none _
      | refine LeO.ite ?_ ?_
      | refine LeO.bind ?_ (fun _ => ?_)
theorem verdererref02_Right.mono : ∀ a0 k, LeO (verdererref02_Right.f k a0) (verdererref02_Right.f (k + 1) a0) := by
  intro a0 k
  have ih0 := verdererref02_Right.mono_l k
  unfold verdererref02_Right.f
  repeat' first
      | (with_reducible exact ih0 _ _)
      | (with_reducible exact LeO.refl _)
      | (with_reducible exact LeO.none _)
      | (with_reducible refine LeO.ite ?_ ?_)
      | (with_reducible refine LeO.bind ?_ (fun _ => ?_))
      | exact ih0 _ _
      | exact LeO.none _
      | refine LeO.ite ?_ ?_
      | refine LeO.bind ?_ (fun _ => ?_)
set_option maxHeartbeats 8000000 in
set_option maxRecDepth 100000 in
theorem verdererref02_Right.calls (k : Nat) (A0 : Option Addr) (c0 : Nat) (l0 : List (S50)) (r : Bool) (w : World) (hr0 : Kd.C k50 w A0 l0.length l0) (hc0 : l0.length ≤ c0) (h : verdererref02_Right.f k l0 = some r) :
    Calls Try.prog 25 #[.slice A0 l0.length c0] w fun e w' => e = .returned (.bool r) ∧ Below w.heap.size w w' := by
  have hu50 := Try.underlying50
  have HR0 := Aside0.mk hr0
  have HC0 := Aside0.mk hc0
  clear hr0 hc0
  have HB := Aside0.mk (Below.refl w.heap.size w)
  have H : (if (l0.length : Int) > 40 then (some false) else (verdererref02_Right.l0 k l0 0)) = some r := h
  clear h
  by_cases c2 : (l0.length : Int) > 40
  · rw [if_pos c2] at H
    have c2b0 : decide (40 < (l0.length : Int)) = true := decide_eq_true c2
    have c2b1 : decide (40 < l0.length) = true := decide_eq_true (by omega)
    clear c2
    obtain rfl := Option.some.inj H
    go_enter Try.func25, Try.ntmps25
    go_wp2
    go_ret
    exact ⟨by first | rfl | (simp [errW_none, errW_some] <;> rfl) | (simp [*, errW_none, errW_some] <;> rfl), by repeat (first | (with_reducible first | exact HB.out | apply below_alloc | apply pw_below_drewN | apply below_drew1) | exact HB.out)⟩
  · rw [if_neg c2] at H
    have c2b0 : decide (40 < (l0.length : Int)) = false := decide_eq_false c2
    have c2b1 : decide (40 < l0.length) = false := decide_eq_false (by omega)
    clear c2
    have H' := Aside0.mk H
    clear H
    go_enter Try.func25, Try.ntmps25
    go_wp2
    go_loopg [3] k (fun kq v3 w' => ∃ (x3_1 : Int), v3 = .int .i64 x3_1 ∧ Aside0 (verdererref02_Right.l0 kq l0 x3_1 = some r) ∧ Aside0 (kq ≤ k) ∧ Aside0 (Below w.heap.size w w'))
    case atStart => exact ⟨(0), (by first | rfl | (simp; done) | (simp [*]; done)), H', ⟨Nat.le_refl _⟩, ⟨by repeat (first | (with_reducible first | exact HB.out | apply below_alloc | apply pw_below_drewN | apply below_drew1) | exact HB.out)⟩⟩
    case round =>
      clear H'
      try clear c2
      try clear c2b0
      try clear c2b1
      try clear p2
      obtain ⟨x3_1, rfl, HA, HK1, HB⟩ := hrel
      cases gk with
      | zero => exact absurd HA.out (by simp [verdererref02_Right.l0])
      | succ k1 =>
        have H := HA.out
        clear HA
        simp only [verdererref02_Right.l0] at H
        by_cases c3 : x3_1 < (l0.length : Int)
        · rw [if_pos c3] at H
          have c3b0 : decide (x3_1 < (l0.length : Int)) = true := decide_eq_true c3
          clear c3
          by_cases c4 : 0 ≤ x3_1
          · rw [if_pos c4] at H
            have c4b0 : decide (0 ≤ x3_1) = true := decide_eq_true c4
            clear c4
            replace H := Option.bind_eq_some_iff.mp H
            obtain ⟨t329, A50, H⟩ := H
            replace H : (if t329 = true then (verdererref02_Right.l0 k1 l0 (wrap64 (x3_1 + 1))) else (some false)) = some r := H
            have A5 := Aside0.mk A50
            clear A50
            by_cases c6 : t329 = true
            · subst c6
              have H1 : (verdererref02_Right.l0 k1 l0 (wrap64 (x3_1 + 1))) = some r := by rw [if_pos rfl] at H; exact H
              clear H
              have H := H1
              clear H1
              have H' := Aside0.mk H
              clear H
              have p328 : 0 ≤ (x3_1 : Int) := of_decide_eq_true (by first | (with_reducible assumption) | assumption)
              have q328 : x3_1 < (l0.length : Int) := of_decide_eq_true (by first | (with_reducible assumption) | assumption)
              obtain ⟨ad328, e328, hx328_0, hx328_1, hx328_2, hx328_3⟩ := at_T50 HR0.out x3_1 p328 q328
              cases e328
              replace hx328_0 := (HB.out.cell (World.block_lt_of_cell? w _ hx328_0)).trans hx328_0
              replace hx328_1 := (HB.out.cell (World.block_lt_of_cell? w _ hx328_1)).trans hx328_1
              replace hx328_2 := (HB.out.cell (World.block_lt_of_cell? w _ hx328_2)).trans hx328_2
              replace hx328_3 := (HB.out.cell (World.block_lt_of_cell? w _ hx328_3)).trans hx328_3
              replace p328 := eq_true p328
              replace q328 := eq_true q328
              go_wp2_with (first | ((with_reducible refine gate_callee (f := 53) rfl ?_); refine goesL_ (some 17) rfl rfl Try.func53 (by kernel_rfl) rfl #[.agg #[.int .i64 ((rd_T50 l0 x3_1).f0), .bool ((rd_T50 l0 x3_1).f1), .int .i64 ((rd_T50 l0 x3_1).f2), .string ((rd_T50 l0 x3_1).f3)]] rfl (by (try simp only [List.map_toArray, List.map_cons, List.map_nil]); first | done | rfl | (simp only [List.length_drop, List.length_take]; rfl)) ?_; (with_reducible refine (verdererref01_Right.calls ((rd_T50 l0 x3_1).f0) ((rd_T50 l0 x3_1).f1) ((rd_T50 l0 x3_1).f2) ((rd_T50 l0 x3_1).f3) true _ A5.out).mono ?_); rintro e w7 ⟨rfl, hb⟩; refine ⟨_, rfl, ?_⟩; have n0_ := Aside0.mk (below_step (by repeat (first | (with_reducible first | exact HB.out | apply below_alloc | apply pw_below_drewN | apply below_drew1) | exact HB.out)) hb); clear HB; have HB := n0_; clear n0_; (try clear hb); (try clear hb2); (try clear hk); (try clear hi)))
              go_roundg k1
              case measure => have := HK1.out; omega
              case rel => exact ⟨(wrap64 (x3_1 + 1)), (by first | rfl | (simp; done) | (simp [*]; done)), H', ⟨by have := HK1.out; omega⟩, ⟨by repeat (first | (with_reducible first | exact HB.out | apply below_alloc | apply pw_below_drewN | apply below_drew1) | exact HB.out)⟩⟩
            · replace c6 := Bool.eq_false_iff.mpr c6
              subst c6
              have H1 : (some false) = some r := by rw [if_neg (show ¬ (false = true) by decide)] at H; exact H
              clear H
              have H := H1
              clear H1
              obtain rfl := Option.some.inj H
              have p328 : 0 ≤ (x3_1 : Int) := of_decide_eq_true (by first | (with_reducible assumption) | assumption)
              have q328 : x3_1 < (l0.length : Int) := of_decide_eq_true (by first | (with_reducible assumption) | assumption)
              obtain ⟨ad328, e328, hx328_0, hx328_1, hx328_2, hx328_3⟩ := at_T50 HR0.out x3_1 p328 q328
              cases e328
              replace hx328_0 := (HB.out.cell (World.block_lt_of_cell? w _ hx328_0)).trans hx328_0
              replace hx328_1 := (HB.out.cell (World.block_lt_of_cell? w _ hx328_1)).trans hx328_1
              replace hx328_2 := (HB.out.cell (World.block_lt_of_cell? w _ hx328_2)).trans hx328_2
              replace hx328_3 := (HB.out.cell (World.block_lt_of_cell? w _ hx328_3)).trans hx328_3
              replace p328 := eq_true p328
              replace q328 := eq_true q328
              go_wp2_with (first | ((with_reducible refine gate_callee (f := 53) rfl ?_); refine goesL_ (some 17) rfl rfl Try.func53 (by kernel_rfl) rfl #[.agg #[.int .i64 ((rd_T50 l0 x3_1).f0), .bool ((rd_T50 l0 x3_1).f1), .int .i64 ((rd_T50 l0 x3_1).f2), .string ((rd_T50 l0 x3_1).f3)]] rfl (by (try simp only [List.map_toArray, List.map_cons, List.map_nil]); first | done | rfl | (simp only [List.length_drop, List.length_take]; rfl)) ?_; (with_reducible refine (verdererref01_Right.calls ((rd_T50 l0 x3_1).f0) ((rd_T50 l0 x3_1).f1) ((rd_T50 l0 x3_1).f2) ((rd_T50 l0 x3_1).f3) false _ A5.out).mono ?_); rintro e w8 ⟨rfl, hb⟩; refine ⟨_, rfl, ?_⟩; have n0_ := Aside0.mk (below_step (by repeat (first | (with_reducible first | exact HB.out | apply below_alloc | apply pw_below_drewN | apply below_drew1) | exact HB.out)) hb); clear HB; have HB := n0_; clear n0_; (try clear hb); (try clear hb2); (try clear hk); (try clear hi)))
              go_ret
              exact ⟨by first | rfl | (simp [errW_none, errW_some] <;> rfl) | (simp [*, errW_none, errW_some] <;> rfl), by repeat (first | (with_reducible first | exact HB.out | apply below_alloc | apply pw_below_drewN | apply below_drew1) | exact HB.out)⟩
          · rw [if_neg c4] at H
            exact absurd H (by simp)
        · rw [if_neg c3] at H
          have c3b0 : decide (x3_1 < (l0.length : Int)) = false := decide_eq_false c3
          clear c3
          obtain rfl := Option.some.inj H
          go_wp2
          go_ret
          exact ⟨by first | rfl | (simp [errW_none, errW_some] <;> rfl) | (simp [*, errW_none, errW_some] <;> rfl), by repeat (first | (with_reducible first | exact HB.out | apply below_alloc | apply pw_below_drewN | apply below_drew1) | exact HB.out)⟩

end Go.Proofs.Ytfoaeigoajooeaa.Z

namespace Go.Proofs.Ytfoaeigoajooeaa.Z
open Go.RowKit Go.Proofs.YtfoaeigoajooeaaW.PrintWords Go.Proofs.YtfoaeigoajooeaaW.PrintLast Go.Proofs.YtfoaeigoajooeaaW.PrintMore
attribute [local go_sem] max2_int min2_int max_two min_two max_three min_three max_four min_four   -- for this text's walks alone
set_option linter.unusedVariables false
set_option linter.unusedSimpArgs false

/-! ### verdererlaw02_RowOrders: function 6 -/
def verdererlaw02_RowOrders.j0 : Nat → List (S50) → List (S50) → Bool → Option (Bool)
  | 0, _, _, _ => none
  | k + 1, x0, x1, x12 => if x12 = true then ((verdererlaw02_known.f k).bind fun t330 => (some t330)) else ((row_Compare.f k x0 x1).bind fun t331 => ((verdererref02_Compare.f k x0 x1).bind fun t332 => (if t331 = t332 then ((row_Same.f k x0 x1).bind fun t333 => ((verdererref02_Same.f k x0 x1).bind fun t334 => (if (t333 == t334) = true then ((row_Right.f k x0).bind fun t335 => ((verdererref02_Right.f k x0).bind fun t336 => (if (t335 == t336) = true then ((row_Of.f x0).bind fun t337 => ((verdererref02_Equal.f k t337 x0).bind fun t340 => (if t340 = true then ((verdererlaw02_known.f k).bind fun t341 => (some t341)) else (some false)))) else (some false)))) else (some false)))) else (some false))))
def verdererlaw02_RowOrders.f (k : Nat) (l0 : List (S50)) (l1 : List (S50)) : Option (Bool) := if (l0.length : Int) > 200 then (verdererlaw02_RowOrders.j0 k l0 l1 true) else (verdererlaw02_RowOrders.j0 k l0 l1 (decide ((l1.length : Int) > 200)))
theorem verdererlaw02_RowOrders.mono_l : ∀ k, (∀ y0 y1 y2, LeO (verdererlaw02_RowOrders.j0 k y0 y1 y2) (verdererlaw02_RowOrders.j0 (k + 1) y0 y1 y2))
  | 0 => fun _ _ _ r h => by simp [verdererlaw02_RowOrders.j0] at h
  | k + 1 => by
    have ih0 := verdererlaw02_RowOrders.mono_l k
    · intro y0 y1 y2
      unfold verdererlaw02_RowOrders.j0
      repeat' first
      | (with_reducible exact ih0 _ _ _)
      | (with_reducible exact row_Compare.mono _ _ _)
      | (with_reducible exact row_Right.mono _ _)
      | (with_reducible exact row_Same.mono _ _ _)
      | (with_reducible exact verdererlaw02_known.mono _)
      | (with_reducible exact verdererref02_Compare.mono _ _ _)
      | (with_reducible exact verdererref02_Equal.mono _ _ _)
      | (with_reducible exact verdererref02_Right.mono _ _)
      | (with_reducible exact verdererref02_Same.mono _ _ _)
      | (with_reducible exact LeO.refl _)
      | (with_reducible exact LeO.none _)
      | (with_reducible refine LeO.ite ?_ ?_)
      | (with_reducible refine LeO.bind ?_ (fun _ => ?_))
      | exact ih0 _ _ _
      | exact row_Compare.mono _ _ _
      | exact row_Right.mono _ _
      | exact row_Same.mono _ _ _
      | exact verdererlaw02_known.mono _
      | exact verdererref02_Compare.mono _ _ _
      | exact verdererref02_Equal.mono _ _ _
      | exact verdererref02_Right.mono _ _
      | exact verdererref02_Same.mono _ _ _
      | exact LeO.none _
      | refine LeO.ite ?_ ?_
      | refine LeO.bind ?_ (fun _ => ?_)
theorem verdererlaw02_RowOrders.mono : ∀ a0 a1 k, LeO (verdererlaw02_RowOrders.f k a0 a1) (verdererlaw02_RowOrders.f (k + 1) a0 a1) := by
  intro a0 a1 k
  have ih0 := verdererlaw02_RowOrders.mono_l k
  unfold verdererlaw02_RowOrders.f
  repeat' first
      | (with_reducible exact ih0 _ _ _)
      | (with_reducible exact row_Compare.mono _ _ _)
      | (with_reducible exact row_Right.mono _ _)
      | (with_reducible exact row_Same.mono _ _ _)
      | (with_reducible exact verdererlaw02_known.mono _)
      | (with_reducible exact verdererref02_Compare.mono _ _ _)
      | (with_reducible exact verdererref02_Equal.mono _ _ _)
      | (with_reducible exact verdererref02_Right.mono _ _)
      | (with_reducible exact verdererref02_Same.mono _ _ _)
      | (with_reducible exact LeO.refl _)
      | (with_reducible exact LeO.none _)
      | (with_reducible refine LeO.ite ?_ ?_)
      | (with_reducible refine LeO.bind ?_ (fun _ => ?_))
      | exact ih0 _ _ _
      | exact row_Compare.mono _ _ _
      | exact row_Right.mono _ _
      | exact row_Same.mono _ _ _
      | exact verdererlaw02_known.mono _
      | exact verdererref02_Compare.mono _ _ _
      | exact verdererref02_Equal.mono _ _ _
      | exact verdererref02_Right.mono _ _
      | exact verdererref02_Same.mono _ _ _
      | exact LeO.none _
      | refine LeO.ite ?_ ?_
      | refine LeO.bind ?_ (fun _ => ?_)
set_option maxHeartbeats 8000000 in
set_option maxRecDepth 100000 in
theorem verdererlaw02_RowOrders.calls (k : Nat) (A0 : Option Addr) (c0 : Nat) (l0 : List (S50)) (A1 : Option Addr) (c1 : Nat) (l1 : List (S50)) (r : Bool) (w : World) (hr0 : Kd.C k50 w A0 l0.length l0) (hc0 : l0.length ≤ c0) (hr1 : Kd.C k50 w A1 l1.length l1) (hc1 : l1.length ≤ c1) (h : verdererlaw02_RowOrders.f k l0 l1 = some r) :
    Calls Try.prog 6 #[.slice A0 l0.length c0, .slice A1 l1.length c1] w fun e w' => e = .returned (.bool r) ∧ Below w.heap.size w w' := by
  have HR0 := Aside0.mk hr0
  have HC0 := Aside0.mk hc0
  clear hr0 hc0
  have HR1 := Aside0.mk hr1
  have HC1 := Aside0.mk hc1
  clear hr1 hc1
  have HB := Aside0.mk (Below.refl w.heap.size w)
  have H : (if (l0.length : Int) > 200 then (verdererlaw02_RowOrders.j0 k l0 l1 true) else (verdererlaw02_RowOrders.j0 k l0 l1 (decide ((l1.length : Int) > 200)))) = some r := h
  clear h
  have HC3 := Aside0.mk H
  clear H
  go_enter Try.func6, Try.ntmps6
  go_upto_region 1 with (fail)
  go_cut [12] (fun v12 wc => ∃ (kq : Nat) (x12_2 : Bool), v12 = .bool x12_2 ∧ Aside0 (verdererlaw02_RowOrders.j0 kq l0 l1 x12_2 = some r) ∧ Aside0 (kq ≤ k) ∧ Aside0 (Below w.heap.size w wc))
  case first =>
    have H := HC3.out
    clear HC3
    by_cases c4 : (l0.length : Int) > 200
    · rw [if_pos c4] at H
      have c4b0 : decide (200 < (l0.length : Int)) = true := decide_eq_true c4
      have c4b1 : decide (200 < l0.length) = true := decide_eq_true (by omega)
      clear c4
      (first | rw [c4b0] | (simp only [i64_w, i32_w]; rw [c4b0]) | skip)
      have H' := Aside0.mk H
      clear H
      go_wp2
      go_meet
      case rel => exact ⟨_, (true), (by first | rfl | (simp; done) | (simp [*]; done)), H', ⟨by first | omega | exact Nat.le_refl _⟩, ⟨by repeat (first | (with_reducible first | exact HB.out | apply below_alloc | apply pw_below_drewN | apply below_drew1) | exact HB.out)⟩⟩
    · rw [if_neg c4] at H
      have c4b0 : decide (200 < (l0.length : Int)) = false := decide_eq_false c4
      have c4b1 : decide (200 < l0.length) = false := decide_eq_false (by omega)
      clear c4
      (first | rw [c4b0] | (simp only [i64_w, i32_w]; rw [c4b0]) | skip)
      have H' := Aside0.mk H
      clear H
      go_wp2
      go_meet
      case rel => exact ⟨_, (decide ((l1.length : Int) > 200)), (by first | rfl | (simp; done) | (simp [*]; done)), H', ⟨by first | omega | exact Nat.le_refl _⟩, ⟨by repeat (first | (with_reducible first | exact HB.out | apply below_alloc | apply pw_below_drewN | apply below_drew1) | exact HB.out)⟩⟩
  case rest =>
    clear HC3
    try clear c1
    try clear p2
    try clear c4
    try clear c4b0
    try clear c4b1
    obtain ⟨kq, x12_2, rfl, HA, HJ2, HB⟩ := hcut
    cases kq with
    | zero => exact absurd HA.out (by simp [verdererlaw02_RowOrders.j0])
    | succ kj2 =>
      have H := HA.out
      clear HA
      simp only [verdererlaw02_RowOrders.j0] at H
      by_cases c5 : x12_2 = true
      · subst c5
        have H1 : ((verdererlaw02_known.f kj2).bind fun t330 => (some t330)) = some r := by rw [if_pos rfl] at H; exact H
        clear H
        have H := H1
        clear H1
        replace H := Option.bind_eq_some_iff.mp H
        obtain ⟨t330, A60, H⟩ := H
        replace H : (some t330) = some r := H
        have A6 := Aside0.mk A60
        clear A60
        obtain rfl := Option.some.inj H
        go_wp2_with (first | ((with_reducible refine gate_callee (f := 12) rfl ?_); refine goesL_ (some 13) rfl rfl Try.func12 (by kernel_rfl) rfl #[] rfl (by (try simp only [List.map_toArray, List.map_cons, List.map_nil]); first | done | rfl | (simp only [List.length_drop, List.length_take]; rfl)) ?_; (with_reducible refine (verdererlaw02_known.calls kj2  t330 _ A6.out).mono ?_); rintro e w7 ⟨rfl, hb⟩; refine ⟨_, rfl, ?_⟩; have n0_ := Aside0.mk (below_step (by repeat (first | (with_reducible first | exact HB.out | apply below_alloc | apply pw_below_drewN | apply below_drew1) | exact HB.out)) hb); clear HB; have HB := n0_; clear n0_; (try clear hb); (try clear hb2); (try clear hk); (try clear hi)))
        go_ret
        exact ⟨by first | rfl | (simp [errW_none, errW_some] <;> rfl) | (simp [*, errW_none, errW_some] <;> rfl), by repeat (first | (with_reducible first | exact HB.out | apply below_alloc | apply pw_below_drewN | apply below_drew1) | exact HB.out)⟩
      · replace c5 := Bool.eq_false_iff.mpr c5
        subst c5
        have H1 : ((row_Compare.f kj2 l0 l1).bind fun t331 => ((verdererref02_Compare.f kj2 l0 l1).bind fun t332 => (if t331 = t332 then ((row_Same.f kj2 l0 l1).bind fun t333 => ((verdererref02_Same.f kj2 l0 l1).bind fun t334 => (if (t333 == t334) = true then ((row_Right.f kj2 l0).bind fun t335 => ((verdererref02_Right.f kj2 l0).bind fun t336 => (if (t335 == t336) = true then ((row_Of.f l0).bind fun t337 => ((verdererref02_Equal.f kj2 t337 l0).bind fun t340 => (if t340 = true then ((verdererlaw02_known.f kj2).bind fun t341 => (some t341)) else (some false)))) else (some false)))) else (some false)))) else (some false)))) = some r := by rw [if_neg (show ¬ (false = true) by decide)] at H; exact H
        clear H
        have H := H1
        clear H1
        replace H := Option.bind_eq_some_iff.mp H
        obtain ⟨t331, A80, H⟩ := H
        replace H : ((verdererref02_Compare.f kj2 l0 l1).bind fun t332 => (if t331 = t332 then ((row_Same.f kj2 l0 l1).bind fun t333 => ((verdererref02_Same.f kj2 l0 l1).bind fun t334 => (if (t333 == t334) = true then ((row_Right.f kj2 l0).bind fun t335 => ((verdererref02_Right.f kj2 l0).bind fun t336 => (if (t335 == t336) = true then ((row_Of.f l0).bind fun t337 => ((verdererref02_Equal.f kj2 t337 l0).bind fun t340 => (if t340 = true then ((verdererlaw02_known.f kj2).bind fun t341 => (some t341)) else (some false)))) else (some false)))) else (some false)))) else (some false))) = some r := H
        have A8 := Aside0.mk A80
        clear A80
        replace H := Option.bind_eq_some_iff.mp H
        obtain ⟨t332, A90, H⟩ := H
        replace H : (if t331 = t332 then ((row_Same.f kj2 l0 l1).bind fun t333 => ((verdererref02_Same.f kj2 l0 l1).bind fun t334 => (if (t333 == t334) = true then ((row_Right.f kj2 l0).bind fun t335 => ((verdererref02_Right.f kj2 l0).bind fun t336 => (if (t335 == t336) = true then ((row_Of.f l0).bind fun t337 => ((verdererref02_Equal.f kj2 t337 l0).bind fun t340 => (if t340 = true then ((verdererlaw02_known.f kj2).bind fun t341 => (some t341)) else (some false)))) else (some false)))) else (some false)))) else (some false)) = some r := H
        have A9 := Aside0.mk A90
        clear A90
        by_cases c10 : t331 = t332
        · rw [if_pos c10] at H
          have c10b0 : (t331 == t332) = true := beq_iff_eq.mpr c10
          have c10b1 : (t331 != t332) = false := bne_eq_false_iff_eq.mpr c10
          clear c10
          replace H := Option.bind_eq_some_iff.mp H
          obtain ⟨t333, A110, H⟩ := H
          replace H : ((verdererref02_Same.f kj2 l0 l1).bind fun t334 => (if (t333 == t334) = true then ((row_Right.f kj2 l0).bind fun t335 => ((verdererref02_Right.f kj2 l0).bind fun t336 => (if (t335 == t336) = true then ((row_Of.f l0).bind fun t337 => ((verdererref02_Equal.f kj2 t337 l0).bind fun t340 => (if t340 = true then ((verdererlaw02_known.f kj2).bind fun t341 => (some t341)) else (some false)))) else (some false)))) else (some false))) = some r := H
          have A11 := Aside0.mk A110
          clear A110
          replace H := Option.bind_eq_some_iff.mp H
          obtain ⟨t334, A120, H⟩ := H
          replace H : (if (t333 == t334) = true then ((row_Right.f kj2 l0).bind fun t335 => ((verdererref02_Right.f kj2 l0).bind fun t336 => (if (t335 == t336) = true then ((row_Of.f l0).bind fun t337 => ((verdererref02_Equal.f kj2 t337 l0).bind fun t340 => (if t340 = true then ((verdererlaw02_known.f kj2).bind fun t341 => (some t341)) else (some false)))) else (some false)))) else (some false)) = some r := H
          have A12 := Aside0.mk A120
          clear A120
          by_cases c13 : (t333 == t334) = true
          · rw [if_pos c13] at H
            have c13b0 : (t333 == t334) = true := c13
            (try (have c13b1 : decide (t333 = t334) = true := by simpa using c13))
            (try (have c13b2 : (t333 == t334) = true := by simpa using c13))
            clear c13
            replace H := Option.bind_eq_some_iff.mp H
            obtain ⟨t335, A140, H⟩ := H
            replace H : ((verdererref02_Right.f kj2 l0).bind fun t336 => (if (t335 == t336) = true then ((row_Of.f l0).bind fun t337 => ((verdererref02_Equal.f kj2 t337 l0).bind fun t340 => (if t340 = true then ((verdererlaw02_known.f kj2).bind fun t341 => (some t341)) else (some false)))) else (some false))) = some r := H
            have A14 := Aside0.mk A140
            clear A140
            replace H := Option.bind_eq_some_iff.mp H
            obtain ⟨t336, A150, H⟩ := H
            replace H : (if (t335 == t336) = true then ((row_Of.f l0).bind fun t337 => ((verdererref02_Equal.f kj2 t337 l0).bind fun t340 => (if t340 = true then ((verdererlaw02_known.f kj2).bind fun t341 => (some t341)) else (some false)))) else (some false)) = some r := H
            have A15 := Aside0.mk A150
            clear A150
            by_cases c16 : (t335 == t336) = true
            · rw [if_pos c16] at H
              have c16b0 : (t335 == t336) = true := c16
              (try (have c16b1 : decide (t335 = t336) = true := by simpa using c16))
              (try (have c16b2 : (t335 == t336) = true := by simpa using c16))
              clear c16
              replace H := Option.bind_eq_some_iff.mp H
              obtain ⟨t337, A170, H⟩ := H
              replace H : ((verdererref02_Equal.f kj2 t337 l0).bind fun t340 => (if t340 = true then ((verdererlaw02_known.f kj2).bind fun t341 => (some t341)) else (some false))) = some r := H
              have A17 := Aside0.mk A170
              clear A170
              replace H := Option.bind_eq_some_iff.mp H
              obtain ⟨t340, A180, H⟩ := H
              replace H : (if t340 = true then ((verdererlaw02_known.f kj2).bind fun t341 => (some t341)) else (some false)) = some r := H
              have A18 := Aside0.mk A180
              clear A180
              by_cases c19 : t340 = true
              · subst c19
                have H1 : ((verdererlaw02_known.f kj2).bind fun t341 => (some t341)) = some r := by rw [if_pos rfl] at H; exact H
                clear H
                have H := H1
                clear H1
                replace H := Option.bind_eq_some_iff.mp H
                obtain ⟨t341, A200, H⟩ := H
                replace H : (some t341) = some r := H
                have A20 := Aside0.mk A200
                clear A200
                obtain rfl := Option.some.inj H
                go_wp2_with (first | ((with_reducible refine gate_callee (f := 13) rfl ?_); refine goesL_ (some 16) rfl rfl Try.func13 (by kernel_rfl) rfl #[.slice A0 l0.length c0, .slice A1 l1.length c1] rfl (by (try simp only [List.map_toArray, List.map_cons, List.map_nil]); first | done | rfl | (simp only [List.length_drop, List.length_take]; rfl)) ?_; (with_reducible refine (row_Compare.calls kj2 _ _ l0 _ _ l1 t331 _ ?side1 ?side2 ?side3 ?side4 A8.out).mono ?_); (case side1 => repeat (first | exact (Kd.C_below HR0.out HB.out) | (with_reducible refine Kd.C_alloc ?_ _) | (with_reducible refine Kd.C_drewN ?_ _) | (with_reducible refine Kd.C_drew ?_))); (case side2 => exact HC0.out); (case side3 => repeat (first | exact (Kd.C_below HR1.out HB.out) | (with_reducible refine Kd.C_alloc ?_ _) | (with_reducible refine Kd.C_drewN ?_ _) | (with_reducible refine Kd.C_drew ?_))); (case side4 => exact HC1.out); rintro e w21 ⟨rfl, hb⟩; refine ⟨_, rfl, ?_⟩; have n0_ := Aside0.mk (below_step (by repeat (first | (with_reducible first | exact HB.out | apply below_alloc | apply pw_below_drewN | apply below_drew1) | exact HB.out)) hb); clear HB; have HB := n0_; clear n0_; (try clear hb); (try clear hb2); (try clear hk); (try clear hi)) | ((with_reducible refine gate_callee (f := 22) rfl ?_); refine goesL_ (some 19) rfl rfl Try.func22 (by kernel_rfl) rfl #[.slice A0 l0.length c0, .slice A1 l1.length c1] rfl (by (try simp only [List.map_toArray, List.map_cons, List.map_nil]); first | done | rfl | (simp only [List.length_drop, List.length_take]; rfl)) ?_; (with_reducible refine (verdererref02_Compare.calls kj2 _ _ l0 _ _ l1 t332 _ ?side1 ?side2 ?side3 ?side4 A9.out).mono ?_); (case side1 => repeat (first | exact (Kd.C_below HR0.out HB.out) | (with_reducible refine Kd.C_alloc ?_ _) | (with_reducible refine Kd.C_drewN ?_ _) | (with_reducible refine Kd.C_drew ?_))); (case side2 => exact HC0.out); (case side3 => repeat (first | exact (Kd.C_below HR1.out HB.out) | (with_reducible refine Kd.C_alloc ?_ _) | (with_reducible refine Kd.C_drewN ?_ _) | (with_reducible refine Kd.C_drew ?_))); (case side4 => exact HC1.out); rintro e w22 ⟨rfl, hb⟩; refine ⟨_, rfl, ?_⟩; have n0_ := Aside0.mk (below_step (by repeat (first | (with_reducible first | exact HB.out | apply below_alloc | apply pw_below_drewN | apply below_drew1) | exact HB.out)) hb); clear HB; have HB := n0_; clear n0_; (try clear hb); (try clear hb2); (try clear hk); (try clear hi)) | (go_at_call 21; (with_reducible refine (row_Same.calls kj2 _ _ l0 _ _ l1 t333 _ ?side1 ?side2 ?side3 ?side4 A11.out).mono ?_); (case side1 => repeat (first | exact (Kd.C_below HR0.out HB.out) | (with_reducible refine Kd.C_alloc ?_ _) | (with_reducible refine Kd.C_drewN ?_ _) | (with_reducible refine Kd.C_drew ?_))); (case side2 => exact HC0.out); (case side3 => repeat (first | exact (Kd.C_below HR1.out HB.out) | (with_reducible refine Kd.C_alloc ?_ _) | (with_reducible refine Kd.C_drewN ?_ _) | (with_reducible refine Kd.C_drew ?_))); (case side4 => exact HC1.out); rintro e w23 ⟨rfl, hb⟩; have n0_ := Aside0.mk (below_step (by repeat (first | (with_reducible first | exact HB.out | apply below_alloc | apply pw_below_drewN | apply below_drew1) | exact HB.out)) hb); clear HB; have HB := n0_; clear n0_; (try clear hb); (try clear hb2); (try clear hk); (try clear hi)) | (go_at_call 23; (with_reducible refine (verdererref02_Same.calls kj2 _ _ l0 _ _ l1 t334 _ ?side1 ?side2 ?side3 ?side4 A12.out).mono ?_); (case side1 => repeat (first | exact (Kd.C_below HR0.out HB.out) | (with_reducible refine Kd.C_alloc ?_ _) | (with_reducible refine Kd.C_drewN ?_ _) | (with_reducible refine Kd.C_drew ?_))); (case side2 => exact HC0.out); (case side3 => repeat (first | exact (Kd.C_below HR1.out HB.out) | (with_reducible refine Kd.C_alloc ?_ _) | (with_reducible refine Kd.C_drewN ?_ _) | (with_reducible refine Kd.C_drew ?_))); (case side4 => exact HC1.out); rintro e w24 ⟨rfl, hb⟩; have n0_ := Aside0.mk (below_step (by repeat (first | (with_reducible first | exact HB.out | apply below_alloc | apply pw_below_drewN | apply below_drew1) | exact HB.out)) hb); clear HB; have HB := n0_; clear n0_; (try clear hb); (try clear hb2); (try clear hk); (try clear hi)) | (go_at_call 24; (with_reducible refine (row_Right.calls kj2 _ _ l0 t335 _ ?side1 ?side2 A14.out).mono ?_); (case side1 => repeat (first | exact (Kd.C_below HR0.out HB.out) | (with_reducible refine Kd.C_alloc ?_ _) | (with_reducible refine Kd.C_drewN ?_ _) | (with_reducible refine Kd.C_drew ?_))); (case side2 => exact HC0.out); rintro e w25 ⟨rfl, hb⟩; have n0_ := Aside0.mk (below_step (by repeat (first | (with_reducible first | exact HB.out | apply below_alloc | apply pw_below_drewN | apply below_drew1) | exact HB.out)) hb); clear HB; have HB := n0_; clear n0_; (try clear hb); (try clear hb2); (try clear hk); (try clear hi)) | (go_at_call 25; (with_reducible refine (verdererref02_Right.calls kj2 _ _ l0 t336 _ ?side1 ?side2 A15.out).mono ?_); (case side1 => repeat (first | exact (Kd.C_below HR0.out HB.out) | (with_reducible refine Kd.C_alloc ?_ _) | (with_reducible refine Kd.C_drewN ?_ _) | (with_reducible refine Kd.C_drew ?_))); (case side2 => exact HC0.out); rintro e w26 ⟨rfl, hb⟩; have n0_ := Aside0.mk (below_step (by repeat (first | (with_reducible first | exact HB.out | apply below_alloc | apply pw_below_drewN | apply below_drew1) | exact HB.out)) hb); clear HB; have HB := n0_; clear n0_; (try clear hb); (try clear hb2); (try clear hk); (try clear hi)) | (go_at_call 26; (with_reducible refine (row_Of.calls _ _ l0 t337 _ ?side1 ?side2 A17.out).mono ?_); (case side1 => repeat (first | exact (Kd.C_below HR0.out HB.out) | (with_reducible refine Kd.C_alloc ?_ _) | (with_reducible refine Kd.C_drewN ?_ _) | (with_reducible refine Kd.C_drew ?_))); (case side2 => exact HC0.out); rintro e w27 ⟨v338, rfl, ho0, hb⟩; have n0_ := Aside0.mk (Kd.R_lower ho0 (below_size (by repeat (first | (with_reducible first | exact HB.out | apply below_alloc | apply pw_below_drewN | apply below_drew1) | exact HB.out)))); have n1_ := Aside0.mk (below_step (by repeat (first | (with_reducible first | exact HB.out | apply below_alloc | apply pw_below_drewN | apply below_drew1) | exact HB.out)) hb); clear HB; have HO339 := n0_; have HB := n1_; clear n0_ n1_; (try clear hb); (try clear hb2); (try clear hk); (try clear hi); (try clear ho0); obtain ⟨Ao28, co28, eo28⟩ := Kd.R_slice HO339.out; subst eo28) | (go_at_call 16; (with_reducible refine (verdererref02_Equal.calls kj2 _ _ t337 _ _ l0 true _ ?side1 ?side2 ?side3 ?side4 A18.out).mono ?_); (case side1 => repeat (first | exact (Kd.R_reads' HO339.out).2.2 | (with_reducible refine Kd.C_alloc ?_ _) | (with_reducible refine Kd.C_drewN ?_ _) | (with_reducible refine Kd.C_drew ?_))); (case side2 => exact (Kd.R_reads' HO339.out).2.1); (case side3 => repeat (first | exact (Kd.C_below HR0.out HB.out) | (with_reducible refine Kd.C_alloc ?_ _) | (with_reducible refine Kd.C_drewN ?_ _) | (with_reducible refine Kd.C_drew ?_))); (case side4 => exact HC0.out); rintro e w' ⟨rfl, ⟨nd, rfl⟩⟩) | (go_at_call 12; (with_reducible refine (verdererlaw02_known.calls kj2  t341 _ A20.out).mono ?_); rintro e w29 ⟨rfl, hb⟩; have n0_ := Aside0.mk (Kd.R_below (by (with_reducible repeat (first | apply Kd.R_alloc | apply Kd.R_drewN | apply Kd.R_drew)); exact HO339.out) hb); have n1_ := Aside0.mk (below_step (by repeat (first | (with_reducible first | exact HB.out | apply below_alloc | apply pw_below_drewN | apply below_drew1) | exact HB.out)) hb); clear HO339; clear HB; have HO339 := n0_; have HB := n1_; clear n0_ n1_; (try clear hb); (try clear hb2); (try clear hk); (try clear hi)))
                go_ret
                exact ⟨by first | rfl | (simp [errW_none, errW_some] <;> rfl) | (simp [*, errW_none, errW_some] <;> rfl), by repeat (first | (with_reducible first | exact HB.out | apply below_alloc | apply pw_below_drewN | apply below_drew1) | exact HB.out)⟩
              · replace c19 := Bool.eq_false_iff.mpr c19
                subst c19
                have H1 : (some false) = some r := by rw [if_neg (show ¬ (false = true) by decide)] at H; exact H
                clear H
                have H := H1
                clear H1
                obtain rfl := Option.some.inj H
                go_wp2_with (first | ((with_reducible refine gate_callee (f := 13) rfl ?_); refine goesL_ (some 16) rfl rfl Try.func13 (by kernel_rfl) rfl #[.slice A0 l0.length c0, .slice A1 l1.length c1] rfl (by (try simp only [List.map_toArray, List.map_cons, List.map_nil]); first | done | rfl | (simp only [List.length_drop, List.length_take]; rfl)) ?_; (with_reducible refine (row_Compare.calls kj2 _ _ l0 _ _ l1 t331 _ ?side1 ?side2 ?side3 ?side4 A8.out).mono ?_); (case side1 => repeat (first | exact (Kd.C_below HR0.out HB.out) | (with_reducible refine Kd.C_alloc ?_ _) | (with_reducible refine Kd.C_drewN ?_ _) | (with_reducible refine Kd.C_drew ?_))); (case side2 => exact HC0.out); (case side3 => repeat (first | exact (Kd.C_below HR1.out HB.out) | (with_reducible refine Kd.C_alloc ?_ _) | (with_reducible refine Kd.C_drewN ?_ _) | (with_reducible refine Kd.C_drew ?_))); (case side4 => exact HC1.out); rintro e w30 ⟨rfl, hb⟩; refine ⟨_, rfl, ?_⟩; have n0_ := Aside0.mk (below_step (by repeat (first | (with_reducible first | exact HB.out | apply below_alloc | apply pw_below_drewN | apply below_drew1) | exact HB.out)) hb); clear HB; have HB := n0_; clear n0_; (try clear hb); (try clear hb2); (try clear hk); (try clear hi)) | ((with_reducible refine gate_callee (f := 22) rfl ?_); refine goesL_ (some 19) rfl rfl Try.func22 (by kernel_rfl) rfl #[.slice A0 l0.length c0, .slice A1 l1.length c1] rfl (by (try simp only [List.map_toArray, List.map_cons, List.map_nil]); first | done | rfl | (simp only [List.length_drop, List.length_take]; rfl)) ?_; (with_reducible refine (verdererref02_Compare.calls kj2 _ _ l0 _ _ l1 t332 _ ?side1 ?side2 ?side3 ?side4 A9.out).mono ?_); (case side1 => repeat (first | exact (Kd.C_below HR0.out HB.out) | (with_reducible refine Kd.C_alloc ?_ _) | (with_reducible refine Kd.C_drewN ?_ _) | (with_reducible refine Kd.C_drew ?_))); (case side2 => exact HC0.out); (case side3 => repeat (first | exact (Kd.C_below HR1.out HB.out) | (with_reducible refine Kd.C_alloc ?_ _) | (with_reducible refine Kd.C_drewN ?_ _) | (with_reducible refine Kd.C_drew ?_))); (case side4 => exact HC1.out); rintro e w31 ⟨rfl, hb⟩; refine ⟨_, rfl, ?_⟩; have n0_ := Aside0.mk (below_step (by repeat (first | (with_reducible first | exact HB.out | apply below_alloc | apply pw_below_drewN | apply below_drew1) | exact HB.out)) hb); clear HB; have HB := n0_; clear n0_; (try clear hb); (try clear hb2); (try clear hk); (try clear hi)) | (go_at_call 21; (with_reducible refine (row_Same.calls kj2 _ _ l0 _ _ l1 t333 _ ?side1 ?side2 ?side3 ?side4 A11.out).mono ?_); (case side1 => repeat (first | exact (Kd.C_below HR0.out HB.out) | (with_reducible refine Kd.C_alloc ?_ _) | (with_reducible refine Kd.C_drewN ?_ _) | (with_reducible refine Kd.C_drew ?_))); (case side2 => exact HC0.out); (case side3 => repeat (first | exact (Kd.C_below HR1.out HB.out) | (with_reducible refine Kd.C_alloc ?_ _) | (with_reducible refine Kd.C_drewN ?_ _) | (with_reducible refine Kd.C_drew ?_))); (case side4 => exact HC1.out); rintro e w32 ⟨rfl, hb⟩; have n0_ := Aside0.mk (below_step (by repeat (first | (with_reducible first | exact HB.out | apply below_alloc | apply pw_below_drewN | apply below_drew1) | exact HB.out)) hb); clear HB; have HB := n0_; clear n0_; (try clear hb); (try clear hb2); (try clear hk); (try clear hi)) | (go_at_call 23; (with_reducible refine (verdererref02_Same.calls kj2 _ _ l0 _ _ l1 t334 _ ?side1 ?side2 ?side3 ?side4 A12.out).mono ?_); (case side1 => repeat (first | exact (Kd.C_below HR0.out HB.out) | (with_reducible refine Kd.C_alloc ?_ _) | (with_reducible refine Kd.C_drewN ?_ _) | (with_reducible refine Kd.C_drew ?_))); (case side2 => exact HC0.out); (case side3 => repeat (first | exact (Kd.C_below HR1.out HB.out) | (with_reducible refine Kd.C_alloc ?_ _) | (with_reducible refine Kd.C_drewN ?_ _) | (with_reducible refine Kd.C_drew ?_))); (case side4 => exact HC1.out); rintro e w33 ⟨rfl, hb⟩; have n0_ := Aside0.mk (below_step (by repeat (first | (with_reducible first | exact HB.out | apply below_alloc | apply pw_below_drewN | apply below_drew1) | exact HB.out)) hb); clear HB; have HB := n0_; clear n0_; (try clear hb); (try clear hb2); (try clear hk); (try clear hi)) | (go_at_call 24; (with_reducible refine (row_Right.calls kj2 _ _ l0 t335 _ ?side1 ?side2 A14.out).mono ?_); (case side1 => repeat (first | exact (Kd.C_below HR0.out HB.out) | (with_reducible refine Kd.C_alloc ?_ _) | (with_reducible refine Kd.C_drewN ?_ _) | (with_reducible refine Kd.C_drew ?_))); (case side2 => exact HC0.out); rintro e w34 ⟨rfl, hb⟩; have n0_ := Aside0.mk (below_step (by repeat (first | (with_reducible first | exact HB.out | apply below_alloc | apply pw_below_drewN | apply below_drew1) | exact HB.out)) hb); clear HB; have HB := n0_; clear n0_; (try clear hb); (try clear hb2); (try clear hk); (try clear hi)) | (go_at_call 25; (with_reducible refine (verdererref02_Right.calls kj2 _ _ l0 t336 _ ?side1 ?side2 A15.out).mono ?_); (case side1 => repeat (first | exact (Kd.C_below HR0.out HB.out) | (with_reducible refine Kd.C_alloc ?_ _) | (with_reducible refine Kd.C_drewN ?_ _) | (with_reducible refine Kd.C_drew ?_))); (case side2 => exact HC0.out); rintro e w35 ⟨rfl, hb⟩; have n0_ := Aside0.mk (below_step (by repeat (first | (with_reducible first | exact HB.out | apply below_alloc | apply pw_below_drewN | apply below_drew1) | exact HB.out)) hb); clear HB; have HB := n0_; clear n0_; (try clear hb); (try clear hb2); (try clear hk); (try clear hi)) | (go_at_call 26; (with_reducible refine (row_Of.calls _ _ l0 t337 _ ?side1 ?side2 A17.out).mono ?_); (case side1 => repeat (first | exact (Kd.C_below HR0.out HB.out) | (with_reducible refine Kd.C_alloc ?_ _) | (with_reducible refine Kd.C_drewN ?_ _) | (with_reducible refine Kd.C_drew ?_))); (case side2 => exact HC0.out); rintro e w36 ⟨v338, rfl, ho0, hb⟩; have n0_ := Aside0.mk (Kd.R_lower ho0 (below_size (by repeat (first | (with_reducible first | exact HB.out | apply below_alloc | apply pw_below_drewN | apply below_drew1) | exact HB.out)))); have n1_ := Aside0.mk (below_step (by repeat (first | (with_reducible first | exact HB.out | apply below_alloc | apply pw_below_drewN | apply below_drew1) | exact HB.out)) hb); clear HB; have HO339 := n0_; have HB := n1_; clear n0_ n1_; (try clear hb); (try clear hb2); (try clear hk); (try clear hi); (try clear ho0); obtain ⟨Ao37, co37, eo37⟩ := Kd.R_slice HO339.out; subst eo37) | (go_at_call 16; (with_reducible refine (verdererref02_Equal.calls kj2 _ _ t337 _ _ l0 false _ ?side1 ?side2 ?side3 ?side4 A18.out).mono ?_); (case side1 => repeat (first | exact (Kd.R_reads' HO339.out).2.2 | (with_reducible refine Kd.C_alloc ?_ _) | (with_reducible refine Kd.C_drewN ?_ _) | (with_reducible refine Kd.C_drew ?_))); (case side2 => exact (Kd.R_reads' HO339.out).2.1); (case side3 => repeat (first | exact (Kd.C_below HR0.out HB.out) | (with_reducible refine Kd.C_alloc ?_ _) | (with_reducible refine Kd.C_drewN ?_ _) | (with_reducible refine Kd.C_drew ?_))); (case side4 => exact HC0.out); rintro e w' ⟨rfl, ⟨nd, rfl⟩⟩))
                go_ret
                exact ⟨by first | rfl | (simp [errW_none, errW_some] <;> rfl) | (simp [*, errW_none, errW_some] <;> rfl), by repeat (first | (with_reducible first | exact HB.out | apply below_alloc | apply pw_below_drewN | apply below_drew1) | exact HB.out)⟩
            · rw [if_neg c16] at H
              have c16b0 : (t335 == t336) = false := by simpa using c16
              (try (have c16b1 : decide (t335 = t336) = false := by simpa using c16))
              (try (have c16b2 : (t335 == t336) = false := by simpa using c16))
              (try (have c16b3 : ¬ (t335 = t336) := by simpa using c16))
              clear c16
              obtain rfl := Option.some.inj H
              go_wp2_with (first | ((with_reducible refine gate_callee (f := 13) rfl ?_); refine goesL_ (some 16) rfl rfl Try.func13 (by kernel_rfl) rfl #[.slice A0 l0.length c0, .slice A1 l1.length c1] rfl (by (try simp only [List.map_toArray, List.map_cons, List.map_nil]); first | done | rfl | (simp only [List.length_drop, List.length_take]; rfl)) ?_; (with_reducible refine (row_Compare.calls kj2 _ _ l0 _ _ l1 t331 _ ?side1 ?side2 ?side3 ?side4 A8.out).mono ?_); (case side1 => repeat (first | exact (Kd.C_below HR0.out HB.out) | (with_reducible refine Kd.C_alloc ?_ _) | (with_reducible refine Kd.C_drewN ?_ _) | (with_reducible refine Kd.C_drew ?_))); (case side2 => exact HC0.out); (case side3 => repeat (first | exact (Kd.C_below HR1.out HB.out) | (with_reducible refine Kd.C_alloc ?_ _) | (with_reducible refine Kd.C_drewN ?_ _) | (with_reducible refine Kd.C_drew ?_))); (case side4 => exact HC1.out); rintro e w38 ⟨rfl, hb⟩; refine ⟨_, rfl, ?_⟩; have n0_ := Aside0.mk (below_step (by repeat (first | (with_reducible first | exact HB.out | apply below_alloc | apply pw_below_drewN | apply below_drew1) | exact HB.out)) hb); clear HB; have HB := n0_; clear n0_; (try clear hb); (try clear hb2); (try clear hk); (try clear hi)) | ((with_reducible refine gate_callee (f := 22) rfl ?_); refine goesL_ (some 19) rfl rfl Try.func22 (by kernel_rfl) rfl #[.slice A0 l0.length c0, .slice A1 l1.length c1] rfl (by (try simp only [List.map_toArray, List.map_cons, List.map_nil]); first | done | rfl | (simp only [List.length_drop, List.length_take]; rfl)) ?_; (with_reducible refine (verdererref02_Compare.calls kj2 _ _ l0 _ _ l1 t332 _ ?side1 ?side2 ?side3 ?side4 A9.out).mono ?_); (case side1 => repeat (first | exact (Kd.C_below HR0.out HB.out) | (with_reducible refine Kd.C_alloc ?_ _) | (with_reducible refine Kd.C_drewN ?_ _) | (with_reducible refine Kd.C_drew ?_))); (case side2 => exact HC0.out); (case side3 => repeat (first | exact (Kd.C_below HR1.out HB.out) | (with_reducible refine Kd.C_alloc ?_ _) | (with_reducible refine Kd.C_drewN ?_ _) | (with_reducible refine Kd.C_drew ?_))); (case side4 => exact HC1.out); rintro e w39 ⟨rfl, hb⟩; refine ⟨_, rfl, ?_⟩; have n0_ := Aside0.mk (below_step (by repeat (first | (with_reducible first | exact HB.out | apply below_alloc | apply pw_below_drewN | apply below_drew1) | exact HB.out)) hb); clear HB; have HB := n0_; clear n0_; (try clear hb); (try clear hb2); (try clear hk); (try clear hi)) | (go_at_call 21; (with_reducible refine (row_Same.calls kj2 _ _ l0 _ _ l1 t333 _ ?side1 ?side2 ?side3 ?side4 A11.out).mono ?_); (case side1 => repeat (first | exact (Kd.C_below HR0.out HB.out) | (with_reducible refine Kd.C_alloc ?_ _) | (with_reducible refine Kd.C_drewN ?_ _) | (with_reducible refine Kd.C_drew ?_))); (case side2 => exact HC0.out); (case side3 => repeat (first | exact (Kd.C_below HR1.out HB.out) | (with_reducible refine Kd.C_alloc ?_ _) | (with_reducible refine Kd.C_drewN ?_ _) | (with_reducible refine Kd.C_drew ?_))); (case side4 => exact HC1.out); rintro e w40 ⟨rfl, hb⟩; have n0_ := Aside0.mk (below_step (by repeat (first | (with_reducible first | exact HB.out | apply below_alloc | apply pw_below_drewN | apply below_drew1) | exact HB.out)) hb); clear HB; have HB := n0_; clear n0_; (try clear hb); (try clear hb2); (try clear hk); (try clear hi)) | (go_at_call 23; (with_reducible refine (verdererref02_Same.calls kj2 _ _ l0 _ _ l1 t334 _ ?side1 ?side2 ?side3 ?side4 A12.out).mono ?_); (case side1 => repeat (first | exact (Kd.C_below HR0.out HB.out) | (with_reducible refine Kd.C_alloc ?_ _) | (with_reducible refine Kd.C_drewN ?_ _) | (with_reducible refine Kd.C_drew ?_))); (case side2 => exact HC0.out); (case side3 => repeat (first | exact (Kd.C_below HR1.out HB.out) | (with_reducible refine Kd.C_alloc ?_ _) | (with_reducible refine Kd.C_drewN ?_ _) | (with_reducible refine Kd.C_drew ?_))); (case side4 => exact HC1.out); rintro e w41 ⟨rfl, hb⟩; have n0_ := Aside0.mk (below_step (by repeat (first | (with_reducible first | exact HB.out | apply below_alloc | apply pw_below_drewN | apply below_drew1) | exact HB.out)) hb); clear HB; have HB := n0_; clear n0_; (try clear hb); (try clear hb2); (try clear hk); (try clear hi)) | (go_at_call 24; (with_reducible refine (row_Right.calls kj2 _ _ l0 t335 _ ?side1 ?side2 A14.out).mono ?_); (case side1 => repeat (first | exact (Kd.C_below HR0.out HB.out) | (with_reducible refine Kd.C_alloc ?_ _) | (with_reducible refine Kd.C_drewN ?_ _) | (with_reducible refine Kd.C_drew ?_))); (case side2 => exact HC0.out); rintro e w42 ⟨rfl, hb⟩; have n0_ := Aside0.mk (below_step (by repeat (first | (with_reducible first | exact HB.out | apply below_alloc | apply pw_below_drewN | apply below_drew1) | exact HB.out)) hb); clear HB; have HB := n0_; clear n0_; (try clear hb); (try clear hb2); (try clear hk); (try clear hi)) | (go_at_call 25; (with_reducible refine (verdererref02_Right.calls kj2 _ _ l0 t336 _ ?side1 ?side2 A15.out).mono ?_); (case side1 => repeat (first | exact (Kd.C_below HR0.out HB.out) | (with_reducible refine Kd.C_alloc ?_ _) | (with_reducible refine Kd.C_drewN ?_ _) | (with_reducible refine Kd.C_drew ?_))); (case side2 => exact HC0.out); rintro e w43 ⟨rfl, hb⟩; have n0_ := Aside0.mk (below_step (by repeat (first | (with_reducible first | exact HB.out | apply below_alloc | apply pw_below_drewN | apply below_drew1) | exact HB.out)) hb); clear HB; have HB := n0_; clear n0_; (try clear hb); (try clear hb2); (try clear hk); (try clear hi)))
              go_ret
              exact ⟨by first | rfl | (simp [errW_none, errW_some] <;> rfl) | (simp [*, errW_none, errW_some] <;> rfl), by repeat (first | (with_reducible first | exact HB.out | apply below_alloc | apply pw_below_drewN | apply below_drew1) | exact HB.out)⟩
          · rw [if_neg c13] at H
            have c13b0 : (t333 == t334) = false := by simpa using c13
            (try (have c13b1 : decide (t333 = t334) = false := by simpa using c13))
            (try (have c13b2 : (t333 == t334) = false := by simpa using c13))
            (try (have c13b3 : ¬ (t333 = t334) := by simpa using c13))
            clear c13
            obtain rfl := Option.some.inj H
            go_wp2_with (first | ((with_reducible refine gate_callee (f := 13) rfl ?_); refine goesL_ (some 16) rfl rfl Try.func13 (by kernel_rfl) rfl #[.slice A0 l0.length c0, .slice A1 l1.length c1] rfl (by (try simp only [List.map_toArray, List.map_cons, List.map_nil]); first | done | rfl | (simp only [List.length_drop, List.length_take]; rfl)) ?_; (with_reducible refine (row_Compare.calls kj2 _ _ l0 _ _ l1 t331 _ ?side1 ?side2 ?side3 ?side4 A8.out).mono ?_); (case side1 => repeat (first | exact (Kd.C_below HR0.out HB.out) | (with_reducible refine Kd.C_alloc ?_ _) | (with_reducible refine Kd.C_drewN ?_ _) | (with_reducible refine Kd.C_drew ?_))); (case side2 => exact HC0.out); (case side3 => repeat (first | exact (Kd.C_below HR1.out HB.out) | (with_reducible refine Kd.C_alloc ?_ _) | (with_reducible refine Kd.C_drewN ?_ _) | (with_reducible refine Kd.C_drew ?_))); (case side4 => exact HC1.out); rintro e w44 ⟨rfl, hb⟩; refine ⟨_, rfl, ?_⟩; have n0_ := Aside0.mk (below_step (by repeat (first | (with_reducible first | exact HB.out | apply below_alloc | apply pw_below_drewN | apply below_drew1) | exact HB.out)) hb); clear HB; have HB := n0_; clear n0_; (try clear hb); (try clear hb2); (try clear hk); (try clear hi)) | ((with_reducible refine gate_callee (f := 22) rfl ?_); refine goesL_ (some 19) rfl rfl Try.func22 (by kernel_rfl) rfl #[.slice A0 l0.length c0, .slice A1 l1.length c1] rfl (by (try simp only [List.map_toArray, List.map_cons, List.map_nil]); first | done | rfl | (simp only [List.length_drop, List.length_take]; rfl)) ?_; (with_reducible refine (verdererref02_Compare.calls kj2 _ _ l0 _ _ l1 t332 _ ?side1 ?side2 ?side3 ?side4 A9.out).mono ?_); (case side1 => repeat (first | exact (Kd.C_below HR0.out HB.out) | (with_reducible refine Kd.C_alloc ?_ _) | (with_reducible refine Kd.C_drewN ?_ _) | (with_reducible refine Kd.C_drew ?_))); (case side2 => exact HC0.out); (case side3 => repeat (first | exact (Kd.C_below HR1.out HB.out) | (with_reducible refine Kd.C_alloc ?_ _) | (with_reducible refine Kd.C_drewN ?_ _) | (with_reducible refine Kd.C_drew ?_))); (case side4 => exact HC1.out); rintro e w45 ⟨rfl, hb⟩; refine ⟨_, rfl, ?_⟩; have n0_ := Aside0.mk (below_step (by repeat (first | (with_reducible first | exact HB.out | apply below_alloc | apply pw_below_drewN | apply below_drew1) | exact HB.out)) hb); clear HB; have HB := n0_; clear n0_; (try clear hb); (try clear hb2); (try clear hk); (try clear hi)) | (go_at_call 21; (with_reducible refine (row_Same.calls kj2 _ _ l0 _ _ l1 t333 _ ?side1 ?side2 ?side3 ?side4 A11.out).mono ?_); (case side1 => repeat (first | exact (Kd.C_below HR0.out HB.out) | (with_reducible refine Kd.C_alloc ?_ _) | (with_reducible refine Kd.C_drewN ?_ _) | (with_reducible refine Kd.C_drew ?_))); (case side2 => exact HC0.out); (case side3 => repeat (first | exact (Kd.C_below HR1.out HB.out) | (with_reducible refine Kd.C_alloc ?_ _) | (with_reducible refine Kd.C_drewN ?_ _) | (with_reducible refine Kd.C_drew ?_))); (case side4 => exact HC1.out); rintro e w46 ⟨rfl, hb⟩; have n0_ := Aside0.mk (below_step (by repeat (first | (with_reducible first | exact HB.out | apply below_alloc | apply pw_below_drewN | apply below_drew1) | exact HB.out)) hb); clear HB; have HB := n0_; clear n0_; (try clear hb); (try clear hb2); (try clear hk); (try clear hi)) | (go_at_call 23; (with_reducible refine (verdererref02_Same.calls kj2 _ _ l0 _ _ l1 t334 _ ?side1 ?side2 ?side3 ?side4 A12.out).mono ?_); (case side1 => repeat (first | exact (Kd.C_below HR0.out HB.out) | (with_reducible refine Kd.C_alloc ?_ _) | (with_reducible refine Kd.C_drewN ?_ _) | (with_reducible refine Kd.C_drew ?_))); (case side2 => exact HC0.out); (case side3 => repeat (first | exact (Kd.C_below HR1.out HB.out) | (with_reducible refine Kd.C_alloc ?_ _) | (with_reducible refine Kd.C_drewN ?_ _) | (with_reducible refine Kd.C_drew ?_))); (case side4 => exact HC1.out); rintro e w47 ⟨rfl, hb⟩; have n0_ := Aside0.mk (below_step (by repeat (first | (with_reducible first | exact HB.out | apply below_alloc | apply pw_below_drewN | apply below_drew1) | exact HB.out)) hb); clear HB; have HB := n0_; clear n0_; (try clear hb); (try clear hb2); (try clear hk); (try clear hi)))
            go_ret
            exact ⟨by first | rfl | (simp [errW_none, errW_some] <;> rfl) | (simp [*, errW_none, errW_some] <;> rfl), by repeat (first | (with_reducible first | exact HB.out | apply below_alloc | apply pw_below_drewN | apply below_drew1) | exact HB.out)⟩
        · rw [if_neg c10] at H
          have c10b0 : (t331 == t332) = false := beq_eq_false_iff_ne.mpr c10
          have c10b1 : (t331 != t332) = true := bne_iff_ne.mpr c10
          obtain rfl := Option.some.inj H
          go_wp2_with (first | ((with_reducible refine gate_callee (f := 13) rfl ?_); refine goesL_ (some 16) rfl rfl Try.func13 (by kernel_rfl) rfl #[.slice A0 l0.length c0, .slice A1 l1.length c1] rfl (by (try simp only [List.map_toArray, List.map_cons, List.map_nil]); first | done | rfl | (simp only [List.length_drop, List.length_take]; rfl)) ?_; (with_reducible refine (row_Compare.calls kj2 _ _ l0 _ _ l1 t331 _ ?side1 ?side2 ?side3 ?side4 A8.out).mono ?_); (case side1 => repeat (first | exact (Kd.C_below HR0.out HB.out) | (with_reducible refine Kd.C_alloc ?_ _) | (with_reducible refine Kd.C_drewN ?_ _) | (with_reducible refine Kd.C_drew ?_))); (case side2 => exact HC0.out); (case side3 => repeat (first | exact (Kd.C_below HR1.out HB.out) | (with_reducible refine Kd.C_alloc ?_ _) | (with_reducible refine Kd.C_drewN ?_ _) | (with_reducible refine Kd.C_drew ?_))); (case side4 => exact HC1.out); rintro e w48 ⟨rfl, hb⟩; refine ⟨_, rfl, ?_⟩; have n0_ := Aside0.mk (below_step (by repeat (first | (with_reducible first | exact HB.out | apply below_alloc | apply pw_below_drewN | apply below_drew1) | exact HB.out)) hb); clear HB; have HB := n0_; clear n0_; (try clear hb); (try clear hb2); (try clear hk); (try clear hi)) | ((with_reducible refine gate_callee (f := 22) rfl ?_); refine goesL_ (some 19) rfl rfl Try.func22 (by kernel_rfl) rfl #[.slice A0 l0.length c0, .slice A1 l1.length c1] rfl (by (try simp only [List.map_toArray, List.map_cons, List.map_nil]); first | done | rfl | (simp only [List.length_drop, List.length_take]; rfl)) ?_; (with_reducible refine (verdererref02_Compare.calls kj2 _ _ l0 _ _ l1 t332 _ ?side1 ?side2 ?side3 ?side4 A9.out).mono ?_); (case side1 => repeat (first | exact (Kd.C_below HR0.out HB.out) | (with_reducible refine Kd.C_alloc ?_ _) | (with_reducible refine Kd.C_drewN ?_ _) | (with_reducible refine Kd.C_drew ?_))); (case side2 => exact HC0.out); (case side3 => repeat (first | exact (Kd.C_below HR1.out HB.out) | (with_reducible refine Kd.C_alloc ?_ _) | (with_reducible refine Kd.C_drewN ?_ _) | (with_reducible refine Kd.C_drew ?_))); (case side4 => exact HC1.out); rintro e w49 ⟨rfl, hb⟩; refine ⟨_, rfl, ?_⟩; have n0_ := Aside0.mk (below_step (by repeat (first | (with_reducible first | exact HB.out | apply below_alloc | apply pw_below_drewN | apply below_drew1) | exact HB.out)) hb); clear HB; have HB := n0_; clear n0_; (try clear hb); (try clear hb2); (try clear hk); (try clear hi)))
          go_ret
          exact ⟨by first | rfl | (simp [errW_none, errW_some] <;> rfl) | (simp [*, errW_none, errW_some] <;> rfl), by repeat (first | (with_reducible first | exact HB.out | apply below_alloc | apply pw_below_drewN | apply below_drew1) | exact HB.out)⟩

end Go.Proofs.Ytfoaeigoajooeaa.Z

/- What came in, read as lists: from the row's reading (DataW.trod) to the print's kinds (Kd). -/
namespace Go.Proofs.YtfoaeigoajooeaaW.PrintWords
open Go.RowKit Go.ChangeShapes Go.WideShapes
section
variable {P : Program} {α β : Type}
/-- Whatever reads as a datum of type t reads as a value of kind d that is good. -/
def OfTrod (P : Program) (t : TypeId) (d : Kd α) (G : α → Prop) : Prop :=
  ∀ (H : Type) (enc : TypeId × Value → H) (w : World) (base : Nat) (spare : Nat → Bool) (held : Bool) (fuel : Nat) (cs : List Value) (x : DataW H × List MemPlace), DataW.trod enc P w base spare held fuel t cs = some x → ∃ s, d.K w s cs ∧ G s
theorem ofTrod_int {t : TypeId} {k : IntKind} (ht : P.underlying t = some (.int k)) : OfTrod P t (Kd.int k) (fun n => (Lit.int k n).wf = true) := by
  intro H enc w base spare held fuel cs x h
  obtain ⟨n, rfl, _, hw⟩ := DataW.trod_int ht h
  exact ⟨n, rfl, hw⟩
theorem ofTrod_bool {t : TypeId} (ht : P.underlying t = some .bool) : OfTrod P t Kd.bool (fun _ => True) := by
  intro H enc w base spare held fuel cs x h
  obtain ⟨b, rfl, _⟩ := DataW.trod_bool ht h
  exact ⟨b, rfl, trivial⟩
theorem ofTrod_string {t : TypeId} (ht : P.underlying t = some .string) : OfTrod P t Kd.string (fun s => s.size ≤ maxLen) := by
  intro H enc w base spare held fuel cs x h
  obtain ⟨s, rfl, _, hs⟩ := DataW.trod_string ht h
  exact ⟨s, rfl, hs⟩
theorem list_of_all {n : Nat} {Q : Nat → α → Prop} (h : ∀ i, i < n → ∃ x, Q i x) : ∃ xs : List α, xs.length = n ∧ ∀ i x, xs[i]? = some x → Q i x := by
  induction n with
  | zero => exact ⟨[], rfl, fun i x hx => by simp at hx⟩
  | succ n ih =>
    obtain ⟨xs, hl, hx⟩ := ih (fun i hi => h i (by omega))
    obtain ⟨y, hy⟩ := h n (by omega)
    refine ⟨xs ++ [y], by simp [hl], fun i x hi => ?_⟩
    rcases Nat.lt_trichotomy i xs.length with hlt | rfl | hgt
    · rw [List.getElem?_append_left hlt] at hi
      exact hx i x hi
    · rw [List.getElem?_append_right (Nat.le_refl _)] at hi
      simp at hi
      subst hi
      rw [hl]
      exact hy
    · rw [List.getElem?_append_right (by omega), List.getElem?_eq_none (by simp; omega)] at hi
      cases hi
theorem ofTrod_slice {t e : TypeId} {d : Kd α} {G : α → Prop} (ht : P.underlying t = some (.slice e)) (hc : P.cellsOf e = d.sz) (h : OfTrod P e d G) :
    OfTrod P t (Kd.slice e d) (fun l => l.length ≤ maxLen ∧ ∀ x ∈ l, G x) := by
  intro H enc w base spare held fuel cs x hx
  rcases Go.Deep.open_slice ht hx with ⟨rfl, _⟩ | ⟨a, len, cap, m, n, D, Pl, rfl, _, hl, hm, hmm, _, hel⟩
  · exact ⟨[], ⟨none, 0, rfl, Nat.le_refl _, Kd.C_nil d w⟩, by simp, fun x hx => by simp at hx⟩
  · have hlm : len ≤ m := by rw [hmm]; split <;> omega
    obtain ⟨xs, hxl, hxs⟩ := list_of_all (n := len) (Q := fun i s => ∃ cs', w.cells? base (a.add (i * P.cellsOf e)) (P.cellsOf e) = some cs' ∧ d.K w s cs' ∧ G s) (fun i hi => by
      obtain ⟨cs', h1, h2⟩ := hel i (by omega)
      obtain ⟨s, h3, h4⟩ := h _ _ _ _ _ _ _ _ _ h2
      exact ⟨s, cs', h1, h3, h4⟩)
    refine ⟨xs, ⟨some a, cap, by rw [hxl], by omega, rfl, by rw [hxl]; unfold maxLen at hm; omega, fun _ => ⟨a, rfl, fun j p hp => ?_⟩⟩, by omega, fun x hx => ?_⟩
    · obtain ⟨cs', h1, h2, _⟩ := hxs j p hp
      obtain ⟨_, hcl, hcell⟩ := World.cells?_some h1
      refine ⟨cs', by rw [hcl, hc], h2, fun i u hu => ?_⟩
      have hi : i < P.cellsOf e := by
        rw [← hcl]
        exact (List.getElem?_eq_some_iff.1 hu).1
      have := hcell i hi
      rw [Go.Deep.add_add, hc] at this
      rw [this]
      exact hu
    · obtain ⟨i, hi, rfl⟩ := List.getElem_of_mem hx
      obtain ⟨_, _, _, h4⟩ := hxs i xs[i] (List.getElem?_eq_getElem hi)
      exact h4
/-- Where segment i of some types, of some sizes, begins. -/
def segOff (segs : List (TypeId × Nat)) (i : Nat) : Nat := ((segs.take i).map (·.2)).sum
def OfSegs (P : Program) (segs : List (TypeId × Nat)) (d : Kd α) (G : α → Prop) : Prop :=
  ∀ (H : Type) (enc : TypeId × Value → H) (w : World) (base : Nat) (spare : Nat → Bool) (held : Bool) (fuel : Nat) (cs : List Value), cs.length = segOff segs segs.length →
    (∀ i t c, segs[i]? = some (t, c) → ∃ x, DataW.trod enc P w base spare held fuel t ((cs.drop (segOff segs i)).take c) = some x) → ∃ s, d.K w s cs ∧ G s
theorem ofSegs_one {t : TypeId} {c : Nat} {d : Kd α} {G : α → Prop} (h : OfTrod P t d G) : OfSegs P [(t, c)] d G := by
  intro H enc w base spare held fuel cs hl hx
  obtain ⟨x, h1⟩ := hx 0 t c rfl
  have hl2 : cs.length = c := by simpa [segOff] using hl
  have e : ((cs.drop (segOff [(t, c)] 0)).take c) = cs := by simp [segOff, ← hl2]
  rw [e] at h1
  exact h _ _ _ _ _ _ _ _ _ h1
theorem ofSegs_cons {t : TypeId} {c : Nat} {ts : List (TypeId × Nat)} {d : Kd α} {d' : Kd β} {G : α → Prop} {G' : β → Prop} (h : OfTrod P t d G) (h' : OfSegs P ts d' G') : OfSegs P ((t, c) :: ts) (Kd.pair d d') (fun x => G x.1 ∧ G' x.2) := by
  intro H enc w base spare held fuel cs hl hx
  obtain ⟨x, h1⟩ := hx 0 t c rfl
  have e : ((cs.drop (segOff ((t, c) :: ts) 0)).take c) = cs.take c := by simp [segOff]
  rw [e] at h1
  obtain ⟨s, h2, h3⟩ := h _ _ _ _ _ _ _ _ _ h1
  have hl' : (cs.drop c).length = segOff ts ts.length := by
    simp [segOff] at hl ⊢
    omega
  obtain ⟨s', h4, h5⟩ := h' H enc w base spare held fuel (cs.drop c) hl' (fun i t' c' hi => by
    obtain ⟨y, hy⟩ := hx (i + 1) t' c' (by simpa using hi)
    refine ⟨y, ?_⟩
    have e2 : segOff ((t, c) :: ts) (i + 1) = c + segOff ts i := by simp [segOff]
    rw [e2] at hy
    rw [List.drop_drop]
    exact hy)
  exact ⟨(s, s'), ⟨cs.take c, cs.drop c, (List.take_append_drop c cs).symm, h2, h4⟩, h3, h5⟩
theorem ofTrod_struct {t : TypeId} {fs : Array Field} {segs : List (TypeId × Nat)} {d : Kd α} {G : α → Prop} (ht : P.underlying t = some (.struct fs)) (hc : P.cellsOf t = segOff segs segs.length) (hn : fs.size = segs.length)
    (hfs : ∀ i (f : Field), fs[i]? = some f → segs[i]? = some (f.type, P.cellsOf f.type) ∧ f.offset = segOff segs i) (h : OfSegs P segs d G) : OfTrod P t d G := by
  intro H enc w base spare held fuel cs x hx
  obtain ⟨xs, n, _, _, hl, hxl, hf⟩ := DataW.trod_struct ht hx
  refine h H enc w base spare held n cs (by rw [hl, hc]) (fun i t' c' hi => ?_)
  have hlt : i < fs.size := by rw [hn]; exact (List.getElem?_eq_some_iff.1 hi).1
  obtain ⟨h1, h2⟩ := hfs i fs[i] (Array.getElem?_eq_getElem hlt)
  rw [hi] at h1
  injection h1 with h1
  injection h1 with h1 h3
  have h4 := hf i fs[i] (Array.getElem?_eq_getElem hlt)
  rw [h2, ← h3, ← h1] at h4
  have hlt2 : i < xs.length := by omega
  rw [List.getElem?_eq_getElem hlt2] at h4
  exact ⟨_, h4⟩
theorem ofTrod_iso {t : TypeId} {d : Kd α} {G : α → Prop} (f : β → α) (g : α → β) (hg : ∀ a, f (g a) = a) (h : OfTrod P t d G) : OfTrod P t (Kd.iso d f) (fun x => G (f x)) := by
  intro H enc w base spare held fuel cs x hx
  obtain ⟨s, h1, h2⟩ := h _ _ _ _ _ _ _ _ _ hx
  exact ⟨g s, by show d.K w (f (g s)) cs; rw [hg]; exact h1, by show G (f (g s)); rw [hg]; exact h2⟩
/-- A kind that looks at the heap alone. -/
def HeapOnly (d : Kd α) : Prop := ∀ {w w' : World} {x : α} {cs : List Value}, w.heap = w'.heap → d.K w x cs → d.K w' x cs
theorem cell_heap {w w' : World} (h : w.heap = w'.heap) (a : Addr) : w'.cell? a = w.cell? a := by unfold World.cell?; rw [h]
theorem heapOnly_int (k : IntKind) : HeapOnly (Kd.int k) := fun _ h => h
theorem heapOnly_bool : HeapOnly Kd.bool := fun _ h => h
theorem heapOnly_string : HeapOnly Kd.string := fun _ h => h
theorem C_heap {d : Kd α} (hd : HeapOnly d) {w w' : World} {A : Option Addr} {n : Nat} {xs : List α} (hh : w.heap = w'.heap) (h : d.C w A n xs) : d.C w' A n xs := by
  refine ⟨h.1, h.2.1, fun hn => ?_⟩
  obtain ⟨ad, e, hx⟩ := h.2.2 hn
  refine ⟨ad, e, fun j p hp => ?_⟩
  obtain ⟨c, h1, h2, h3⟩ := hx j p hp
  exact ⟨c, h1, hd hh h2, fun i u hu => by rw [cell_heap hh]; exact h3 i u hu⟩
theorem heapOnly_slice {e : Nat} {d : Kd α} (hd : HeapOnly d) : HeapOnly (Kd.slice e d) := by
  rintro w w' x cs hh ⟨A, c, rfl, hl, hr⟩
  exact ⟨A, c, rfl, hl, C_heap hd hh hr⟩
theorem heapOnly_pair {a : Kd α} {b : Kd β} (ha : HeapOnly a) (hb : HeapOnly b) : HeapOnly (Kd.pair a b) := by
  rintro w w' x cs hh ⟨c0, c1, rfl, h0, h1⟩
  exact ⟨c0, c1, rfl, ha hh h0, hb hh h1⟩
theorem heapOnly_iso {d : Kd α} (f : β → α) (hd : HeapOnly d) : HeapOnly (Kd.iso d f) := fun hh h => hd hh h
/-- What came in, as what may be shared. -/
theorem F_of_C {d : Kd α} (hd : HeapOnly d) {W : World} {A : Option Addr} {n : Nat} {xs : List α} (h : d.C W A n xs) : Kd.F d W (fun _ => True) A n xs := by
  intro W' hW
  have hs : W.heap.size ≤ W'.heap.size := by
    rcases Nat.eq_zero_or_pos W.heap.size with h0 | h0
    · omega
    · have := heap_lt (hW (W.heap.size - 1) trivial (by omega)) (by omega)
      omega
  have hb : Below W.heap.size W { W with heap := W'.heap } := ⟨rfl, rfl, rfl, hs, fun k hk => hW k trivial hk⟩
  have hc : d.C { W with heap := W'.heap } A n xs := Kd.C_below h hb
  exact C_heap (w := { W with heap := W'.heap }) hd rfl hc
end
end Go.Proofs.YtfoaeigoajooeaaW.PrintWords

/- How the laws' arguments are read. -/
namespace Go.Proofs.Ytfoaeigoajooeaa.Z
open Go.RowKit Go.Proofs.YtfoaeigoajooeaaW.PrintWords Go.Proofs.YtfoaeigoajooeaaW.PrintLast Go.Proofs.YtfoaeigoajooeaaW.PrintMore
set_option maxRecDepth 100000
def G50 (x : S50) : Prop := ((Lit.int .i64 x.f0).wf = true) ∧ (True) ∧ ((Lit.int .i64 x.f2).wf = true) ∧ (x.f3.size ≤ maxLen)
theorem of50 : OfTrod Try.prog 50 k50 G50 :=
  ofTrod_iso _ (fun a => (⟨a.1, a.2.1, a.2.2.1, a.2.2.2⟩ : S50)) (fun _ => rfl) (ofTrod_struct (segs := [(3, 1), (4, 1), (2, 1), (9, 1)]) Try.underlying50 (by kernel_rfl) rfl
    (by
      intro i f hf
      rcases i with _ | _ | _ | _ | i <;> simp at hf <;> subst hf <;> exact ⟨congrArg some (Prod.ext rfl (by kernel_rfl)), rfl⟩) (ofSegs_cons (ofTrod_int Try.underlying3) (ofSegs_cons (ofTrod_bool Try.underlying4) (ofSegs_cons (ofTrod_int Try.underlying2) (ofSegs_one (ofTrod_string Try.underlying9))))))
theorem ho50 : HeapOnly k50 := heapOnly_iso _ (heapOnly_pair (heapOnly_int _) (heapOnly_pair heapOnly_bool (heapOnly_pair (heapOnly_int _) heapOnly_string)))
def G39 (x : S39) : Prop := ((Lit.int .i64 x.f0).wf = true) ∧ ((Lit.int .i64 x.f1).wf = true)
theorem of39 : OfTrod Try.prog 39 k39 G39 :=
  ofTrod_iso _ (fun a => (⟨a.1, a.2⟩ : S39)) (fun _ => rfl) (ofTrod_struct (segs := [(3, 1), (3, 1)]) Try.underlying39 (by kernel_rfl) rfl
    (by
      intro i f hf
      rcases i with _ | _ | i <;> simp at hf <;> subst hf <;> exact ⟨congrArg some (Prod.ext rfl (by kernel_rfl)), rfl⟩) (ofSegs_cons (ofTrod_int Try.underlying3) (ofSegs_one (ofTrod_int Try.underlying3))))
theorem ho39 : HeapOnly k39 := heapOnly_iso _ (heapOnly_pair (heapOnly_int _) (heapOnly_int _))
end Go.Proofs.Ytfoaeigoajooeaa.Z

/- Comparisons: what goes ahead of what, plain. -/
namespace Go.Proofs.Ytfoaeigoajooeaa.Cmp
structure CmpLaw {α : Type} (c : α → α → Int) : Prop where
  lo : ∀ a b, -1 ≤ c a b
  anti : ∀ a b, c b a = - c a b
  le : ∀ a b d, c a b ≤ 0 → c b d ≤ 0 → c a d ≤ 0
variable {α : Type} {c : α → α → Int}
theorem CmpLaw.hi (h : CmpLaw c) (a b : α) : c a b ≤ 1 := by have := h.lo b a; have := h.anti b a; omega
theorem CmpLaw.self (h : CmpLaw c) (a : α) : c a a = 0 := by have := h.anti a a; omega
theorem CmpLaw.lt_le (h : CmpLaw c) {a b d : α} (h1 : c a b < 0) (h2 : c b d ≤ 0) : c a d < 0 := by
  have h3 := h.le a b d (by omega) h2
  rcases Int.lt_or_eq_of_le h3 with h4 | h4
  · exact h4
  · have h5 := h.anti a d
    have h6 := h.le b d a h2 (by omega)
    have h7 := h.anti a b
    omega
theorem CmpLaw.le_lt (h : CmpLaw c) {a b d : α} (h1 : c a b ≤ 0) (h2 : c b d < 0) : c a d < 0 := by
  have h3 := h.le a b d h1 (by omega)
  rcases Int.lt_or_eq_of_le h3 with h4 | h4
  · exact h4
  · have h5 := h.anti a d
    have h6 := h.le d a b (by omega) h1
    have h7 := h.anti b d
    omega
theorem CmpLaw.eq_left (h : CmpLaw c) {a b : α} (d : α) (h1 : c a b = 0) : c a d = c b d := by
  have a1 := h.anti a b
  have lo1 := h.lo a d
  have hi1 := h.hi a d
  have lo2 := h.lo b d
  have hi2 := h.hi b d
  rcases Int.lt_trichotomy (c b d) 0 with h2 | h2 | h2
  · have := h.le_lt (a := a) (b := b) (d := d) (by omega) h2
    omega
  · have h3 := h.le a b d (by omega) (by omega)
    have h4 := h.le d b a (by have := h.anti b d; omega) (by omega)
    have := h.anti a d
    omega
  · have h3 : c d b < 0 := by have := h.anti b d; omega
    have := h.lt_le h3 (show c b a ≤ 0 by omega)
    have := h.anti a d
    omega
theorem CmpLaw.eq_right (h : CmpLaw c) (d : α) {a b : α} (h1 : c a b = 0) : c d a = c d b := by
  have h2 := h.eq_left d h1
  have h3 := h.anti a d
  have h4 := h.anti b d
  omega
theorem CmpLaw.eq_trans (h : CmpLaw c) {a b d : α} (h1 : c a b = 0) (h2 : c b d = 0) : c a d = 0 := by rw [h.eq_left d h1]; exact h2
def cmpI (a b : Int) : Int := if a < b then -1 else if b < a then 1 else 0
theorem cmpI_law : CmpLaw cmpI := by
  refine ⟨fun a b => ?_, fun a b => ?_, fun a b d h1 h2 => ?_⟩ <;> unfold cmpI at * <;> repeat' split at * <;> omega
theorem cmpI_eq {a b : Int} : cmpI a b = 0 ↔ a = b := by unfold cmpI; repeat' split <;> omega
theorem CmpLaw.on {β : Type} (f : β → α) (h : CmpLaw c) : CmpLaw (fun x y => c (f x) (f y)) := ⟨fun _ _ => h.lo _ _, fun _ _ => h.anti _ _, fun _ _ _ => h.le _ _ _⟩
theorem cmpLaw_zero : CmpLaw (fun _ _ : α => (0 : Int)) := ⟨fun _ _ => by omega, fun _ _ => rfl, fun _ _ _ _ _ => by omega⟩
/-- First by one comparison, then by another one. -/
def andThenC (c d : α → α → Int) (a b : α) : Int := if c a b = 0 then d a b else c a b
theorem CmpLaw.andThen {d : α → α → Int} (hc : CmpLaw c) (hd : CmpLaw d) : CmpLaw (andThenC c d) := by
  refine ⟨fun a b => ?_, fun a b => ?_, fun a b e h1 h2 => ?_⟩
  · unfold andThenC; split
    · exact hd.lo a b
    · exact hc.lo a b
  · unfold andThenC
    have h1 := hc.anti a b
    have h2 := hd.anti a b
    by_cases h : c a b = 0
    · rw [if_pos h, if_pos (by omega)]; exact h2
    · rw [if_neg h, if_neg (by omega)]; exact h1
  · unfold andThenC at *
    by_cases ha : c a b = 0
    · rw [if_pos ha] at h1
      rw [hc.eq_left e ha]
      by_cases hb : c b e = 0
      · rw [if_pos hb] at h2 ⊢
        exact hd.le _ _ _ h1 h2
      · rw [if_neg hb] at h2 ⊢
        exact h2
    · rw [if_neg ha] at h1
      have h3 : c b e ≤ 0 := by
        by_cases hb : c b e = 0
        · omega
        · rw [if_neg hb] at h2; exact h2
      have h4 := hc.lt_le (show c a b < 0 by omega) h3
      rw [if_neg (by omega)]
      omega
/-- Lists, element by element. -/
def lexC (c : α → α → Int) : List α → List α → Int
  | [], [] => 0
  | [], _ :: _ => -1
  | _ :: _, [] => 1
  | a :: as_, b :: bs => if c a b = 0 then lexC c as_ bs else c a b
theorem lexC_law (h : CmpLaw c) : CmpLaw (lexC c) := by
  have lo : ∀ a b, -1 ≤ lexC c a b := by
    intro a
    induction a with
    | nil => intro b; cases b <;> simp [lexC]
    | cons x a ih =>
      intro b
      cases b with
      | nil => simp [lexC]
      | cons y b =>
        simp only [lexC]
        split
        · exact ih b
        · exact h.lo x y
  have anti : ∀ a b, lexC c b a = - lexC c a b := by
    intro a
    induction a with
    | nil => intro b; cases b <;> simp [lexC]
    | cons x a ih =>
      intro b
      cases b with
      | nil => simp [lexC]
      | cons y b =>
        simp only [lexC]
        have h1 := h.anti x y
        by_cases h0 : c x y = 0
        · rw [if_pos h0, if_pos (by omega)]; exact ih b
        · rw [if_neg h0, if_neg (by omega)]; exact h1
  refine ⟨lo, anti, ?_⟩
  intro a
  induction a with
  | nil =>
    intro b d h1 h2
    cases d with
    | nil => simp [lexC]
    | cons => simp [lexC]
  | cons x a ih =>
    intro b d h1 h2
    cases b with
    | nil => simp [lexC] at h1
    | cons y b =>
      cases d with
      | nil => simp [lexC] at h2
      | cons z d =>
        simp only [lexC] at h1 h2 ⊢
        by_cases hxy : c x y = 0
        · rw [if_pos hxy] at h1
          rw [h.eq_left z hxy]
          by_cases hyz : c y z = 0
          · rw [if_pos hyz] at h2 ⊢
            exact ih b d h1 h2
          · rw [if_neg hyz] at h2 ⊢
            exact h2
        · rw [if_neg hxy] at h1
          have h3 : c y z ≤ 0 := by
            by_cases hyz : c y z = 0
            · omega
            · rw [if_neg hyz] at h2; exact h2
          have h4 := h.lt_le (show c x y < 0 by omega) h3
          rw [if_neg (by omega)]
          omega
theorem lexC_eq (hc : ∀ a b, c a b = 0 → a = b) : ∀ a b, lexC c a b = 0 → a = b := by
  intro a
  induction a with
  | nil => intro b h; cases b with | nil => rfl | cons => simp [lexC] at h
  | cons x a ih =>
    intro b h
    cases b with
    | nil => simp [lexC] at h
    | cons y b =>
      simp only [lexC] at h
      by_cases h0 : c x y = 0
      · rw [if_pos h0] at h
        rw [hc _ _ h0, ih _ h]
      · rw [if_neg h0] at h
        exact absurd h h0
/-- Bytes. -/
def cmpB (a b : List UInt8) : Int := lexC (fun x y : UInt8 => cmpI x.toNat y.toNat) a b
theorem cmpB_law : CmpLaw cmpB := lexC_law (cmpI_law.on fun x : UInt8 => (x.toNat : Int))
theorem cmpB_eq {a b : List UInt8} (h : cmpB a b = 0) : a = b := lexC_eq (fun x y hxy => by have := cmpI_eq.1 hxy; exact UInt8.toNat_inj.1 (by omega)) a b h
theorem compareBytes_eq (a b : List UInt8) : Lib.compareBytes a b = cmpB a b := by
  unfold cmpB
  induction a generalizing b with
  | nil => cases b <;> rfl
  | cons x a ih =>
    cases b with
    | nil => rfl
    | cons y b =>
      have e : lexC (fun x y : UInt8 => cmpI x.toNat y.toNat) (x :: a) (y :: b) = if cmpI x.toNat y.toNat = 0 then lexC (fun x y : UInt8 => cmpI x.toNat y.toNat) a b else cmpI x.toNat y.toNat := rfl
      rw [e, ← ih b]
      simp only [Lib.compareBytes, UInt8.lt_iff_toNat_lt]
      by_cases h1 : x.toNat < y.toNat
      · have h3 : cmpI x.toNat y.toNat = -1 := by unfold cmpI; rw [if_pos (by omega)]
        rw [if_pos h1, h3, if_neg (by omega)]
      · by_cases h2 : y.toNat < x.toNat
        · have h3 : cmpI x.toNat y.toNat = 1 := by unfold cmpI; rw [if_neg (by omega), if_pos (by omega)]
          rw [if_neg h1, if_pos h2, h3, if_neg (by omega)]
        · have h3 : cmpI x.toNat y.toNat = 0 := by unfold cmpI; rw [if_neg (by omega), if_neg (by omega)]
          rw [if_neg h1, if_neg h2, h3, if_pos rfl]
end Go.Proofs.Ytfoaeigoajooeaa.Cmp

/- Values and rows in their order: what value.Compare and row.Compare answer. -/
namespace Go.Proofs.Ytfoaeigoajooeaa.Z
open Go.RowKit Go.Proofs.YtfoaeigoajooeaaW.PrintWords Go.Proofs.YtfoaeigoajooeaaW.PrintLast Go.Proofs.YtfoaeigoajooeaaW.PrintMore Go.Proofs.Ytfoaeigoajooeaa.Cmp
theorem wrap_id {x : Int} (h0 : -9223372036854775808 ≤ x) (h1 : x ≤ 9223372036854775807) : wrap64 x = x := by unfold wrap64; omega
theorem wrap_succ {n : Nat} {m : Nat} (h : n < m) (hm : m ≤ 9223372036854775807) : wrap64 ((n : Int) + 1) = ((n + 1 : Nat) : Int) := by rw [wrap_id (by omega) (by omega)]; omega
def b2i (b : Bool) : Int := if b then 1 else 0
def kcmp (a b : S50) : Int := if a.f0 = 1 then cmpI (b2i a.f1) (b2i b.f1) else if a.f0 = 2 then cmpI a.f2 b.f2 else if a.f0 = 3 then cmpB a.f3.data.toList b.f3.data.toList else 0
def vcmp (a b : S50) : Int := if a.f0 = b.f0 then kcmp a b else cmpI a.f0 b.f0
theorem vcmp_law : CmpLaw vcmp := by
  have anti : ∀ a b, vcmp b a = - vcmp a b := by
    intro a b
    unfold vcmp
    by_cases h : a.f0 = b.f0
    · rw [if_pos h, if_pos h.symm]
      unfold kcmp
      rw [← h]
      by_cases h1 : a.f0 = 1
      · rw [if_pos h1, if_pos h1]; exact cmpI_law.anti _ _
      · by_cases h2 : a.f0 = 2
        · rw [if_neg h1, if_neg h1, if_pos h2, if_pos h2]; exact cmpI_law.anti _ _
        · by_cases h3 : a.f0 = 3
          · rw [if_neg h1, if_neg h1, if_neg h2, if_neg h2, if_pos h3, if_pos h3]; exact cmpB_law.anti _ _
          · rw [if_neg h1, if_neg h1, if_neg h2, if_neg h2, if_neg h3, if_neg h3]; rfl
    · rw [if_neg h, if_neg (fun e => h e.symm)]; exact cmpI_law.anti _ _
  refine ⟨fun a b => ?_, anti, fun a b d h1 h2 => ?_⟩
  · unfold vcmp kcmp
    repeat' split
    all_goals first | exact cmpI_law.lo _ _ | exact cmpB_law.lo _ _ | omega
  · unfold vcmp at *
    by_cases hab : a.f0 = b.f0
    · rw [if_pos hab] at h1
      by_cases hbd : b.f0 = d.f0
      · rw [if_pos hbd] at h2
        rw [if_pos (hab.trans hbd)]
        unfold kcmp at *
        rw [← hab] at h2
        by_cases k1 : a.f0 = 1
        · rw [if_pos k1] at h1 h2 ⊢; exact cmpI_law.le _ _ _ h1 h2
        · by_cases k2 : a.f0 = 2
          · rw [if_neg k1, if_pos k2] at h1 h2 ⊢; exact cmpI_law.le _ _ _ h1 h2
          · by_cases k3 : a.f0 = 3
            · rw [if_neg k1, if_neg k2, if_pos k3] at h1 h2 ⊢; exact cmpB_law.le _ _ _ h1 h2
            · rw [if_neg k1, if_neg k2, if_neg k3]; omega
      · rw [if_neg hbd] at h2
        rw [if_neg (fun e => hbd (hab.symm.trans e)), hab]
        exact h2
    · rw [if_neg hab] at h1
      by_cases hbd : b.f0 = d.f0
      · rw [if_neg (fun e => hab (e.trans hbd.symm)), ← hbd]
        exact h1
      · rw [if_neg hbd] at h2
        have n1 : cmpI a.f0 b.f0 ≠ 0 := fun e => hab (cmpI_eq.1 e)
        have h3 := cmpI_law.lt_le (show cmpI a.f0 b.f0 < 0 by omega) h2
        rw [if_neg (fun e => by have := cmpI_eq.2 e; omega)]
        omega
def rcmp (a b : List S50) : Int := lexC vcmp a b
theorem rcmp_law : CmpLaw rcmp := lexC_law vcmp_law
theorem isNaN_f (x : Int) : cmp_isNaN_70.f x = some false := by unfold cmp_isNaN_70.f; simp
theorem isNaN_g (x : Int) : cmp_isNaN_71.f x = some false := by unfold cmp_isNaN_71.f; simp
theorem cmp_f (a b : Int) : cmp_Compare_63.f a b = some (cmpI a b) := by
  unfold cmp_Compare_63.f cmpI
  rw [isNaN_f, isNaN_f]
  simp only [Option.bind_some, Bool.false_eq_true, if_false, gt_iff_lt]
  repeat' split
  all_goals first | rfl | omega
theorem cmp_g (a b : Int) : cmp_Compare_65.f a b = some (cmpI a b) := by
  unfold cmp_Compare_65.f cmpI
  rw [isNaN_g, isNaN_g]
  simp only [Option.bind_some, Bool.false_eq_true, if_false, gt_iff_lt]
  repeat' split
  all_goals first | rfl | omega
theorem truth_f (b : Bool) : value_truth.f b = some (b2i b) := by cases b <;> rfl
theorem vcmp_f (a b : S50) : value_Compare.f a.f0 a.f1 a.f2 a.f3 b.f0 b.f1 b.f2 b.f3 = some (vcmp a b) := by
  unfold value_Compare.f vcmp kcmp
  rw [truth_f, truth_f, cmp_g]
  simp only [Option.bind_some, cmp_f, strings_Compare.f, compareBytes_eq]
  repeat' split
  all_goals rfl
theorem rd_nat (xs : List S50) (i : Nat) : rd_T50 xs (i : Int) = xs.getD i z50 := rfl
theorem rd_get {xs : List S50} {i : Nat} (h : i < xs.length) : rd_T50 xs (i : Int) = xs[i] := by rw [rd_nat]; simp [List.getD, List.getElem?_eq_getElem h]
theorem drop_rd {xs : List S50} {i : Nat} (h : i < xs.length) : xs.drop i = rd_T50 xs (i : Int) :: xs.drop (i + 1) := by rw [rd_get h]; exact List.drop_eq_getElem_cons h
theorem compareFunc_l0 (x0 x1 : List S50) (hl : x0.length ≤ 9223372036854775807) : ∀ d i k, x0.length - i = d → i ≤ x0.length → i ≤ x1.length → d < k → slices_CompareFunc.l0 k x0 x1 x0 (x0.length : Int) (i : Int) = some (rcmp (x0.drop i) (x1.drop i)) := by
  intro d
  induction d with
  | zero =>
    intro i k hd hi hi1 hk
    obtain ⟨k, rfl⟩ : ∃ m, k = m + 1 := ⟨k - 1, by omega⟩
    simp only [slices_CompareFunc.l0]
    rw [if_neg (by omega)]
    have e0 : x0.drop i = [] := List.drop_eq_nil_of_le (by omega)
    rw [e0]
    by_cases h : i < x1.length
    · rw [if_pos (by omega), drop_rd h]; rfl
    · rw [if_neg (by omega), List.drop_eq_nil_of_le (by omega)]; rfl
  | succ d ih =>
    intro i k hd hi hi1 hk
    obtain ⟨k, rfl⟩ : ∃ m, k = m + 1 := ⟨k - 1, by omega⟩
    have hlt : i < x0.length := by omega
    simp only [slices_CompareFunc.l0]
    rw [if_pos (by omega), if_pos (by omega), if_pos (by omega), drop_rd hlt]
    by_cases h : i < x1.length
    · rw [if_neg (by omega), if_pos (by omega), vcmp_f, Option.bind_some, drop_rd h]
      by_cases h0 : vcmp (rd_T50 x0 i) (rd_T50 x1 i) = 0
      · rw [if_pos h0, wrap_succ hlt hl, ih (i + 1) k (by omega) (by omega) (by omega) (by omega)]
        simp [rcmp, lexC, h0]
      · rw [if_neg h0]
        simp [rcmp, lexC, h0]
    · rw [if_pos (by omega), List.drop_eq_nil_of_le (show x1.length ≤ i by omega)]
      rfl
theorem rowCompare_f (a b : List S50) (ha : a.length ≤ 9223372036854775807) (k : Nat) (hk : a.length < k) : row_Compare.f k a b = some (rcmp a b) := by
  unfold row_Compare.f slices_CompareFunc.f
  have h := compareFunc_l0 a b ha a.length 0 k (by omega) (by omega) (by omega) hk
  rw [show ((0 : Nat) : Int) = 0 from rfl] at h
  rw [h]
  rfl
end Go.Proofs.Ytfoaeigoajooeaa.Z

/- The document's order of values and rows is the same; rows that are one, cell by cell. -/
namespace Go.Proofs.Ytfoaeigoajooeaa.Z
open Go.RowKit Go.Proofs.YtfoaeigoajooeaaW.PrintWords Go.Proofs.YtfoaeigoajooeaaW.PrintLast Go.Proofs.YtfoaeigoajooeaaW.PrintMore Go.Proofs.Ytfoaeigoajooeaa.Cmp
theorem bt_get {s : ByteArray} {i : Nat} (h : i < s.size) : bt s (i : Int) = ((s.data.toList[i]'(by simpa using h)).toNat : Int) := by
  rw [← bt_at s (i : Int) (by simpa using h)]
  rfl
theorem bytes_drop {s : ByteArray} {i : Nat} (h : i < s.size) : s.data.toList.drop i = s.data.toList[i]'(by simpa using h) :: s.data.toList.drop (i + 1) := List.drop_eq_getElem_cons (by simpa using h)
theorem text_l0 (a b : ByteArray) (ha : a.size ≤ 9223372036854775807) : ∀ d i k, a.size - i = d → i ≤ a.size → i ≤ b.size → 2 * d + 1 < k → verdererref01_Text.l0 k a b (i : Int) = some (cmpB (a.data.toList.drop i) (b.data.toList.drop i)) := by
  intro d
  induction d with
  | zero =>
    intro i k hd hi hib hk
    obtain ⟨k, rfl⟩ : ∃ m, k = m + 2 := ⟨k - 2, by omega⟩
    have e0 : a.data.toList.drop i = [] := List.drop_eq_nil_of_le (by simp; omega)
    simp only [verdererref01_Text.l0]
    rw [if_neg (by omega), e0]
    simp only [verdererref01_Text.j1, Bool.false_eq_true, if_false]
    by_cases h : i < b.size
    · rw [if_pos (by omega), bytes_drop h]; rfl
    · rw [if_neg (by omega), if_neg (by omega), List.drop_eq_nil_of_le (by simp; omega)]; rfl
  | succ d ih =>
    intro i k hd hi hib hk
    obtain ⟨k, rfl⟩ : ∃ m, k = m + 2 := ⟨k - 2, by omega⟩
    have hlt : i < a.size := by omega
    simp only [verdererref01_Text.l0]
    rw [if_pos (by omega)]
    simp only [verdererref01_Text.j1]
    by_cases h : i < b.size
    · rw [if_pos (decide_eq_true (by omega)), if_pos (by omega), if_pos (by omega), if_pos (by omega), bt_get hlt, bt_get h, bytes_drop hlt, bytes_drop h]
      generalize a.data.toList[i]'(by simpa using hlt) = x
      generalize b.data.toList[i]'(by simpa using h) = y
      have e : cmpB (x :: a.data.toList.drop (i + 1)) (y :: b.data.toList.drop (i + 1)) = if cmpI x.toNat y.toNat = 0 then cmpB (a.data.toList.drop (i + 1)) (b.data.toList.drop (i + 1)) else cmpI x.toNat y.toNat := rfl
      rw [e, wrap_succ hlt ha, ih (i + 1) k (by omega) (by omega) (by omega) (by omega)]
      unfold cmpI
      by_cases h1 : (x.toNat : Int) < y.toNat
      · rw [if_pos h1, if_pos h1, if_neg (by omega)]
      · by_cases h2 : (y.toNat : Int) < x.toNat
        · rw [if_neg h1, if_neg h1, if_pos h2, if_pos h2, if_neg (by omega)]
        · rw [if_neg h1, if_neg h1, if_neg h2, if_neg h2, if_pos rfl]
    · rw [if_neg (by simp; omega), if_neg (by omega), if_pos (by omega), bytes_drop hlt, List.drop_eq_nil_of_le (show b.data.toList.length ≤ i by simp; omega)]
      rfl
theorem text_f (a b : ByteArray) (ha : a.size ≤ 9223372036854775807) (k : Nat) (hk : 2 * a.size + 1 < k) : verdererref01_Text.f k a b = some (cmpB a.data.toList b.data.toList) := by
  have h := text_l0 a b ha a.size 0 k (by omega) (by omega) (by omega) hk
  rw [show ((0 : Nat) : Int) = 0 from rfl] at h
  exact h
theorem vcmp_ref (a b : S50) (ha : a.f3.size ≤ 9223372036854775807) (k : Nat) (hk : 2 * a.f3.size + 1 < k) : verdererref01_Compare.f k a.f0 a.f1 a.f2 a.f3 b.f0 b.f1 b.f2 b.f3 = some (vcmp a b) := by
  unfold verdererref01_Compare.f vcmp
  rw [text_f _ _ ha k hk]
  simp only [Option.bind_some]
  by_cases h1 : a.f0 < b.f0
  · rw [if_pos h1, if_neg (by omega)]
    unfold cmpI
    rw [if_pos h1]
  · by_cases h2 : a.f0 > b.f0
    · rw [if_neg h1, if_pos h2, if_neg (by omega)]
      unfold cmpI
      rw [if_neg h1, if_pos h2]
    · have e : (if a.f0 = b.f0 then kcmp a b else cmpI a.f0 b.f0) = kcmp a b := if_pos (by omega)
      rw [if_neg h1, if_neg h2, e]
      unfold kcmp
      by_cases k1 : a.f0 = 1
      · rw [if_pos k1, if_pos k1]
        cases a.f1 <;> cases b.f1 <;> rfl
      · by_cases k2 : a.f0 = 2
        · rw [if_neg k1, if_pos k2, if_neg k1, if_pos k2]
          unfold cmpI
          repeat' split
          all_goals first | rfl | omega
        · by_cases k3 : a.f0 = 3
          · rw [if_neg k1, if_neg k2, if_pos k3, if_neg k1, if_neg k2, if_pos k3]
          · rw [if_neg k1, if_neg k2, if_neg k3, if_neg k1, if_neg k2, if_neg k3]
theorem refCompare_l0 (x0 x1 : List S50) (hl : x0.length ≤ 9223372036854775807) (M : Nat) (hM : ∀ x ∈ x0, x.f3.size ≤ M) (hM2 : M ≤ 9223372036854775807) : ∀ d i k, x0.length - i = d → i ≤ x0.length → i ≤ x1.length → 2 * d + 2 * M + 3 < k → verdererref02_Compare.l0 k x0 x1 (i : Int) = some (rcmp (x0.drop i) (x1.drop i)) := by
  intro d
  induction d with
  | zero =>
    intro i k hd hi hib hk
    obtain ⟨k, rfl⟩ : ∃ m, k = m + 2 := ⟨k - 2, by omega⟩
    simp only [verdererref02_Compare.l0]
    rw [if_neg (by omega), List.drop_eq_nil_of_le (show x0.length ≤ i by omega)]
    simp only [verdererref02_Compare.j1, Bool.false_eq_true, if_false]
    by_cases h : i < x1.length
    · rw [if_pos (by omega), drop_rd h]; rfl
    · rw [if_neg (by omega), if_neg (by omega), List.drop_eq_nil_of_le (by omega)]; rfl
  | succ d ih =>
    intro i k hd hi hib hk
    obtain ⟨k, rfl⟩ : ∃ m, k = m + 2 := ⟨k - 2, by omega⟩
    have hlt : i < x0.length := by omega
    simp only [verdererref02_Compare.l0]
    rw [if_pos (by omega)]
    simp only [verdererref02_Compare.j1]
    have hx : (rd_T50 x0 (i : Int)).f3.size ≤ M := by rw [rd_get hlt]; exact hM _ (List.getElem_mem hlt)
    by_cases h : i < x1.length
    · rw [if_pos (decide_eq_true (by omega)), if_pos (by omega), if_pos (by omega), if_pos (by omega), vcmp_ref _ _ (by omega) k (by omega), Option.bind_some, drop_rd hlt, drop_rd h]
      by_cases h0 : vcmp (rd_T50 x0 i) (rd_T50 x1 i) = 0
      · rw [if_pos h0, wrap_succ hlt hl, ih (i + 1) k (by omega) (by omega) (by omega) (by omega)]
        simp [rcmp, lexC, h0]
      · rw [if_neg h0]
        simp [rcmp, lexC, h0]
    · rw [if_neg (by simp; omega), if_neg (by omega), if_pos (by omega), drop_rd hlt, List.drop_eq_nil_of_le (show x1.length ≤ i by omega)]
      rfl
theorem refCompare_f (a b : List S50) (ha : a.length ≤ 9223372036854775807) (M : Nat) (hM : ∀ x ∈ a, x.f3.size ≤ M) (hM2 : M ≤ 9223372036854775807) (k : Nat) (hk : 2 * a.length + 2 * M + 3 < k) : verdererref02_Compare.f k a b = some (rcmp a b) := by
  have h := refCompare_l0 a b ha M hM hM2 a.length 0 k (by omega) (by omega) (by omega) hk
  rw [show ((0 : Nat) : Int) = 0 from rfl] at h
  exact h
/-- A bound of all texts of some values. -/
theorem texts_bound (l : List S50) (h : ∀ x ∈ l, x.f3.size ≤ 9223372036854775807) : ∃ M, (∀ x ∈ l, x.f3.size ≤ M) ∧ M ≤ 9223372036854775807 := ⟨9223372036854775807, h, Nat.le_refl _⟩
theorem equal_l0 (x : List S50) (hl : x.length ≤ 9223372036854775807) : ∀ d i k, x.length - i = d → i ≤ x.length → d < k → verdererref02_Equal.l0 k x x (i : Int) = some true := by
  intro d
  induction d with
  | zero =>
    intro i k hd hi hk
    obtain ⟨k, rfl⟩ : ∃ m, k = m + 1 := ⟨k - 1, by omega⟩
    simp only [verdererref02_Equal.l0]
    rw [if_neg (by omega)]
  | succ d ih =>
    intro i k hd hi hk
    obtain ⟨k, rfl⟩ : ∃ m, k = m + 1 := ⟨k - 1, by omega⟩
    simp only [verdererref02_Equal.l0]
    rw [if_pos (by omega), if_pos (by omega), if_pos (by omega), if_neg (by simp), wrap_succ (show i < x.length by omega) hl, ih (i + 1) k (by omega) (by omega) (by omega)]
theorem equal_self (x : List S50) (hl : x.length ≤ 9223372036854775807) (k : Nat) (hk : x.length < k) : verdererref02_Equal.f k x x = some true := by
  unfold verdererref02_Equal.f
  rw [if_pos rfl]
  have h := equal_l0 x hl x.length 0 k (by omega) (by omega) hk
  rw [show ((0 : Nat) : Int) = 0 from rfl] at h
  exact h
end Go.Proofs.Ytfoaeigoajooeaa.Z

/- Cells of rows, copies, and whether rows can be. -/
namespace Go.Proofs.Ytfoaeigoajooeaa.Z
open Go.RowKit Go.Proofs.YtfoaeigoajooeaaW.PrintWords Go.Proofs.YtfoaeigoajooeaaW.PrintLast Go.Proofs.YtfoaeigoajooeaaW.PrintMore Go.Proofs.Ytfoaeigoajooeaa.Cmp
theorem of_f (x : List S50) (hx : x.length < 3518437208883) : row_Of.f x = some x := by
  unfold row_Of.f slices_Clone.f
  simp only [Option.bind_some, List.length_nil, Nat.zero_add, List.nil_append]
  rw [if_pos hx]
  rfl
/-- Can a value be? -/
def vright (a : S50) : Bool := if a.f0 = 0 then !a.f1 && (a.f2 == 0 && a.f3.toList == ([] : List UInt8)) else if a.f0 = 1 then (a.f2 == 0 && a.f3.toList == ([] : List UInt8)) else if a.f0 = 2 then (!a.f1 && a.f3.toList == ([] : List UInt8)) else if a.f0 = 3 then (!a.f1 && (a.f2 == 0 && decide (a.f3.size ≤ 60))) else false
theorem vright_f (a : S50) : value_Right.f a.f0 a.f1 a.f2 a.f3 = some (vright a) := by
  unfold value_Right.f vright
  simp only [value_Null.f, value_Bool.f, value_Int.f, value_Text.f, Option.bind_some]
  by_cases k0 : a.f0 = 0
  · rw [if_pos k0, if_pos k0, k0]; cases a.f1 <;> simp
  · by_cases k1 : a.f0 = 1
    · rw [if_neg k0, if_neg k0, if_pos k1, if_pos k1, k1]; cases a.f1 <;> simp
    · by_cases k2 : a.f0 = 2
      · rw [if_neg k0, if_neg k0, if_neg k1, if_neg k1, if_pos k2, if_pos k2, k2]; cases a.f1 <;> simp
      · by_cases k3 : a.f0 = 3
        · rw [if_neg k0, if_neg k0, if_neg k1, if_neg k1, if_neg k2, if_neg k2, if_pos k3, if_pos k3, k3]
          cases a.f1 <;> simp
          · by_cases h : a.f2 = 0
            · rw [if_pos h]
              simp [h]
              omega
            · rw [if_neg h]
              simp [h]
        · rw [if_neg k0, if_neg k0, if_neg k1, if_neg k1, if_neg k2, if_neg k2, if_neg k3, if_neg k3]
theorem vright_ref (a : S50) : verdererref01_Right.f a.f0 a.f1 a.f2 a.f3 = some (vright a) := by
  have he : a.f3.toList = [] → a.f3.size = 0 := fun h => by have := data_length a.f3; rw [show a.f3.data.toList = a.f3.toList from by rw [ByteArray.toList_eq]] at this; rw [← this, h]; rfl
  unfold verdererref01_Right.f vright
  by_cases kl : a.f0 < 0
  · rw [if_pos kl, if_neg (by omega), if_neg (by omega), if_neg (by omega), if_neg (by omega)]
  · by_cases kg : a.f0 > 3
    · rw [if_neg kl, if_pos kg, if_neg (by omega), if_neg (by omega), if_neg (by omega), if_neg (by omega)]
    · rw [if_neg kl, if_neg kg]
      by_cases ht : a.f3.toList = []
      · have hs := he ht
        by_cases k1 : a.f0 = 1
        · rw [if_pos k1, if_neg (show ¬ a.f0 = 2 by omega), if_neg (show ¬ a.f0 = 3 by omega), if_neg (show ¬ a.f0 = 0 by omega), if_pos k1]
          by_cases h2 : a.f2 = 0 <;> simp [h2, ht, hs]
        · by_cases k2 : a.f0 = 2
          · rw [if_neg k1, if_pos k2, if_neg (show ¬ a.f0 = 3 by omega), if_neg (show ¬ a.f0 = 0 by omega), if_neg k1, if_pos k2]
            cases a.f1 <;> simp [ht, hs]
          · rw [if_neg k1, if_neg k2]
            by_cases k3 : a.f0 = 3
            · rw [if_neg (show ¬ a.f0 = 0 by omega), if_neg k1, if_neg k2, if_pos k3, if_pos k3]
              cases a.f1 <;> by_cases h2 : a.f2 = 0 <;> simp [h2, hs]
            · rw [if_pos (show a.f0 = 0 by omega), if_neg k3]
              cases a.f1 <;> by_cases h2 : a.f2 = 0 <;> simp [h2, ht, hs]
      · by_cases k1 : a.f0 = 1
        · rw [if_pos k1, if_neg (show ¬ a.f0 = 2 by omega), if_neg (show ¬ a.f0 = 3 by omega), if_neg (show ¬ a.f0 = 0 by omega), if_pos k1]
          by_cases h2 : a.f2 = 0 <;> simp [h2, ht]
        · by_cases k2 : a.f0 = 2
          · rw [if_neg k1, if_pos k2, if_neg (show ¬ a.f0 = 3 by omega), if_neg (show ¬ a.f0 = 0 by omega), if_neg k1, if_pos k2]
            cases a.f1 <;> simp [ht]
          · rw [if_neg k1, if_neg k2]
            by_cases k3 : a.f0 = 3
            · rw [if_neg (show ¬ a.f0 = 0 by omega), if_neg k1, if_neg k2, if_pos k3, if_pos k3]
              cases a.f1 <;> by_cases h2 : a.f2 = 0 <;> simp [h2]
              omega
            · rw [if_pos (show a.f0 = 0 by omega), if_neg k3]
              cases a.f1 <;> by_cases h2 : a.f2 = 0 <;> simp [h2, ht]
theorem right1_f (a : S50) : row_Right_1.f a.f0 a.f1 a.f2 a.f3 = some (!vright a) := by
  unfold row_Right_1.f
  rw [vright_f]
  rfl
def rright (r : List S50) : Bool := decide (r.length ≤ 40) && r.all vright
theorem indexFunc_l0 (x : List S50) (hl : x.length ≤ 9223372036854775807) : ∀ d i k, x.length - i = d → i ≤ x.length → d < k → ∃ r, slices_IndexFunc.l0 k x (x.length : Int) (i : Int) = some r ∧ decide (r ≥ 0) = !((x.drop i).all vright) := by
  intro d
  induction d with
  | zero =>
    intro i k hd hi hk
    obtain ⟨k, rfl⟩ : ∃ m, k = m + 1 := ⟨k - 1, by omega⟩
    refine ⟨-1, ?_, ?_⟩
    · simp only [slices_IndexFunc.l0]
      rw [if_neg (by omega)]
    · rw [List.drop_eq_nil_of_le (by omega)]; rfl
  | succ d ih =>
    intro i k hd hi hk
    obtain ⟨k, rfl⟩ : ∃ m, k = m + 1 := ⟨k - 1, by omega⟩
    have hlt : i < x.length := by omega
    simp only [slices_IndexFunc.l0]
    rw [if_pos (by omega), if_pos (by omega), if_pos (by omega), right1_f, Option.bind_some, drop_rd hlt, List.all_cons]
    cases hv : vright (rd_T50 x i) with
    | false =>
      refine ⟨(i : Int), ?_, ?_⟩
      · rfl
      · simp
    | true =>
      simp only [Bool.not_true, Bool.false_eq_true, if_false, Bool.true_and]
      rw [wrap_succ hlt hl]
      exact ih (i + 1) k (by omega) (by omega) (by omega)
theorem rright_f (r : List S50) (k : Nat) (hk : 40 < k) : row_Right.f k r = some (rright r) := by
  unfold row_Right.f rright slices_ContainsFunc.f slices_IndexFunc.f
  by_cases h : r.length ≤ 40
  · obtain ⟨q, h1, h2⟩ := indexFunc_l0 r (by omega) r.length 0 k (by omega) (by omega) (by omega)
    rw [show ((0 : Nat) : Int) = 0 from rfl] at h1
    rw [if_pos (by omega), h1]
    simp only [Option.bind_some, h2]
    simp [h]
  · rw [if_neg (by omega)]
    simp [h]
theorem refRight_l0 (x : List S50) (hl : x.length ≤ 9223372036854775807) : ∀ d i k, x.length - i = d → i ≤ x.length → d < k → verdererref02_Right.l0 k x (i : Int) = some ((x.drop i).all vright) := by
  intro d
  induction d with
  | zero =>
    intro i k hd hi hk
    obtain ⟨k, rfl⟩ : ∃ m, k = m + 1 := ⟨k - 1, by omega⟩
    simp only [verdererref02_Right.l0]
    rw [if_neg (by omega), List.drop_eq_nil_of_le (by omega)]
    rfl
  | succ d ih =>
    intro i k hd hi hk
    obtain ⟨k, rfl⟩ : ∃ m, k = m + 1 := ⟨k - 1, by omega⟩
    have hlt : i < x.length := by omega
    simp only [verdererref02_Right.l0]
    rw [if_pos (by omega), if_pos (by omega), vright_ref, Option.bind_some, drop_rd hlt, List.all_cons]
    cases vright (rd_T50 x i) with
    | false => rfl
    | true =>
      simp only [if_true, Bool.true_and]
      rw [wrap_succ hlt hl]
      exact ih (i + 1) k (by omega) (by omega) (by omega)
theorem rright_ref (r : List S50) (k : Nat) (hk : 40 < k) : verdererref02_Right.f k r = some (rright r) := by
  unfold verdererref02_Right.f rright
  by_cases h : r.length ≤ 40
  · have h1 := refRight_l0 r (by omega) r.length 0 k (by omega) (by omega) (by omega)
    rw [show ((0 : Nat) : Int) = 0 from rfl] at h1
    rw [if_neg (by omega), h1]
    simp [h]
  · rw [if_pos (by omega)]
    simp [h]
end Go.Proofs.Ytfoaeigoajooeaa.Z

/- The fixed calls of chapter 2's statements come as they must. -/
namespace Go.Proofs.Ytfoaeigoajooeaa.Z
open Go.RowKit Go.Proofs.YtfoaeigoajooeaaW.PrintWords Go.Proofs.YtfoaeigoajooeaaW.PrintLast Go.Proofs.YtfoaeigoajooeaaW.PrintMore
theorem known02 (k : Nat) (hk : 60 ≤ k) : verdererlaw02_known.f k = some true := at_rounds (fun k => verdererlaw02_known.mono k) hk (by decide +kernel)
end Go.Proofs.Ytfoaeigoajooeaa.Z

/- The plain law of RowOrders. -/
namespace Go.Proofs.Ytfoaeigoajooeaa.Z
open Go.RowKit Go.Proofs.YtfoaeigoajooeaaW.PrintWords Go.Proofs.YtfoaeigoajooeaaW.PrintLast Go.Proofs.YtfoaeigoajooeaaW.PrintMore Go.Proofs.Ytfoaeigoajooeaa.Cmp

theorem rowOrders_j0 (l0 l1 : List S50) (b : Bool) (M : Nat) (hM : ∀ x ∈ l0, x.f3.size ≤ M) (hM2 : M ≤ 9223372036854775807) (h0 : b = false → l0.length ≤ 200) (k : Nat) (hk : 2 * M + 1000 < k) : verdererlaw02_RowOrders.j0 (k + 1) l0 l1 b = some true := by
  rw [verdererlaw02_RowOrders.j0]
  cases b with
  | true => simp only [if_true, known02 k (by omega), Option.bind_some]
  | false =>
    have h0 := h0 rfl
    simp only [Bool.false_eq_true, if_false]
    unfold row_Same.f verdererref02_Same.f
    rw [rowCompare_f l0 l1 (by omega) k (by omega), refCompare_f l0 l1 (by omega) M hM hM2 k (by omega), rright_f l0 k (by omega), rright_ref l0 k (by omega), of_f l0 (by omega)]
    simp only [known02 k (by omega), Option.bind_some, beq_self_eq_true, if_true, equal_self l0 (by omega) k (by omega)]
theorem rowOrders_pure : ∀ (l0 : (List S50)) (l1 : (List S50)), (l0.length ≤ maxLen ∧ ∀ x ∈ l0, G50 x) → (l1.length ≤ maxLen ∧ ∀ x ∈ l1, G50 x) → ∃ k, verdererlaw02_RowOrders.f k l0 l1 = some true := by
  intro l0 l1 g0 _
  obtain ⟨M, hM, hM2⟩ := texts_bound l0 (fun x hx => (g0.2 x hx).2.2.2)
  refine ⟨2 * M + 1001 + 1, ?_⟩
  unfold verdererlaw02_RowOrders.f
  split
  · exact rowOrders_j0 _ _ _ M hM hM2 (by simp) _ (by omega)
  · exact rowOrders_j0 _ _ _ M hM hM2 (fun _ => by omega) _ (by omega)

end Go.Proofs.Ytfoaeigoajooeaa.Z

namespace Go.Proofs.Ytfoaeigoajooeaa.rowOrders
open Go.ChangeShapes Go.WideShapes Go.ChangeAt Go.RowKit Go.Proofs.YtfoaeigoajooeaaW.PrintWords
open Go.ChangeMaps (open_string shut_string)
set_option linter.unusedVariables false
theorem own : ownKnob Try.prog.godebug = none := by kernel_rfl
theorem laidOut : laidOutB Try.prog = true := by kernel_rfl
set_option maxRecDepth 100000 in
theorem lifted (os : Os) (started : os.Started) (H : Type) (enc : TypeId × Value → H) :
    ReturnsInHanded {} Try.checked os 6 .any (Rows.rowOrdersSpec.pre6 enc Try.prog Try.f6 Rows.rowOrdersRow.domain false) (Rows.rowOrdersSpec.post enc Try.prog Try.f6 false true false false) := by
  refine returnsInHanded_of_change (C := Try.checked) own started (by kernel_rfl) Try.func6
    (ChangeSpec.witness6 (enc := enc) (C := Try.checked) false ⟨#[], #[.slice none 0 0, .slice none 0 0], []⟩ 8 (by kernel_rfl) (by kernel_rfl) (by kernel_rfl) (by kernel_rfl)) ?_
  intro W base args ds gs before hval0 hW hcnd _
  have hval : ∀ (j : Nat) t v, Try.f6.params[j]? = some t → args[j]? = some v → Value.okWide Try.prog W .any base t v := hval0
  have hW' := hW
  obtain ⟨p, q, hA0, hV, rfl, hfz, hnd⟩ := hW
  have hA : DataW.TrodAll enc Try.prog W 0 (fun _ => true) true Try.f6.params.toList args.toList ds p := hA0
  rw [Try.params6] at hA hval
  obtain ⟨v0, vs0, d0, ds0, p0, q0, hargs, rfl, rfl, h0, r0⟩ := trodAll_cons hA
  obtain ⟨v1, vs1, d1, ds1, p1, q1, rfl, rfl, rfl, h1, r1⟩ := trodAll_cons r0
  obtain ⟨rfl, rfl, rfl⟩ := trodAll_nil r1
  obtain rfl : args = #[v0, v1] := by cases args; simp_all
  obtain ⟨rfl, rfl⟩ := trodVars_none hV
  obtain ⟨a0, len0, cap0, rfl⟩ := okWide_slice Try.underlying22 (hval 0 22 v0 rfl rfl)
  have k0 := h0
  have lt0 : ∀ x ∈ p0, x.block < W.heap.size := by obtain ⟨m, hm⟩ := k0; exact DataW.trod_lt m _ _ _ hm
  obtain ⟨l0, hK0, hG0⟩ : ∃ l, ((Kd.slice 50 Z.k50) : Kd (List Z.S50)).K W l [.slice a0 len0 cap0] ∧ (l.length ≤ maxLen ∧ ∀ x ∈ l, Z.G50 x) := by obtain ⟨fuel, hf⟩ := h0; exact (show OfTrod Try.prog 22 (Kd.slice 50 Z.k50) _ from (ofTrod_slice Try.underlying22 (by kernel_rfl) Z.of50)) _ _ _ _ _ _ _ _ _ hf
  obtain ⟨A0, c0, he0, hl0, hC0⟩ := hK0
  simp only [List.cons.injEq, Value.slice.injEq, and_true] at he0
  obtain ⟨rfl, rfl, rfl⟩ := he0
  obtain ⟨a1, len1, cap1, rfl⟩ := okWide_slice Try.underlying22 (hval 1 22 v1 rfl rfl)
  have k1 := h1
  have lt1 : ∀ x ∈ p1, x.block < W.heap.size := by obtain ⟨m, hm⟩ := k1; exact DataW.trod_lt m _ _ _ hm
  obtain ⟨l1, hK1, hG1⟩ : ∃ l, ((Kd.slice 50 Z.k50) : Kd (List Z.S50)).K W l [.slice a1 len1 cap1] ∧ (l.length ≤ maxLen ∧ ∀ x ∈ l, Z.G50 x) := by obtain ⟨fuel, hf⟩ := h1; exact (show OfTrod Try.prog 22 (Kd.slice 50 Z.k50) _ from (ofTrod_slice Try.underlying22 (by kernel_rfl) Z.of50)) _ _ _ _ _ _ _ _ _ hf
  obtain ⟨A1, c1, he1, hl1, hC1⟩ := hK1
  simp only [List.cons.injEq, Value.slice.injEq, and_true] at he1
  obtain ⟨rfl, rfl, rfl⟩ := he1
  clear hA0 hval0
  obtain ⟨k, h⟩ := Z.rowOrders_pure l0 l1 hG0 hG1
  refine (Z.verdererlaw02_RowOrders.calls k _ _ l0 _ _ l1 true W hC0 hl0 hC1 hl1 h).mono fun e W' ⟨he, bel⟩ => ?_
  subst he
  exact ⟨_, rfl, _, _, _, [], _, [], hW', trodAll_mk1 (shut_bool Try.underlying4 _), (trodAll_cons_mk (Below.trod laidOut (by kernel_rfl) (of_decide_eq_true (by kernel_rfl)) k0 bel lt0) (trodAll_cons_mk (Below.trod laidOut (by kernel_rfl) (of_decide_eq_true (by kernel_rfl)) k1 bel lt1) trodAll_mk0)), rfl, bel.frame _, fun h => by cases h⟩
theorem over : Rows.rowOrdersRow.holds Try.pinned (OpenSpec.ofChange Rows.rowOrdersSpec) :=
  OpenClaim.holds_of_wide 6 Try.f6 rfl rfl rfl rfl rfl rfl rfl ⟨rfl, rfl, rfl, rfl, rfl⟩ rfl rfl rfl rfl rfl (by kernel_rfl) Try.func6 (by kernel_rfl)
    (of_decide_eq_true (by kernel_rfl)) (by unfold Func.isWrapper; first | (rw [if_pos (by decide +kernel)]; kernel_rfl) | (rw [if_neg (by decide +kernel)]; exact ⟨rfl, rfl⟩))
    (fun os started H enc _ => lifted os started H enc)
theorem proved : Rows.RowOrdersSaid := over
#print axioms proved
end Go.Proofs.Ytfoaeigoajooeaa.rowOrders
namespace Go.Proofs.Ytfoaeigoajooeaa
/-- The row, under a short name, for the claim. -/
theorem rowOrders_holds : Rows.RowOrdersSaid := rowOrders.proved
end Go.Proofs.Ytfoaeigoajooeaa
