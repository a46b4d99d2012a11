/- Parts of the proof of QuotaKeeps: what its functions answer. -/
import Derived.Test.YtcenlehfbgnphaaMQuotaKeepsa
import Derived.Test.YtcenlehfbgnphaaMQuotaKeepsb
import Derived.Test.YtcenlehfbgnphaaMQuotaKeepsc
import Derived.Deep.Slices
import Derived.ProofKit
section
namespace Go.Proofs.Ytcenlehfbgnphaa.Z
open Go.RowKit Go.Proofs.YtcenlehfbgnphaaW.PrintWords Go.Proofs.YtcenlehfbgnphaaW.PrintLast Go.Proofs.YtcenlehfbgnphaaW.PrintMore
attribute [local go_sem] max2_int min2_int max_two min_two max_three min_three max_four min_four
set_option linter.unusedVariables false
set_option linter.unusedSimpArgs false
mutual
def verdererlaw28_QuotaKeeps.j0 : Nat → List (List (S45)) → ByteArray → ByteArray → Bool → Option (Bool)
  | 0,_,_,_,_ => none
  | k + 1,x0,x1,x2,x20 => if x20 = true then ((verdererlaw28_known.f k).bind fun t412 => (some t412)) else (verdererlaw28_QuotaKeeps.l0 k x0 x1 x2 0 0)
def verdererlaw28_QuotaKeeps.l0 : Nat → List (List (S45)) → ByteArray → ByteArray → Int → Int → Option (Bool)
  | 0,_,_,_,_,_ => none
  | k + 1,x0,x1,x2,x7,x8 => if x8 < (x0.length : Int) then (if 0 ≤ x8 then (if ((rd_L5 x0 x8).length : Int) > 60 then ((verdererlaw28_known.f k).bind fun t415 => (some t415)) else ((verdererref27_Find.f k x1 x2 (rd_L5 x0 x8)).bind fun bt417 => (if bt417.2.2.2.2 = true then (if x8 > 0 then (verdererlaw28_QuotaKeeps.j2 k x0 x1 x2 x8 (bt417.2.2.2.1 != x7) bt417.1 bt417.2.1 bt417.2.2.1 bt417.2.2.2.1) else (verdererlaw28_QuotaKeeps.j2 k x0 x1 x2 x8 false bt417.1 bt417.2.1 bt417.2.2.1 bt417.2.2.2.1)) else (verdererlaw28_QuotaKeeps.j2 k x0 x1 x2 x8 true bt417.1 bt417.2.1 bt417.2.2.1 bt417.2.2.2.1)))) else (none)) else ((verdererlaw28_known.f k).bind fun t413 => (some t413))
def verdererlaw28_QuotaKeeps.j2 : Nat → List (List (S45)) → ByteArray → ByteArray → Int → Bool → ByteArray → ByteArray → Int → Int → Option (Bool)
  | 0,_,_,_,_,_,_,_,_,_ => none
  | k + 1,x0,x1,x2,x8,x56,x423000,x423001,x423002,x423003 => if x56 = true then ((verdererlaw28_known.f k).bind fun t423 => (some t423)) else (if x8 = 0 then (verdererlaw28_QuotaKeeps.j3 k x0 x1 x2 x423003 x8 (decide (x423002 > x423003)) x423000 x423001 x423002 x423003) else (verdererlaw28_QuotaKeeps.j3 k x0 x1 x2 x423003 x8 false x423000 x423001 x423002 x423003))
def verdererlaw28_QuotaKeeps.j3 : Nat → List (List (S45)) → ByteArray → ByteArray → Int → Int → Bool → ByteArray → ByteArray → Int → Int → Option (Bool)
  | 0,_,_,_,_,_,_,_,_,_,_ => none
  | k + 1,x0,x1,x2,x7,x8,x67,x423000,x423001,x423002,x423003 => if x67 = true then ((verdererlaw28_known.f k).bind fun t424 => (some t424)) else (if x8 > 0 then (if 0 ≤ (wrap64 (x8 - 1)) then (if (wrap64 (x8 - 1)) < (x0.length : Int) then (if 0 ≤ x8 then (if x8 < (x0.length : Int) then ((quota_Judge.f k (rd_L5 x0 (wrap64 (x8 - 1))) (rd_L5 x0 x8)).bind fun bt427 => (if bt427.2.2.2.2 = 0 then (if x423002 > x7 then (none) else (verdererlaw28_QuotaKeeps.l0 k x0 x1 x2 x7 (wrap64 (x8 + 1)))) else ((verdererlaw28_known.f k).bind fun t433 => (some t433)))) else (none)) else (none)) else (none)) else (none)) else (if x423002 > x7 then (none) else (verdererlaw28_QuotaKeeps.l0 k x0 x1 x2 x7 (wrap64 (x8 + 1)))))
end
def verdererlaw28_QuotaKeeps.f (k : Nat) (l0 : List (List (S45))) (a1 : ByteArray) (a2 : ByteArray) : Option (Bool) := if (l0.length : Int) = 0 then (verdererlaw28_QuotaKeeps.j0 k l0 a1 a2 true) else (verdererlaw28_QuotaKeeps.j0 k l0 a1 a2 (decide ((l0.length : Int) > 30)))
theorem verdererlaw28_QuotaKeeps.mono_l : ∀ k,(∀ y0 y1 y2 y3,LeO (verdererlaw28_QuotaKeeps.j0 k y0 y1 y2 y3) (verdererlaw28_QuotaKeeps.j0 (k + 1) y0 y1 y2 y3)) ∧ (∀ y0 y1 y2 y3 y4,LeO (verdererlaw28_QuotaKeeps.l0 k y0 y1 y2 y3 y4) (verdererlaw28_QuotaKeeps.l0 (k + 1) y0 y1 y2 y3 y4)) ∧ (∀ y0 y1 y2 y3 y4 y5 y6 y7 y8,LeO (verdererlaw28_QuotaKeeps.j2 k y0 y1 y2 y3 y4 y5 y6 y7 y8) (verdererlaw28_QuotaKeeps.j2 (k + 1) y0 y1 y2 y3 y4 y5 y6 y7 y8)) ∧ (∀ y0 y1 y2 y3 y4 y5 y6 y7 y8 y9,LeO (verdererlaw28_QuotaKeeps.j3 k y0 y1 y2 y3 y4 y5 y6 y7 y8 y9) (verdererlaw28_QuotaKeeps.j3 (k + 1) y0 y1 y2 y3 y4 y5 y6 y7 y8 y9))
  | 0 => ⟨fun _ _ _ _ r h => by simp [verdererlaw28_QuotaKeeps.j0] at h,fun _ _ _ _ _ r h => by simp [verdererlaw28_QuotaKeeps.l0] at h,fun _ _ _ _ _ _ _ _ _ r h => by simp [verdererlaw28_QuotaKeeps.j2] at h,fun _ _ _ _ _ _ _ _ _ _ r h => by simp [verdererlaw28_QuotaKeeps.j3] at h⟩
  | k + 1 => by
    obtain ⟨ih0,ih1,ih2,ih3⟩ := verdererlaw28_QuotaKeeps.mono_l k
    refine ⟨?_,?_,?_,?_⟩
    · intro y0 y1 y2 y3
      unfold verdererlaw28_QuotaKeeps.j0
      repeat' first
      | (with_reducible exact ih0 _ _ _ _)
      | (with_reducible exact ih1 _ _ _ _ _)
      | (with_reducible exact ih2 _ _ _ _ _ _ _ _ _)
      | (with_reducible exact ih3 _ _ _ _ _ _ _ _ _ _)
      | (with_reducible exact quota_Judge.mono _ _ _)
      | (with_reducible exact verdererlaw28_known.mono _)
      | (with_reducible exact verdererref27_Find.mono _ _ _ _)
      | (with_reducible exact LeO.refl _)
      | (with_reducible exact LeO.none _)
      | (with_reducible refine LeO.ite ?_ ?_)
      | (with_reducible refine LeO.bind ?_ (fun _ => ?_))
      | exact ih0 _ _ _ _
      | exact ih1 _ _ _ _ _
      | exact ih2 _ _ _ _ _ _ _ _ _
      | exact ih3 _ _ _ _ _ _ _ _ _ _
      | exact quota_Judge.mono _ _ _
      | exact verdererlaw28_known.mono _
      | exact verdererref27_Find.mono _ _ _ _
      | exact LeO.none _
      | refine LeO.ite ?_ ?_
      | refine LeO.bind ?_ (fun _ => ?_)
    · intro y0 y1 y2 y3 y4
      unfold verdererlaw28_QuotaKeeps.l0
      repeat' first
      | (with_reducible exact ih0 _ _ _ _)
      | (with_reducible exact ih1 _ _ _ _ _)
      | (with_reducible exact ih2 _ _ _ _ _ _ _ _ _)
      | (with_reducible exact ih3 _ _ _ _ _ _ _ _ _ _)
      | (with_reducible exact quota_Judge.mono _ _ _)
      | (with_reducible exact verdererlaw28_known.mono _)
      | (with_reducible exact verdererref27_Find.mono _ _ _ _)
      | (with_reducible exact LeO.refl _)
      | (with_reducible exact LeO.none _)
      | (with_reducible refine LeO.ite ?_ ?_)
      | (with_reducible refine LeO.bind ?_ (fun _ => ?_))
      | exact ih0 _ _ _ _
      | exact ih1 _ _ _ _ _
      | exact ih2 _ _ _ _ _ _ _ _ _
      | exact ih3 _ _ _ _ _ _ _ _ _ _
      | exact quota_Judge.mono _ _ _
      | exact verdererlaw28_known.mono _
      | exact verdererref27_Find.mono _ _ _ _
      | exact LeO.none _
      | refine LeO.ite ?_ ?_
      | refine LeO.bind ?_ (fun _ => ?_)
    · intro y0 y1 y2 y3 y4 y5 y6 y7 y8
      unfold verdererlaw28_QuotaKeeps.j2
      repeat' first
      | (with_reducible exact ih0 _ _ _ _)
      | (with_reducible exact ih1 _ _ _ _ _)
      | (with_reducible exact ih2 _ _ _ _ _ _ _ _ _)
      | (with_reducible exact ih3 _ _ _ _ _ _ _ _ _ _)
      | (with_reducible exact quota_Judge.mono _ _ _)
      | (with_reducible exact verdererlaw28_known.mono _)
      | (with_reducible exact verdererref27_Find.mono _ _ _ _)
      | (with_reducible exact LeO.refl _)
      | (with_reducible exact LeO.none _)
      | (with_reducible refine LeO.ite ?_ ?_)
      | (with_reducible refine LeO.bind ?_ (fun _ => ?_))
      | exact ih0 _ _ _ _
      | exact ih1 _ _ _ _ _
      | exact ih2 _ _ _ _ _ _ _ _ _
      | exact ih3 _ _ _ _ _ _ _ _ _ _
      | exact quota_Judge.mono _ _ _
      | exact verdererlaw28_known.mono _
      | exact verdererref27_Find.mono _ _ _ _
      | exact LeO.none _
      | refine LeO.ite ?_ ?_
      | refine LeO.bind ?_ (fun _ => ?_)
    · intro y0 y1 y2 y3 y4 y5 y6 y7 y8 y9
      unfold verdererlaw28_QuotaKeeps.j3
      repeat' first
      | (with_reducible exact ih0 _ _ _ _)
      | (with_reducible exact ih1 _ _ _ _ _)
      | (with_reducible exact ih2 _ _ _ _ _ _ _ _ _)
      | (with_reducible exact ih3 _ _ _ _ _ _ _ _ _ _)
      | (with_reducible exact quota_Judge.mono _ _ _)
      | (with_reducible exact verdererlaw28_known.mono _)
      | (with_reducible exact verdererref27_Find.mono _ _ _ _)
      | (with_reducible exact LeO.refl _)
      | (with_reducible exact LeO.none _)
      | (with_reducible refine LeO.ite ?_ ?_)
      | (with_reducible refine LeO.bind ?_ (fun _ => ?_))
      | exact ih0 _ _ _ _
      | exact ih1 _ _ _ _ _
      | exact ih2 _ _ _ _ _ _ _ _ _
      | exact ih3 _ _ _ _ _ _ _ _ _ _
      | exact quota_Judge.mono _ _ _
      | exact verdererlaw28_known.mono _
      | exact verdererref27_Find.mono _ _ _ _
      | exact LeO.none _
      | refine LeO.ite ?_ ?_
      | refine LeO.bind ?_ (fun _ => ?_)
theorem verdererlaw28_QuotaKeeps.mono : ∀ a0 a1 a2 k,LeO (verdererlaw28_QuotaKeeps.f k a0 a1 a2) (verdererlaw28_QuotaKeeps.f (k + 1) a0 a1 a2) := by
  intro a0 a1 a2 k
  obtain ⟨ih0,ih1,ih2,ih3⟩ := verdererlaw28_QuotaKeeps.mono_l k
  unfold verdererlaw28_QuotaKeeps.f
  repeat' first
      | (with_reducible exact ih0 _ _ _ _)
      | (with_reducible exact ih1 _ _ _ _ _)
      | (with_reducible exact ih2 _ _ _ _ _ _ _ _ _)
      | (with_reducible exact ih3 _ _ _ _ _ _ _ _ _ _)
      | (with_reducible exact quota_Judge.mono _ _ _)
      | (with_reducible exact verdererlaw28_known.mono _)
      | (with_reducible exact verdererref27_Find.mono _ _ _ _)
      | (with_reducible exact LeO.refl _)
      | (with_reducible exact LeO.none _)
      | (with_reducible refine LeO.ite ?_ ?_)
      | (with_reducible refine LeO.bind ?_ (fun _ => ?_))
      | exact ih0 _ _ _ _
      | exact ih1 _ _ _ _ _
      | exact ih2 _ _ _ _ _ _ _ _ _
      | exact ih3 _ _ _ _ _ _ _ _ _ _
      | exact quota_Judge.mono _ _ _
      | exact verdererlaw28_known.mono _
      | exact verdererref27_Find.mono _ _ _ _
      | exact LeO.none _
      | refine LeO.ite ?_ ?_
      | refine LeO.bind ?_ (fun _ => ?_)
def verdererlaw28_QuotaKeeps.T16 : Bool × List (List Nat × List Nat) := (true,[([],[]),([],[]),([1],[1]),([0,2],[0,2]),([3],[3]),([],[]),([],[]),([5,6],[5,6]),([7],[7]),([4,8],[4,8]),([9],[9]),([10],[10]),([10],[10]),([],[]),([13,11,9,0,1,2,3,4,5,6,7,8,9,10,11,13],[11,13]),([12,14,0,1,2,3,4,5,6,7,8,9,10,11,12,13,14],[12])])
def verdererlaw28_QuotaKeeps.B16 : List Nat := [0,0,2,7,15,0,0,96,224,511,1023,2047,2047,0,12287,32767]
theorem verdererlaw28_QuotaKeeps.tab16 : rtab .any (opsOf Try.f11 16) = verdererlaw28_QuotaKeeps.T16 := by kernel_rfl
theorem verdererlaw28_QuotaKeeps.bits16 : waitsOk verdererlaw28_QuotaKeeps.T16.2 verdererlaw28_QuotaKeeps.B16 = true := by kernel_rfl
set_option maxHeartbeats 8000000 in
set_option maxRecDepth 100000 in
theorem verdererlaw28_QuotaKeeps.calls (k : Nat) (A0 : Option Addr) (c0 : Nat) (l0 : List (List (S45))) (a1 : ByteArray) (a2 : ByteArray) (r : Bool) (w : World) (hr0 : Kd.C (Kd.slice 45 k45) w A0 l0.length l0) (hc0 : l0.length ≤ c0) (h : verdererlaw28_QuotaKeeps.f k l0 a1 a2 = some r) :
    Calls Try.prog 11 #[.slice A0 l0.length c0,.string a1,.string a2] w fun e w' => e = .returned (.bool r) ∧ Below w.heap.size w w' := by
  have hu45 := Try.underlying45
  have HR0 := Aside0.mk hr0
  have HC0 := Aside0.mk hc0
  clear hr0 hc0
  have HB := Aside0.mk (Below.refl w.heap.size w)
  have H : (if (l0.length : Int) = 0 then (verdererlaw28_QuotaKeeps.j0 k l0 a1 a2 true) else (verdererlaw28_QuotaKeeps.j0 k l0 a1 a2 (decide ((l0.length : Int) > 30)))) = some r := h
  clear h
  have HC4 := Aside0.mk H
  clear H
  go_enter Try.func11,Try.ntmps11
  go_upto_region 1 with (fail)
  go_cut [20] (fun v20 wc => ∃ (kq : Nat) (x20_3 : Bool),v20 = .bool x20_3 ∧ Aside0 (verdererlaw28_QuotaKeeps.j0 kq l0 a1 a2 x20_3 = some r) ∧ Aside0 (kq ≤ k) ∧ Aside0 (Below w.heap.size w wc))
  case first =>
    have H := HC4.out
    clear HC4
    by_cases c5 : (l0.length : Int) = 0
    · rw [if_pos c5] at H
      have c5b0 : ((l0.length : Int) == 0) = true := beq_iff_eq.mpr c5
      have c5b1 : ((l0.length : Int) != 0) = false := bne_eq_false_iff_eq.mpr c5
      clear c5
      (first | rw [c5b0] | (simp only [i64_w,i32_w];rw [c5b0]) | skip)
      have H' := Aside0.mk H
      clear H
      go_wp2
      go_meet
      case rel => exact ⟨_,(true),(by first | rfl | (simp;done) | (simp [*];done)),H',⟨by first | omega | exact Nat.le_refl _⟩,⟨by repeat (first | (with_reducible first | exact HB.out | apply below_alloc | apply pw_below_drewN | apply below_drew1) | exact HB.out)⟩⟩
    · rw [if_neg c5] at H
      have c5b0 : ((l0.length : Int) == 0) = false := beq_eq_false_iff_ne.mpr c5
      have c5b1 : ((l0.length : Int) != 0) = true := bne_iff_ne.mpr c5
      have c5b2 : ¬ (l0 = []) := fun h_ => c5 (by rw [h_];rfl)
      (first | rw [c5b0] | (simp only [i64_w,i32_w];rw [c5b0]) | skip)
      have H' := Aside0.mk H
      clear H
      go_wp2
      go_meet
      case rel => exact ⟨_,(decide ((l0.length : Int) > 30)),(by first | rfl | (simp;done) | (simp [*];done)),H',⟨by first | omega | exact Nat.le_refl _⟩,⟨by repeat (first | (with_reducible first | exact HB.out | apply below_alloc | apply pw_below_drewN | apply below_drew1) | exact HB.out)⟩⟩
  case rest =>
    clear HC4
    try clear c1
    try clear p2
    try clear c5
    try clear c5b0
    try clear c5b1
    try clear c5b2
    obtain ⟨kq,x20_3,rfl,HA,HJ3,HB⟩ := hcut
    cases kq with
    | zero => exact absurd HA.out (by simp [verdererlaw28_QuotaKeeps.j0])
    | succ kj3 =>
      have H := HA.out
      clear HA
      simp only [verdererlaw28_QuotaKeeps.j0] at H
      by_cases c6 : x20_3 = true
      · subst c6
        have H1 : ((verdererlaw28_known.f kj3).bind fun t412 => (some t412)) = some r := by rw [if_pos rfl] at H;exact H
        clear H
        have H := H1
        clear H1
        replace H := Option.bind_eq_some_iff.mp H
        obtain ⟨t412,A70,H⟩ := H
        replace H : (some t412) = some r := H
        have A7 := Aside0.mk A70
        clear A70
        obtain rfl := Option.some.inj H
        go_wp2_with (first | ((with_reducible refine gate_callee (f := 44) rfl ?_);refine goesL_ (some 21) rfl rfl Try.func44 (by kernel_rfl) rfl #[] rfl (by (try simp only [List.map_toArray,List.map_cons,List.map_nil]);first | done | rfl | (simp only [List.length_drop,List.length_take];rfl)) ?_;(with_reducible refine (verdererlaw28_known.calls kj3  t412 _ A7.out).mono ?_);rintro e w8 ⟨rfl,hb⟩;refine ⟨_,rfl,?_⟩;have n0_ := Aside0.mk (below_step (by repeat (first | (with_reducible first | exact HB.out | apply below_alloc | apply pw_below_drewN | apply below_drew1) | exact HB.out)) hb);clear HB;have HB := n0_;clear n0_;(try clear hb);(try clear hb2);(try clear hk);(try clear hi)))
        go_ret
        exact ⟨by first | rfl | (simp [errW_none,errW_some] <;> rfl) | (simp [*,errW_none,errW_some] <;> rfl),by repeat (first | (with_reducible first | exact HB.out | apply below_alloc | apply pw_below_drewN | apply below_drew1) | exact HB.out)⟩
      · replace c6 := Bool.eq_false_iff.mpr c6
        subst c6
        have H1 : (verdererlaw28_QuotaKeeps.l0 kj3 l0 a1 a2 0 0) = some r := by rw [if_neg (show ¬ (false = true) by decide)] at H;exact H
        clear H
        have H := H1
        clear H1
        have H' := Aside0.mk H
        clear H
        go_wp2
        go_loopg [7,8] kj3 (fun kq v7 v8 w' => ∃ (x7_2 : Int) (x8_2 : Int),v7 = .int .i64 x7_2 ∧ v8 = .int .i64 x8_2 ∧ Aside0 (verdererlaw28_QuotaKeeps.l0 kq l0 a1 a2 x7_2 x8_2 = some r) ∧ Aside0 (kq ≤ kj3) ∧ Aside0 (Below w.heap.size w w'))
        case atStart => exact ⟨(0),(0),(by first | rfl | (simp;done) | (simp [*];done)),(by first | rfl | (simp;done) | (simp [*];done)),H',⟨Nat.le_refl _⟩,⟨by repeat (first | (with_reducible first | exact HB.out | apply below_alloc | apply pw_below_drewN | apply below_drew1) | exact HB.out)⟩⟩
        case round =>
          clear H'
          try clear c1
          try clear p2
          try clear c4
          try clear c5
          try clear c5b0
          try clear c5b1
          try clear c5b2
          try clear c6
          try clear p2
          obtain ⟨x7_2,x8_2,rfl,rfl,HA,HK2,HB⟩ := hrel
          cases gk with
          | zero => exact absurd HA.out (by simp [verdererlaw28_QuotaKeeps.l0])
          | succ k2 =>
            have H := HA.out
            clear HA
            simp only [verdererlaw28_QuotaKeeps.l0] at H
            by_cases c9 : x8_2 < (l0.length : Int)
            · rw [if_pos c9] at H
              have c9b0 : decide (x8_2 < (l0.length : Int)) = true := decide_eq_true c9
              clear c9
              by_cases c10 : 0 ≤ x8_2
              · rw [if_pos c10] at H
                have c10b0 : decide (0 ≤ x8_2) = true := decide_eq_true c10
                clear c10
                by_cases c11 : ((rd_L5 l0 x8_2).length : Int) > 60
                · rw [if_pos c11] at H
                  have c11b0 : decide (60 < ((rd_L5 l0 x8_2).length : Int)) = true := decide_eq_true c11
                  have c11b1 : decide (60 < (rd_L5 l0 x8_2).length) = true := decide_eq_true (by omega)
                  clear c11
                  replace H := Option.bind_eq_some_iff.mp H
                  obtain ⟨t415,A120,H⟩ := H
                  replace H : (some t415) = some r := H
                  have A12 := Aside0.mk A120
                  clear A120
                  obtain rfl := Option.some.inj H
                  have p414 : 0 ≤ (x8_2 : Int) := of_decide_eq_true (by first | (with_reducible assumption) | assumption)
                  have q414 : x8_2 < (l0.length : Int) := of_decide_eq_true (by first | (with_reducible assumption) | assumption)
                  obtain ⟨ad414,A414_0,c414_0,e414,hx414_0,hl414_0,hi414_0⟩ := at_L5 HR0.out x8_2 p414 q414
                  cases e414
                  replace hx414_0 := (HB.out.cell (World.block_lt_of_cell? w _ hx414_0)).trans hx414_0
                  have HR414_0 := Aside0.mk hi414_0
                  have HC414_0 := Aside0.mk hl414_0
                  clear hi414_0 hl414_0
                  replace p414 := eq_true p414
                  replace q414 := eq_true q414
                  go_wp2_with (first | ((with_reducible refine gate_callee (f := 44) rfl ?_);refine goesL_ (some 34) rfl rfl Try.func44 (by kernel_rfl) rfl #[] rfl (by (try simp only [List.map_toArray,List.map_cons,List.map_nil]);first | done | rfl | (simp only [List.length_drop,List.length_take];rfl)) ?_;(with_reducible refine (verdererlaw28_known.calls k2  t415 _ A12.out).mono ?_);rintro e w13 ⟨rfl,hb⟩;refine ⟨_,rfl,?_⟩;have n0_ := Aside0.mk (below_step (by repeat (first | (with_reducible first | exact HB.out | apply below_alloc | apply pw_below_drewN | apply below_drew1) | exact HB.out)) hb);clear HB;have HB := n0_;clear n0_;(try clear hb);(try clear hb2);(try clear hk);(try clear hi)))
                  go_ret
                  exact ⟨by first | rfl | (simp [errW_none,errW_some] <;> rfl) | (simp [*,errW_none,errW_some] <;> rfl),by repeat (first | (with_reducible first | exact HB.out | apply below_alloc | apply pw_below_drewN | apply below_drew1) | exact HB.out)⟩
                · rw [if_neg c11] at H
                  have c11b0 : decide (60 < ((rd_L5 l0 x8_2).length : Int)) = false := decide_eq_false c11
                  have c11b1 : decide (60 < (rd_L5 l0 x8_2).length) = false := decide_eq_false (by omega)
                  clear c11
                  replace H := Option.bind_eq_some_iff.mp H
                  obtain ⟨⟨t417,t418,t419,t420,t421⟩,A140,H⟩ := H
                  replace H : (if t421 = true then (if x8_2 > 0 then (verdererlaw28_QuotaKeeps.j2 k2 l0 a1 a2 x8_2 (t420 != x7_2) t417 t418 t419 t420) else (verdererlaw28_QuotaKeeps.j2 k2 l0 a1 a2 x8_2 false t417 t418 t419 t420)) else (verdererlaw28_QuotaKeeps.j2 k2 l0 a1 a2 x8_2 true t417 t418 t419 t420)) = some r := H
                  have A14 := Aside0.mk A140
                  clear A140
                  have HC15 := Aside0.mk H
                  clear H
                  have p414 : 0 ≤ (x8_2 : Int) := of_decide_eq_true (by first | (with_reducible assumption) | assumption)
                  have q414 : x8_2 < (l0.length : Int) := of_decide_eq_true (by first | (with_reducible assumption) | assumption)
                  obtain ⟨ad414,A414_0,c414_0,e414,hx414_0,hl414_0,hi414_0⟩ := at_L5 HR0.out x8_2 p414 q414
                  cases e414
                  replace hx414_0 := (HB.out.cell (World.block_lt_of_cell? w _ hx414_0)).trans hx414_0
                  have HR414_0 := Aside0.mk hi414_0
                  have HC414_0 := Aside0.mk hl414_0
                  clear hi414_0 hl414_0
                  replace p414 := eq_true p414
                  replace q414 := eq_true q414
                  have p416 : 0 ≤ (x8_2 : Int) := of_decide_eq_true (by first | (with_reducible assumption) | assumption)
                  have q416 : x8_2 < (l0.length : Int) := of_decide_eq_true (by first | (with_reducible assumption) | assumption)
                  obtain ⟨ad416,A416_0,c416_0,e416,hx416_0,hl416_0,hi416_0⟩ := at_L5 HR0.out x8_2 p416 q416
                  obtain rfl : ad414 = ad416 := (by injection e416)
                  replace hx416_0 := (HB.out.cell (World.block_lt_of_cell? w _ hx416_0)).trans hx416_0
                  have HR416_0 := Aside0.mk hi416_0
                  have HC416_0 := Aside0.mk hl416_0
                  clear hi416_0 hl416_0
                  replace p416 := eq_true p416
                  replace q416 := eq_true q416
                  have ea_ := Option.some.inj (hx414_0.symm.trans hx416_0)
                  injection ea_ with ea_ en_ ec_
                  subst ea_
                  subst ec_
                  clear en_
                  go_upto_region 10 with (first | ((with_reducible refine gate_callee (f := 53) rfl ?_);refine goesL_ (some 42) rfl rfl Try.func53 (by kernel_rfl) rfl #[.string a1,.string a2,.slice A414_0 (rd_L5 l0 x8_2).length c414_0] rfl (by (try simp only [List.map_toArray,List.map_cons,List.map_nil]);first | done | rfl | (simp only [List.length_drop,List.length_take];rfl)) ?_;(with_reducible refine (verdererref27_Find.calls k2 a1 a2 _ _ (rd_L5 l0 x8_2) t417 t418 t419 t420 t421 _ ?side1 ?side2 A14.out).mono ?_);(case side1 => repeat (first | exact (Kd.C_below HR416_0.out HB.out) | (with_reducible refine Kd.C_alloc ?_ _) | (with_reducible refine Kd.C_drewN ?_ _) | (with_reducible refine Kd.C_drew ?_)));(case side2 => exact HC416_0.out);rintro e w16 ⟨rfl,hb⟩;refine ⟨_,rfl,?_⟩;have n0_ := Aside0.mk (below_step (by repeat (first | (with_reducible first | exact HB.out | apply below_alloc | apply pw_below_drewN | apply below_drew1) | exact HB.out)) hb);clear HB;have HB := n0_;clear n0_;(try clear hb);(try clear hb2);(try clear hk);(try clear hi)) | ((with_reducible refine gate_dst (N := 9) rfl ?_);(try (refine gate_guard (by rfl) ?_;dsimp only));refine box_event ?hg (N := 9) ?hd (cs := #[.string (⟨#[]⟩ : ByteArray),.string (⟨#[]⟩ : ByteArray),.int .i64 0,.int .i64 0]) (t := 45) ?hr ?_;(case hd => rfl);(case hg => rfl);(case hr => first | (go_simp;done) | (go_simp;rfl));intro gb422 hg w17 hbox hb;have n0_ := Aside0.mk (below_step (by repeat (first | (with_reducible first | exact HB.out | apply below_alloc | apply pw_below_drewN | apply below_drew1) | exact HB.out)) hb);have n1_ := Aside0.mk (hbox);have n2_ := Aside0.mk ((by rw [hg];exact (below_size (by repeat (first | (with_reducible first | exact HB.out | apply below_alloc | apply pw_below_drewN | apply below_drew1) | exact HB.out))) : w.heap.size ≤ gb422));have n3_ := Aside0.mk ((by rw [hg];exact (below_size (by repeat (first | (with_reducible first | exact HB.out | apply below_alloc | apply pw_below_drewN | apply below_drew1) | exact HB.out))) : w.heap.size ≤ gb422));clear HB;have HB := n0_;have BK422 := n1_;have GW422 := n2_;have GE422 := n3_;clear n0_ n1_ n2_ n3_;clear hb hbox hg;have hcz18_0 : w17.cell? ⟨gb422,0,none⟩ = some (.string (⟨#[]⟩ : ByteArray)) := (blk_cell BK422.out 0).trans rfl;have hcz18_1 : w17.cell? ⟨gb422,1,none⟩ = some (.string (⟨#[]⟩ : ByteArray)) := (blk_cell BK422.out 1).trans rfl;have hcz18_2 : w17.cell? ⟨gb422,2,none⟩ = some (.int .i64 0) := (blk_cell BK422.out 2).trans rfl;have hcz18_3 : w17.cell? ⟨gb422,3,none⟩ = some (.int .i64 0) := (blk_cell BK422.out 3).trans rfl;have hfz18_0 := blk_frozen BK422.out 0;have hfz18_1 := blk_frozen BK422.out 1;have hfz18_2 := blk_frozen BK422.out 2;have hfz18_3 := blk_frozen BK422.out 3))
                  (try simp only [Act.put,zA,zB,zC])
                  go_cut [56] (fun v56 wc => ∃ (kq : Nat) (x56_14 : Bool),v56 = .bool x56_14 ∧ Aside0 (verdererlaw28_QuotaKeeps.j2 kq l0 a1 a2 x8_2 x56_14 t417 t418 t419 t420 = some r) ∧ Aside0 (kq ≤ k2) ∧ Aside0 (wc.heap[gb422]? = some (.cells #[.string t417,.string t418,.int .i64 t419,.int .i64 t420] 45 (0,0))) ∧ Aside0 (Below w.heap.size w wc))
                  case first =>
                    have H := HC15.out
                    clear HC15
                    by_cases c19 : t421 = true
                    · subst c19
                      have H1 : (if x8_2 > 0 then (verdererlaw28_QuotaKeeps.j2 k2 l0 a1 a2 x8_2 (t420 != x7_2) t417 t418 t419 t420) else (verdererlaw28_QuotaKeeps.j2 k2 l0 a1 a2 x8_2 false t417 t418 t419 t420)) = some r := by rw [if_pos rfl] at H;exact H
                      clear H
                      have H := H1
                      clear H1
                      by_cases c20 : x8_2 > 0
                      · rw [if_pos c20] at H
                        have c20b0 : decide (0 < x8_2) = true := decide_eq_true c20
                        clear c20
                        (first | rw [c20b0] | (simp only [i64_w,i32_w];rw [c20b0]) | skip)
                        have H' := Aside0.mk H
                        clear H
                        have hcz21_0 : w17.cell? ⟨gb422,0,none⟩ = some (.string (⟨#[]⟩ : ByteArray)) := (blk_cell BK422.out 0).trans rfl
                        have hcz21_1 : w17.cell? ⟨gb422,1,none⟩ = some (.string (⟨#[]⟩ : ByteArray)) := (blk_cell BK422.out 1).trans rfl
                        have hcz21_2 : w17.cell? ⟨gb422,2,none⟩ = some (.int .i64 0) := (blk_cell BK422.out 2).trans rfl
                        have hcz21_3 : w17.cell? ⟨gb422,3,none⟩ = some (.int .i64 0) := (blk_cell BK422.out 3).trans rfl
                        have hfz21_0 := blk_frozen BK422.out 0
                        have hfz21_1 := blk_frozen BK422.out 1
                        have hfz21_2 := blk_frozen BK422.out 2
                        have hfz21_3 := blk_frozen BK422.out 3
                        go_wp2
                        go_meet
                        case rel => exact ⟨_,((t420 != x7_2)),(by first | rfl | (simp;done) | (simp [*];done)),H',⟨by have := HJ3.out;have := HK2.out;first | omega | exact Nat.le_refl _⟩,⟨by (with_reducible repeat (first | refine blk_drewN ?_ _ | refine blk_drew ?_ | refine blk_alloc ?_ _));refine blk_put (cs := #[.string t417,.string t418,.int .i64 t419,.int .i64 0]) ?_ 3 _ rfl;(with_reducible repeat (first | refine blk_drewN ?_ _ | refine blk_drew ?_ | refine blk_alloc ?_ _));refine blk_put (cs := #[.string t417,.string t418,.int .i64 0,.int .i64 0]) ?_ 2 _ rfl;(with_reducible repeat (first | refine blk_drewN ?_ _ | refine blk_drew ?_ | refine blk_alloc ?_ _));refine blk_put (cs := #[.string t417,.string (⟨#[]⟩ : ByteArray),.int .i64 0,.int .i64 0]) ?_ 1 _ rfl;(with_reducible repeat (first | refine blk_drewN ?_ _ | refine blk_drew ?_ | refine blk_alloc ?_ _));refine blk_put (cs := #[.string (⟨#[]⟩ : ByteArray),.string (⟨#[]⟩ : ByteArray),.int .i64 0,.int .i64 0]) ?_ 0 _ rfl;(with_reducible repeat (first | refine blk_drewN ?_ _ | refine blk_drew ?_ | refine blk_alloc ?_ _));exact BK422.out⟩,⟨by repeat (first | (with_reducible first | exact HB.out | apply below_alloc | apply pw_below_drewN | apply below_drew1 | refine below_set ?_ GE422.out) | exact HB.out)⟩⟩
                      · rw [if_neg c20] at H
                        have c20b0 : decide (0 < x8_2) = false := decide_eq_false c20
                        clear c20
                        (first | rw [c20b0] | (simp only [i64_w,i32_w];rw [c20b0]) | skip)
                        have H' := Aside0.mk H
                        clear H
                        go_wp2
                        go_meet
                        case rel => exact ⟨_,(false),(by first | rfl | (simp;done) | (simp [*];done)),H',⟨by have := HJ3.out;have := HK2.out;first | omega | exact Nat.le_refl _⟩,⟨by (with_reducible repeat (first | refine blk_drewN ?_ _ | refine blk_drew ?_ | refine blk_alloc ?_ _));refine blk_put (cs := #[.string t417,.string t418,.int .i64 t419,.int .i64 0]) ?_ 3 _ rfl;(with_reducible repeat (first | refine blk_drewN ?_ _ | refine blk_drew ?_ | refine blk_alloc ?_ _));refine blk_put (cs := #[.string t417,.string t418,.int .i64 0,.int .i64 0]) ?_ 2 _ rfl;(with_reducible repeat (first | refine blk_drewN ?_ _ | refine blk_drew ?_ | refine blk_alloc ?_ _));refine blk_put (cs := #[.string t417,.string (⟨#[]⟩ : ByteArray),.int .i64 0,.int .i64 0]) ?_ 1 _ rfl;(with_reducible repeat (first | refine blk_drewN ?_ _ | refine blk_drew ?_ | refine blk_alloc ?_ _));refine blk_put (cs := #[.string (⟨#[]⟩ : ByteArray),.string (⟨#[]⟩ : ByteArray),.int .i64 0,.int .i64 0]) ?_ 0 _ rfl;(with_reducible repeat (first | refine blk_drewN ?_ _ | refine blk_drew ?_ | refine blk_alloc ?_ _));exact BK422.out⟩,⟨by repeat (first | (with_reducible first | exact HB.out | apply below_alloc | apply pw_below_drewN | apply below_drew1 | refine below_set ?_ GE422.out) | exact HB.out)⟩⟩
                    · replace c19 := Bool.eq_false_iff.mpr c19
                      subst c19
                      have H1 : (verdererlaw28_QuotaKeeps.j2 k2 l0 a1 a2 x8_2 true t417 t418 t419 t420) = some r := by rw [if_neg (show ¬ (false = true) by decide)] at H;exact H
                      clear H
                      have H := H1
                      clear H1
                      have H' := Aside0.mk H
                      clear H
                      go_wp2
                      go_meet
                      case rel => exact ⟨_,(true),(by first | rfl | (simp;done) | (simp [*];done)),H',⟨by have := HJ3.out;have := HK2.out;first | omega | exact Nat.le_refl _⟩,⟨by (with_reducible repeat (first | refine blk_drewN ?_ _ | refine blk_drew ?_ | refine blk_alloc ?_ _));refine blk_put (cs := #[.string t417,.string t418,.int .i64 t419,.int .i64 0]) ?_ 3 _ rfl;(with_reducible repeat (first | refine blk_drewN ?_ _ | refine blk_drew ?_ | refine blk_alloc ?_ _));refine blk_put (cs := #[.string t417,.string t418,.int .i64 0,.int .i64 0]) ?_ 2 _ rfl;(with_reducible repeat (first | refine blk_drewN ?_ _ | refine blk_drew ?_ | refine blk_alloc ?_ _));refine blk_put (cs := #[.string t417,.string (⟨#[]⟩ : ByteArray),.int .i64 0,.int .i64 0]) ?_ 1 _ rfl;(with_reducible repeat (first | refine blk_drewN ?_ _ | refine blk_drew ?_ | refine blk_alloc ?_ _));refine blk_put (cs := #[.string (⟨#[]⟩ : ByteArray),.string (⟨#[]⟩ : ByteArray),.int .i64 0,.int .i64 0]) ?_ 0 _ rfl;(with_reducible repeat (first | refine blk_drewN ?_ _ | refine blk_drew ?_ | refine blk_alloc ?_ _));exact BK422.out⟩,⟨by repeat (first | (with_reducible first | exact HB.out | apply below_alloc | apply pw_below_drewN | apply below_drew1 | refine below_set ?_ GE422.out) | exact HB.out)⟩⟩
                  case rest =>
                    clear HC15
                    try clear c1
                    try clear c2
                    try clear p2
                    try clear c4
                    try clear p4
                    try clear q4
                    try clear hx4
                    try clear c5
                    try clear c5b0
                    try clear c5b1
                    try clear c5b2
                    try clear c6
                    try clear c9
                    try clear c9b0
                    try clear c10
                    try clear c10b0
                    try clear c11
                    try clear c11b0
                    try clear c11b1
                    try clear c19
                    try clear c20
                    try clear c20b0
                    try clear hcz18_0
                    try clear hcz18_1
                    try clear hcz18_2
                    try clear hcz18_3
                    try clear hcz21_0
                    try clear hcz21_1
                    try clear hcz21_2
                    try clear hcz21_3
                    try clear hfz18_0
                    try clear hfz18_1
                    try clear hfz18_2
                    try clear hfz18_3
                    try clear hfz21_0
                    try clear hfz21_1
                    try clear hfz21_2
                    try clear hfz21_3
                    try clear hx414_0
                    try clear hx416_0
                    try clear p2
                    try clear p414
                    try clear p416
                    try clear q414
                    try clear q416
                    obtain ⟨kq,x56_14,rfl,HA,HJ14,BK422,HB⟩ := hcut
                    cases kq with
                    | zero => exact absurd HA.out (by simp [verdererlaw28_QuotaKeeps.j2])
                    | succ kj14 =>
                      have H := HA.out
                      clear HA
                      simp only [verdererlaw28_QuotaKeeps.j2] at H
                      by_cases c22 : x56_14 = true
                      · subst c22
                        have H1 : ((verdererlaw28_known.f kj14).bind fun t423 => (some t423)) = some r := by rw [if_pos rfl] at H;exact H
                        clear H
                        have H := H1
                        clear H1
                        replace H := Option.bind_eq_some_iff.mp H
                        obtain ⟨t423,A230,H⟩ := H
                        replace H : (some t423) = some r := H
                        have A23 := Aside0.mk A230
                        clear A230
                        obtain rfl := Option.some.inj H
                        go_wp2_with (first | ((with_reducible refine gate_callee (f := 44) rfl ?_);refine goesL_ (some 57) rfl rfl Try.func44 (by kernel_rfl) rfl #[] rfl (by (try simp only [List.map_toArray,List.map_cons,List.map_nil]);first | done | rfl | (simp only [List.length_drop,List.length_take];rfl)) ?_;(with_reducible refine (verdererlaw28_known.calls kj14  t423 _ A23.out).mono ?_);rintro e w24 ⟨rfl,hb⟩;refine ⟨_,rfl,?_⟩;have n0_ := Aside0.mk (blk_below (g := gb422) (o := .cells #[.string t417,.string t418,.int .i64 t419,.int .i64 t420] 45 (0,0)) (by (with_reducible repeat (first | refine blk_drewN ?_ _ | refine blk_drew ?_ | refine blk_alloc ?_ _));exact BK422.out) hb);have n1_ := Aside0.mk (below_step (by repeat (first | (with_reducible first | exact HB.out | apply below_alloc | apply pw_below_drewN | apply below_drew1 | refine below_set ?_ GE422.out) | exact HB.out)) hb);clear BK422;clear HB;have BK422 := n0_;have HB := n1_;clear n0_ n1_;(try clear hb);(try clear hb2);(try clear hk);(try clear hi)))
                        go_ret
                        exact ⟨by first | rfl | (simp [errW_none,errW_some] <;> rfl) | (simp [*,errW_none,errW_some] <;> rfl),by repeat (first | (with_reducible first | exact HB.out | apply below_alloc | apply pw_below_drewN | apply below_drew1 | refine below_set ?_ GE422.out) | exact HB.out)⟩
                      · replace c22 := Bool.eq_false_iff.mpr c22
                        subst c22
                        have H1 : (if x8_2 = 0 then (verdererlaw28_QuotaKeeps.j3 kj14 l0 a1 a2 t420 x8_2 (decide (t419 > t420)) t417 t418 t419 t420) else (verdererlaw28_QuotaKeeps.j3 kj14 l0 a1 a2 t420 x8_2 false t417 t418 t419 t420)) = some r := by rw [if_neg (show ¬ (false = true) by decide)] at H;exact H
                        clear H
                        have H := H1
                        clear H1
                        have HC25 := Aside0.mk H
                        clear H
                        have hcz26_0 : wc.cell? ⟨gb422,0,none⟩ = some (.string t417) := (blk_cell BK422.out 0).trans rfl
                        have hcz26_1 : wc.cell? ⟨gb422,1,none⟩ = some (.string t418) := (blk_cell BK422.out 1).trans rfl
                        have hcz26_2 : wc.cell? ⟨gb422,2,none⟩ = some (.int .i64 t419) := (blk_cell BK422.out 2).trans rfl
                        have hcz26_3 : wc.cell? ⟨gb422,3,none⟩ = some (.int .i64 t420) := (blk_cell BK422.out 3).trans rfl
                        have hfz26_0 := blk_frozen BK422.out 0
                        have hfz26_1 := blk_frozen BK422.out 1
                        have hfz26_2 := blk_frozen BK422.out 2
                        have hfz26_3 := blk_frozen BK422.out 3
                        go_upto_region 13 with (fail)
                        go_cut [67] (fun v67 wc => ∃ (kq : Nat) (x67_24 : Bool),v67 = .bool x67_24 ∧ Aside0 (verdererlaw28_QuotaKeeps.j3 kq l0 a1 a2 t420 x8_2 x67_24 t417 t418 t419 t420 = some r) ∧ Aside0 (kq ≤ kj14) ∧ Aside0 (wc.heap[gb422]? = some (.cells #[.string t417,.string t418,.int .i64 t419,.int .i64 t420] 45 (0,0))) ∧ Aside0 (Below w.heap.size w wc))
                        case first =>
                          have H := HC25.out
                          clear HC25
                          by_cases c27 : x8_2 = 0
                          · rw [if_pos c27] at H
                            have c27b0 : (x8_2 == 0) = true := beq_iff_eq.mpr c27
                            have c27b1 : (x8_2 != 0) = false := bne_eq_false_iff_eq.mpr c27
                            clear c27
                            (first | rw [c27b0] | (simp only [i64_w,i32_w];rw [c27b0]) | skip)
                            have H' := Aside0.mk H
                            clear H
                            have hcz28_0 : wc.cell? ⟨gb422,0,none⟩ = some (.string t417) := (blk_cell BK422.out 0).trans rfl
                            have hcz28_1 : wc.cell? ⟨gb422,1,none⟩ = some (.string t418) := (blk_cell BK422.out 1).trans rfl
                            have hcz28_2 : wc.cell? ⟨gb422,2,none⟩ = some (.int .i64 t419) := (blk_cell BK422.out 2).trans rfl
                            have hcz28_3 : wc.cell? ⟨gb422,3,none⟩ = some (.int .i64 t420) := (blk_cell BK422.out 3).trans rfl
                            have hfz28_0 := blk_frozen BK422.out 0
                            have hfz28_1 := blk_frozen BK422.out 1
                            have hfz28_2 := blk_frozen BK422.out 2
                            have hfz28_3 := blk_frozen BK422.out 3
                            go_wp2
                            go_meet
                            case rel => exact ⟨_,(decide (t419 > t420)),(by first | rfl | (simp;done) | (simp [*];done)),H',⟨by have := HJ3.out;have := HK2.out;have := HJ14.out;first | omega | exact Nat.le_refl _⟩,⟨by (with_reducible repeat (first | refine blk_drewN ?_ _ | refine blk_drew ?_ | refine blk_alloc ?_ _));exact BK422.out⟩,⟨by repeat (first | (with_reducible first | exact HB.out | apply below_alloc | apply pw_below_drewN | apply below_drew1 | refine below_set ?_ GE422.out) | exact HB.out)⟩⟩
                          · rw [if_neg c27] at H
                            have c27b0 : (x8_2 == 0) = false := beq_eq_false_iff_ne.mpr c27
                            have c27b1 : (x8_2 != 0) = true := bne_iff_ne.mpr c27
                            (first | rw [c27b0] | (simp only [i64_w,i32_w];rw [c27b0]) | skip)
                            have H' := Aside0.mk H
                            clear H
                            go_wp2
                            go_meet
                            case rel => exact ⟨_,(false),(by first | rfl | (simp;done) | (simp [*];done)),H',⟨by have := HJ3.out;have := HK2.out;have := HJ14.out;first | omega | exact Nat.le_refl _⟩,⟨by (with_reducible repeat (first | refine blk_drewN ?_ _ | refine blk_drew ?_ | refine blk_alloc ?_ _));exact BK422.out⟩,⟨by repeat (first | (with_reducible first | exact HB.out | apply below_alloc | apply pw_below_drewN | apply below_drew1 | refine below_set ?_ GE422.out) | exact HB.out)⟩⟩
                        case rest =>
                          clear HC25
                          try clear c1
                          try clear c2
                          try clear p2
                          try clear c4
                          try clear p4
                          try clear q4
                          try clear hx4
                          try clear c5
                          try clear c5b0
                          try clear c5b1
                          try clear c5b2
                          try clear c6
                          try clear c9
                          try clear c9b0
                          try clear c10
                          try clear c10b0
                          try clear c11
                          try clear c11b0
                          try clear c11b1
                          try clear c19
                          try clear c20
                          try clear c20b0
                          try clear c22
                          try clear c27
                          try clear c27b0
                          try clear c27b1
                          try clear hcz18_0
                          try clear hcz18_1
                          try clear hcz18_2
                          try clear hcz18_3
                          try clear hcz21_0
                          try clear hcz21_1
                          try clear hcz21_2
                          try clear hcz21_3
                          try clear hcz26_0
                          try clear hcz26_1
                          try clear hcz26_2
                          try clear hcz26_3
                          try clear hcz28_0
                          try clear hcz28_1
                          try clear hcz28_2
                          try clear hcz28_3
                          try clear hfz18_0
                          try clear hfz18_1
                          try clear hfz18_2
                          try clear hfz18_3
                          try clear hfz21_0
                          try clear hfz21_1
                          try clear hfz21_2
                          try clear hfz21_3
                          try clear hfz26_0
                          try clear hfz26_1
                          try clear hfz26_2
                          try clear hfz26_3
                          try clear hfz28_0
                          try clear hfz28_1
                          try clear hfz28_2
                          try clear hfz28_3
                          try clear hx414_0
                          try clear hx416_0
                          try clear p2
                          try clear p4
                          try clear p414
                          try clear p416
                          try clear q4
                          try clear q414
                          try clear q416
                          obtain ⟨kq,x67_24,rfl,HA,HJ24,BK422,HB⟩ := hcut
                          cases kq with
                          | zero => exact absurd HA.out (by simp [verdererlaw28_QuotaKeeps.j3])
                          | succ kj24 =>
                            have H := HA.out
                            clear HA
                            simp only [verdererlaw28_QuotaKeeps.j3] at H
                            by_cases c29 : x67_24 = true
                            · subst c29
                              have H1 : ((verdererlaw28_known.f kj24).bind fun t424 => (some t424)) = some r := by rw [if_pos rfl] at H;exact H
                              clear H
                              have H := H1
                              clear H1
                              replace H := Option.bind_eq_some_iff.mp H
                              obtain ⟨t424,A300,H⟩ := H
                              replace H : (some t424) = some r := H
                              have A30 := Aside0.mk A300
                              clear A300
                              obtain rfl := Option.some.inj H
                              go_wp2_with (first | ((with_reducible refine gate_callee (f := 44) rfl ?_);refine goesL_ (some 68) rfl rfl Try.func44 (by kernel_rfl) rfl #[] rfl (by (try simp only [List.map_toArray,List.map_cons,List.map_nil]);first | done | rfl | (simp only [List.length_drop,List.length_take];rfl)) ?_;(with_reducible refine (verdererlaw28_known.calls kj24  t424 _ A30.out).mono ?_);rintro e w31 ⟨rfl,hb⟩;refine ⟨_,rfl,?_⟩;have n0_ := Aside0.mk (blk_below (g := gb422) (o := .cells #[.string t417,.string t418,.int .i64 t419,.int .i64 t420] 45 (0,0)) (by (with_reducible repeat (first | refine blk_drewN ?_ _ | refine blk_drew ?_ | refine blk_alloc ?_ _));exact BK422.out) hb);have n1_ := Aside0.mk (below_step (by repeat (first | (with_reducible first | exact HB.out | apply below_alloc | apply pw_below_drewN | apply below_drew1 | refine below_set ?_ GE422.out) | exact HB.out)) hb);clear BK422;clear HB;have BK422 := n0_;have HB := n1_;clear n0_ n1_;(try clear hb);(try clear hb2);(try clear hk);(try clear hi)))
                              go_ret
                              exact ⟨by first | rfl | (simp [errW_none,errW_some] <;> rfl) | (simp [*,errW_none,errW_some] <;> rfl),by repeat (first | (with_reducible first | exact HB.out | apply below_alloc | apply pw_below_drewN | apply below_drew1 | refine below_set ?_ GE422.out) | exact HB.out)⟩
                            · replace c29 := Bool.eq_false_iff.mpr c29
                              subst c29
                              have H1 : (if x8_2 > 0 then (if 0 ≤ (wrap64 (x8_2 - 1)) then (if (wrap64 (x8_2 - 1)) < (l0.length : Int) then (if 0 ≤ x8_2 then (if x8_2 < (l0.length : Int) then ((quota_Judge.f kj24 (rd_L5 l0 (wrap64 (x8_2 - 1))) (rd_L5 l0 x8_2)).bind fun bt427 => (if bt427.2.2.2.2 = 0 then (if t419 > t420 then (none) else (verdererlaw28_QuotaKeeps.l0 kj24 l0 a1 a2 t420 (wrap64 (x8_2 + 1)))) else ((verdererlaw28_known.f kj24).bind fun t433 => (some t433)))) else (none)) else (none)) else (none)) else (none)) else (if t419 > t420 then (none) else (verdererlaw28_QuotaKeeps.l0 kj24 l0 a1 a2 t420 (wrap64 (x8_2 + 1))))) = some r := by rw [if_neg (show ¬ (false = true) by decide)] at H;exact H
                              clear H
                              have H := H1
                              clear H1
                              by_cases c32 : x8_2 > 0
                              · rw [if_pos c32] at H
                                have c32b0 : decide (0 < x8_2) = true := decide_eq_true c32
                                clear c32
                                obtain ⟨ji33,hji33⟩ : ∃ j_ : Int,(wrap64 (x8_2 - 1)) = j_ := ⟨_,rfl⟩
                                replace H : (if 0 ≤ (ji33) then (if (ji33) < (l0.length : Int) then (if 0 ≤ x8_2 then (if x8_2 < (l0.length : Int) then ((quota_Judge.f kj24 (rd_L5 l0 (ji33)) (rd_L5 l0 x8_2)).bind fun bt427 => (if bt427.2.2.2.2 = 0 then (if t419 > t420 then (none) else (verdererlaw28_QuotaKeeps.l0 kj24 l0 a1 a2 t420 (wrap64 (x8_2 + 1)))) else ((verdererlaw28_known.f kj24).bind fun t433 => (some t433)))) else (none)) else (none)) else (none)) else (none)) = some r := by first | (rw [hji33] at H;exact H) | (simp only [hji33] at H ⊢;exact H)
                                have hji33w : (IntKind.i64.wrap (x8_2 - 1)) = ji33 := (i64_w _).trans hji33
                                by_cases c34 : 0 ≤ (ji33)
                                · rw [if_pos c34] at H
                                  have c34b0 : decide (0 ≤ (ji33)) = true := decide_eq_true c34
                                  clear c34
                                  by_cases c35 : (ji33) < (l0.length : Int)
                                  · rw [if_pos c35] at H
                                    have c35b0 : decide ((ji33) < (l0.length : Int)) = true := decide_eq_true c35
                                    clear c35
                                    by_cases c36 : 0 ≤ x8_2
                                    · rw [if_pos c36] at H
                                      have c36b0 : decide (0 ≤ x8_2) = true := decide_eq_true c36
                                      clear c36
                                      by_cases c37 : x8_2 < (l0.length : Int)
                                      · rw [if_pos c37] at H
                                        have c37b0 : decide (x8_2 < (l0.length : Int)) = true := decide_eq_true c37
                                        clear c37
                                        replace H := Option.bind_eq_some_iff.mp H
                                        obtain ⟨⟨t427,t428,t429,t430,t431⟩,A380,H⟩ := H
                                        replace H : (if t431 = 0 then (if t419 > t420 then (none) else (verdererlaw28_QuotaKeeps.l0 kj24 l0 a1 a2 t420 (wrap64 (x8_2 + 1)))) else ((verdererlaw28_known.f kj24).bind fun t433 => (some t433))) = some r := H
                                        have A38 := Aside0.mk A380
                                        clear A380
                                        by_cases c39 : t431 = 0
                                        · rw [if_pos c39] at H
                                          have c39b0 : (t431 == 0) = true := beq_iff_eq.mpr c39
                                          have c39b1 : (t431 != 0) = false := bne_eq_false_iff_eq.mpr c39
                                          clear c39
                                          by_cases c40 : t419 > t420
                                          · rw [if_pos c40] at H
                                            exact absurd H (by simp)
                                          · rw [if_neg c40] at H
                                            have c40b0 : decide (t420 < t419) = false := decide_eq_false c40
                                            clear c40
                                            have H' := Aside0.mk H
                                            clear H
                                            try go_wp2
                                            have n0_ := Aside0.mk (blk_drew BK422.out)
                                            have n1_ := Aside0.mk (below_drew1 HB.out)
                                            clear BK422
                                            clear HB
                                            have BK422 := n0_
                                            have HB := n1_
                                            clear n0_ n1_
                                            have p425 : 0 ≤ ((ji33) : Int) := of_decide_eq_true (by first | (with_reducible assumption) | assumption)
                                            have q425 : (ji33) < (l0.length : Int) := of_decide_eq_true (by first | (with_reducible assumption) | assumption)
                                            obtain ⟨ad425,A425_0,c425_0,e425,hx425_0,hl425_0,hi425_0⟩ := at_L5 HR0.out (ji33) p425 q425
                                            have hw425_0 := hx425_0
                                            obtain rfl : ad414 = ad425 := (by injection e425)
                                            replace hx425_0 := (HB.out.cell (World.block_lt_of_cell? w _ hx425_0)).trans hx425_0
                                            have HR425_0 := Aside0.mk hi425_0
                                            have HC425_0 := Aside0.mk hl425_0
                                            clear hi425_0 hl425_0
                                            replace p425 := eq_true p425
                                            replace q425 := eq_true q425
                                            have p426 : 0 ≤ (x8_2 : Int) := of_decide_eq_true (by first | (with_reducible assumption) | assumption)
                                            have q426 : x8_2 < (l0.length : Int) := of_decide_eq_true (by first | (with_reducible assumption) | assumption)
                                            obtain ⟨ad426,A426_0,c426_0,e426,hx426_0,hl426_0,hi426_0⟩ := at_L5 HR0.out x8_2 p426 q426
                                            have hw426_0 := hx426_0
                                            obtain rfl : ad414 = ad426 := (by injection e426)
                                            replace hx426_0 := (HB.out.cell (World.block_lt_of_cell? w _ hx426_0)).trans hx426_0
                                            have HR426_0 := Aside0.mk hi426_0
                                            have HC426_0 := Aside0.mk hl426_0
                                            clear hi426_0 hl426_0
                                            replace p426 := eq_true p426
                                            replace q426 := eq_true q426
                                            refine start_ (n := 16) (S := fun w' => w'.cell? (ad414.add ((ji33)).toNat) = some (.slice A425_0 (rd_L5 l0 (ji33)).length c425_0) ∧ w'.cell? (ad414.add (x8_2).toNat) = some (.slice A426_0 (rd_L5 l0 x8_2).length c426_0)) (ds := []) #[false,false,false,false,false,false,false,false,false,false,false,false,false,false,false,false] (by kernel_rfl) rfl rfl ⟨((HB.out.cell (World.block_lt_of_cell? w _ hw425_0)).trans hw425_0),((HB.out.cell (World.block_lt_of_cell? w _ hw426_0)).trans hw426_0)⟩ (fun hHeld => ?_);refine with_tabW verdererlaw28_QuotaKeeps.tab16 verdererlaw28_QuotaKeeps.bits16 (fun HT_ HW_ => ?_)
                                            generalize wc.drew = w41 at BK422 HB HR425_0 HR426_0 hx425_0 hx426_0 hHeld ⊢
                                            refine pure_ (i := 0) (N := some 72) (v := ?_) (a' := ?_) #[true,false,false,false,false,false,false,false,false,false,false,false,false,false,false,false] rfl rfl (any_of HT_.out (by kernel_rfl)) (fun _ _ _ h => h) (Or.inl ⟨by rfl,?_⟩) ?_ ?_
                                            rotate_left
                                            · intro w'
                                              go_simp
                                              with_reducible rfl
                                            rotate_left
                                            · simp only [Act.put,zA,zB,zC,i64_w,i32_w]
                                              rfl
                                            refine pure_ (i := 1) (N := some 73) (v := ?_) (a' := ?_) #[true,true,false,false,false,false,false,false,false,false,false,false,false,false,false,false] rfl rfl (any_of HT_.out (by kernel_rfl)) (fun _ _ _ h => h) (Or.inl ⟨by rfl,?_⟩) ?_ ?_
                                            rotate_left
                                            · intro w'
                                              go_simp
                                              with_reducible rfl
                                            rotate_left
                                            · simp only [Act.put,zA,zB,zC,i64_w,i32_w]
                                              rfl
                                            refine pure_ (i := 2) (N := some 74) (v := ?_) (a' := ?_) #[true,true,true,false,false,false,false,false,false,false,false,false,false,false,false,false] rfl rfl (any_of HT_.out (by kernel_rfl)) (fun _ _ _ h => h) (Or.inl ⟨by rfl,?_⟩) ?_ ?_
                                            rotate_left
                                            · intro w'
                                              go_simp
                                              with_reducible rfl
                                            rotate_left
                                            · simp only [Act.put,zA,zB,zC,i64_w,i32_w]
                                              rfl
                                            refine pure_ (i := 3) (N := some 75) (v := ?_) (a' := ?_) #[true,true,true,true,false,false,false,false,false,false,false,false,false,false,false,false] rfl rfl (any_of HT_.out (by kernel_rfl)) (fun _ _ _ h => h) (Or.inl ⟨by rfl,?_⟩) ?_ ?_
                                            rotate_left
                                            · intro w'
                                              go_simp
                                              with_reducible rfl
                                            rotate_left
                                            · simp only [Act.put,zA,zB,zC,i64_w,i32_w]
                                              rfl
                                            refine pure_ (i := 5) (N := some 77) (v := ?_) (a' := ?_) #[true,true,true,true,false,true,false,false,false,false,false,false,false,false,false,false] rfl rfl (any_of HT_.out (by kernel_rfl)) (fun _ _ _ h => h) (Or.inl ⟨by rfl,?_⟩) ?_ ?_
                                            rotate_left
                                            · intro w'
                                              go_simp
                                              with_reducible rfl
                                            rotate_left
                                            · simp only [Act.put,zA,zB,zC,i64_w,i32_w]
                                              rfl
                                            refine pure_ (i := 6) (N := some 78) (v := ?_) (a' := ?_) #[true,true,true,true,false,true,true,false,false,false,false,false,false,false,false,false] rfl rfl (any_of HT_.out (by kernel_rfl)) (fun _ _ _ h => h) (Or.inl ⟨by rfl,?_⟩) ?_ ?_
                                            rotate_left
                                            · intro w'
                                              go_simp
                                              with_reducible rfl
                                            rotate_left
                                            · simp only [Act.put,zA,zB,zC,i64_w,i32_w]
                                              rfl
                                            refine pure_ (i := 7) (N := some 79) (v := ?_) (a' := ?_) #[true,true,true,true,false,true,true,true,false,false,false,false,false,false,false,false] rfl rfl (any_of HT_.out (by kernel_rfl)) (fun _ _ _ h => h) (Or.inl ⟨by rfl,?_⟩) ?_ ?_
                                            rotate_left
                                            · intro w'
                                              go_simp
                                              with_reducible rfl
                                            rotate_left
                                            · simp only [Act.put,zA,zB,zC,i64_w,i32_w]
                                              rfl
                                            refine take_ (i := 4) (N := some 76) (v := ?_) (a' := ?_) #[true,true,true,true,true,true,true,true,false,false,false,false,false,false,false,false] rfl rfl (take_ofW HT_.out HW_.out (by kernel_rfl)) (fun _ _ _ h => h) (Or.inl ⟨by rfl,?_⟩) hHeld ?_ ?_
                                            rotate_left
                                            · rintro w' ⟨s0,s1⟩
                                              go_simp
                                              with_reducible rfl
                                            rotate_left
                                            · simp only [Act.put,zA,zB,zC,i64_w,i32_w]
                                              rfl
                                            refine take_ (i := 8) (N := some 80) (v := ?_) (a' := ?_) #[true,true,true,true,true,true,true,true,true,false,false,false,false,false,false,false] rfl rfl (take_ofW HT_.out HW_.out (by kernel_rfl)) (fun _ _ _ h => h) (Or.inl ⟨by rfl,?_⟩) hHeld ?_ ?_
                                            rotate_left
                                            · rintro w' ⟨s0,s1⟩
                                              go_simp
                                              with_reducible rfl
                                            rotate_left
                                            · simp only [Act.put,zA,zB,zC,i64_w,i32_w]
                                              rfl
                                            refine join_ (σ := Nat) 2 #[true,true,true,true,true,true,true,true,true,true,true,true,true,true,false,false] (fun s_ => [(81,.tuple #[.agg #[.string t427,.string t428,.int .i64 t429,.int .i64 t430],.int .i64 t431]),(11,.pointer (some ⟨s_,0,none⟩)),(71,.tuple #[.agg #[.string t427,.string t428,.int .i64 t429,.int .i64 t430],.int .i64 t431]),(82,.agg #[.string t427,.string t428,.int .i64 t429,.int .i64 t430]),(83,.int .i64 t431)]) (fun s_ w' => (w'.cell? (ad414.add ((ji33)).toNat) = some (.slice A425_0 (rd_L5 l0 (ji33)).length c425_0) ∧ w'.cell? (ad414.add (x8_2).toNat) = some (.slice A426_0 (rd_L5 l0 x8_2).length c426_0)) ∧ (w'.heap[gb422]? = some (.cells #[.string t417,.string t418,.int .i64 t419,.int .i64 t420] 45 (0,0))) ∧ (w'.heap[s_]? = some (.cells #[.string (⟨#[]⟩ : ByteArray),.string (⟨#[]⟩ : ByteArray),.int .i64 0,.int .i64 0] 45 (0,0))) ∧ (w.heap.size ≤ s_) ∧ (w.heap.size ≤ s_) ∧ (gb422 ≠ s_) ∧ (s_ ≠ gb422) ∧ (Below w.heap.size w w')) ?_ ?_
                                            rotate_left
                                            · intro hCont
                                              refine two_ (i := 9) (j := 13) (Ni := some 81) (Nj := some 11) #[true,true,true,true,true,true,true,true,true,true,false,false,false,false,false,false] #[true,true,true,true,true,true,true,true,true,false,false,false,false,true,false,false] rfl rfl rfl rfl (two_of HT_.out (by kernel_rfl)) (by decide) (by decide) (fun K hK => ?_) (fun K hK => ?_)
                                              · skip
                                                refine goes_ Try.func45 (by kernel_rfl) rfl #[.slice A425_0 (rd_L5 l0 (ji33)).length c425_0,.slice A426_0 (rd_L5 l0 x8_2).length c426_0] (by rfl) rfl rfl (by (try simp only [List.map_toArray,List.map_cons,List.map_nil]);first | done | (simp only [hji33];rfl) | rfl | (simp only [List.length_drop,List.length_take];rfl)) ?_
                                                with_reducible refine (quota_Judge.calls kj24 _ _ (rd_L5 l0 (ji33)) _ _ (rd_L5 l0 x8_2) t427 t428 t429 t430 t431 _ ?side1 ?side2 ?side3 ?side4 A38.out).mono ?_
                                                (case side1 => repeat (first | exact (Kd.C_below HR425_0.out HB.out) | (with_reducible refine Kd.C_alloc ?_ _) | (with_reducible refine Kd.C_drewN ?_ _) | (with_reducible refine Kd.C_drew ?_)))
                                                (case side2 => exact HC425_0.out)
                                                (case side3 => repeat (first | exact (Kd.C_below HR426_0.out HB.out) | (with_reducible refine Kd.C_alloc ?_ _) | (with_reducible refine Kd.C_drewN ?_ _) | (with_reducible refine Kd.C_drew ?_)))
                                                (case side4 => exact HC426_0.out)
                                                rintro e w42 ⟨rfl,hb⟩
                                                refine ⟨_,rfl,?_⟩
                                                have n0_ := Aside0.mk (blk_below (g := gb422) (o := .cells #[.string t417,.string t418,.int .i64 t419,.int .i64 t420] 45 (0,0)) (by (with_reducible repeat (first | refine blk_drewN ?_ _ | refine blk_drew ?_ | refine blk_alloc ?_ _));exact BK422.out) hb)
                                                have n1_ := Aside0.mk (below_step (by repeat (first | (with_reducible first | exact HB.out | apply below_alloc | apply pw_below_drewN | apply below_drew1 | refine below_set ?_ GE422.out) | exact HB.out)) hb)
                                                clear BK422
                                                clear HB
                                                have BK422 := n0_
                                                have HB := n1_
                                                clear n0_ n1_
                                                (try clear hb)
                                                (try clear hb2)
                                                (try clear hk)
                                                (try clear hi)
                                                refine hK.out _ _ ⟨((HB.out.cell (World.block_lt_of_cell? w _ hw425_0)).trans hw425_0),((HB.out.cell (World.block_lt_of_cell? w _ hw426_0)).trans hw426_0)⟩ (fun hHeld => ?_)
                                                clear hK K
                                                refine norm_ (a' := ?_) ?_ ?_
                                                rotate_left
                                                · show Act.put _ (some 81) _ = _
                                                  simp only [Act.put,zA,zB,zC,i64_w,i32_w]
                                                  rfl
                                                refine pure_ (i := 10) (N := some 71) (v := ?_) (a' := ?_) #[true,true,true,true,true,true,true,true,true,true,true,false,false,false,false,false] rfl rfl (any_of HT_.out (by kernel_rfl)) (fun _ _ _ h => h) (Or.inl ⟨by rfl,?_⟩) ?_ ?_
                                                rotate_left
                                                · intro w'
                                                  go_simp
                                                  with_reducible rfl
                                                rotate_left
                                                · simp only [Act.put,zA,zB,zC,i64_w,i32_w]
                                                  rfl
                                                refine pure_ (i := 11) (N := some 82) (v := ?_) (a' := ?_) #[true,true,true,true,true,true,true,true,true,true,true,true,false,false,false,false] rfl rfl (any_of HT_.out (by kernel_rfl)) (fun _ _ _ h => h) (Or.inl ⟨by rfl,?_⟩) ?_ ?_
                                                rotate_left
                                                · intro w'
                                                  go_simp
                                                  with_reducible rfl
                                                rotate_left
                                                · simp only [Act.put,zA,zB,zC,i64_w,i32_w]
                                                  rfl
                                                refine pure_ (i := 12) (N := some 83) (v := ?_) (a' := ?_) #[true,true,true,true,true,true,true,true,true,true,true,true,true,false,false,false] rfl rfl (any_of HT_.out (by kernel_rfl)) (fun _ _ _ h => h) (Or.inl ⟨by rfl,?_⟩) ?_ ?_
                                                rotate_left
                                                · intro w'
                                                  go_simp
                                                  with_reducible rfl
                                                rotate_left
                                                · simp only [Act.put,zA,zB,zC,i64_w,i32_w]
                                                  rfl
                                                refine one_ (i := 13) (N := some 11) #[true,true,true,true,true,true,true,true,true,true,true,true,true,true,false,false] rfl rfl (one_of HT_.out (by kernel_rfl)) (by decide) (fun K hK => ?_)
                                                refine box_step ?hg (N := 11) ?hd (cs := #[.string (⟨#[]⟩ : ByteArray),.string (⟨#[]⟩ : ByteArray),.int .i64 0,.int .i64 0]) (t := 45) ?hr ?_;(case hd => rfl);(case hg => rfl);(case hr => first | (go_simp;done) | (go_simp;rfl))
                                                intro gb432 hg w43 hbox hb
                                                have n0_ := Aside0.mk (blk_below (g := gb422) (o := .cells #[.string t417,.string t418,.int .i64 t419,.int .i64 t420] 45 (0,0)) (by (with_reducible repeat (first | refine blk_drewN ?_ _ | refine blk_drew ?_ | refine blk_alloc ?_ _));exact BK422.out) hb)
                                                have n1_ := Aside0.mk (below_step (by repeat (first | (with_reducible first | exact HB.out | apply below_alloc | apply pw_below_drewN | apply below_drew1 | refine below_set ?_ GE422.out) | exact HB.out)) hb)
                                                have n2_ := Aside0.mk (hbox)
                                                have n3_ := Aside0.mk ((by rw [hg];exact (below_size (by repeat (first | (with_reducible first | exact HB.out | apply below_alloc | apply pw_below_drewN | apply below_drew1 | refine below_set ?_ GE422.out) | exact HB.out))) : w.heap.size ≤ gb432))
                                                have n4_ := Aside0.mk ((by rw [hg];exact (below_size (by repeat (first | (with_reducible first | exact HB.out | apply below_alloc | apply pw_below_drewN | apply below_drew1 | refine below_set ?_ GE422.out) | exact HB.out))) : w.heap.size ≤ gb432))
                                                have n5_ := Aside0.mk ((by rw [hg];exact Nat.ne_of_lt (blk_lt (g := gb422) (o := .cells #[.string t417,.string t418,.int .i64 t419,.int .i64 t420] 45 (0,0)) (by (with_reducible repeat (first | refine blk_drewN ?_ _ | refine blk_drew ?_ | refine blk_alloc ?_ _));exact BK422.out)) : gb422 ≠ gb432))
                                                have n6_ := Aside0.mk ((by rw [hg];exact Nat.ne_of_gt (blk_lt (g := gb422) (o := .cells #[.string t417,.string t418,.int .i64 t419,.int .i64 t420] 45 (0,0)) (by (with_reducible repeat (first | refine blk_drewN ?_ _ | refine blk_drew ?_ | refine blk_alloc ?_ _));exact BK422.out)) : gb432 ≠ gb422))
                                                clear BK422
                                                clear HB
                                                have BK422 := n0_
                                                have HB := n1_
                                                have BK432 := n2_
                                                have GW432 := n3_
                                                have GE432 := n4_
                                                have NB422_432 := n5_
                                                have NB432_422 := n6_
                                                clear n0_ n1_ n2_ n3_ n4_ n5_ n6_
                                                clear hb hbox hg
                                                refine hK.out _ _ ⟨((HB.out.cell (World.block_lt_of_cell? w _ hw425_0)).trans hw425_0),((HB.out.cell (World.block_lt_of_cell? w _ hw426_0)).trans hw426_0)⟩ (fun hHeld => ?_)
                                                clear hK K
                                                refine norm_ (a' := ?_) ?_ ?_
                                                rotate_left
                                                · show Act.put _ (some 11) _ = _
                                                  simp only [Act.put,zA,zB,zC,i64_w,i32_w]
                                                  rfl
                                                exact norm_ (by simp only [putAll,Act.put,zA,zB,zC]) (hCont (gb432) _ ⟨hHeld,(by (with_reducible repeat (first | refine blk_drewN ?_ _ | refine blk_drew ?_ | refine blk_alloc ?_ _));exact BK422.out),(by (with_reducible repeat (first | refine blk_drewN ?_ _ | refine blk_drew ?_ | refine blk_alloc ?_ _));exact BK432.out),GW432.out,GE432.out,NB422_432.out,NB432_422.out,(by repeat (first | (with_reducible first | exact HB.out | apply below_alloc | apply pw_below_drewN | apply below_drew1 | refine below_set ?_ GE422.out | refine below_set ?_ GE432.out) | exact HB.out))⟩)
                                              · skip
                                                refine box_step ?hg (N := 11) ?hd (cs := #[.string (⟨#[]⟩ : ByteArray),.string (⟨#[]⟩ : ByteArray),.int .i64 0,.int .i64 0]) (t := 45) ?hr ?_;(case hd => rfl);(case hg => rfl);(case hr => first | (go_simp;done) | (go_simp;rfl))
                                                intro gb432 hg w42 hbox hb
                                                have n0_ := Aside0.mk (blk_below (g := gb422) (o := .cells #[.string t417,.string t418,.int .i64 t419,.int .i64 t420] 45 (0,0)) (by (with_reducible repeat (first | refine blk_drewN ?_ _ | refine blk_drew ?_ | refine blk_alloc ?_ _));exact BK422.out) hb)
                                                have n1_ := Aside0.mk (below_step (by repeat (first | (with_reducible first | exact HB.out | apply below_alloc | apply pw_below_drewN | apply below_drew1 | refine below_set ?_ GE422.out) | exact HB.out)) hb)
                                                have n2_ := Aside0.mk (hbox)
                                                have n3_ := Aside0.mk ((by rw [hg];exact (below_size (by repeat (first | (with_reducible first | exact HB.out | apply below_alloc | apply pw_below_drewN | apply below_drew1 | refine below_set ?_ GE422.out) | exact HB.out))) : w.heap.size ≤ gb432))
                                                have n4_ := Aside0.mk ((by rw [hg];exact (below_size (by repeat (first | (with_reducible first | exact HB.out | apply below_alloc | apply pw_below_drewN | apply below_drew1 | refine below_set ?_ GE422.out) | exact HB.out))) : w.heap.size ≤ gb432))
                                                have n5_ := Aside0.mk ((by rw [hg];exact Nat.ne_of_lt (blk_lt (g := gb422) (o := .cells #[.string t417,.string t418,.int .i64 t419,.int .i64 t420] 45 (0,0)) (by (with_reducible repeat (first | refine blk_drewN ?_ _ | refine blk_drew ?_ | refine blk_alloc ?_ _));exact BK422.out)) : gb422 ≠ gb432))
                                                have n6_ := Aside0.mk ((by rw [hg];exact Nat.ne_of_gt (blk_lt (g := gb422) (o := .cells #[.string t417,.string t418,.int .i64 t419,.int .i64 t420] 45 (0,0)) (by (with_reducible repeat (first | refine blk_drewN ?_ _ | refine blk_drew ?_ | refine blk_alloc ?_ _));exact BK422.out)) : gb432 ≠ gb422))
                                                clear BK422
                                                clear HB
                                                have BK422 := n0_
                                                have HB := n1_
                                                have BK432 := n2_
                                                have GW432 := n3_
                                                have GE432 := n4_
                                                have NB422_432 := n5_
                                                have NB432_422 := n6_
                                                clear n0_ n1_ n2_ n3_ n4_ n5_ n6_
                                                clear hb hbox hg
                                                refine hK.out _ _ ⟨((HB.out.cell (World.block_lt_of_cell? w _ hw425_0)).trans hw425_0),((HB.out.cell (World.block_lt_of_cell? w _ hw426_0)).trans hw426_0)⟩ (fun hHeld => ?_)
                                                clear hK K
                                                refine norm_ (a' := ?_) ?_ ?_
                                                rotate_left
                                                · show Act.put _ (some 11) _ = _
                                                  simp only [Act.put,zA,zB,zC,i64_w,i32_w]
                                                  rfl
                                                refine one_ (i := 9) (N := some 81) #[true,true,true,true,true,true,true,true,true,true,false,false,false,true,false,false] rfl rfl (one_of HT_.out (by kernel_rfl)) (by decide) (fun K hK => ?_)
                                                refine goes_ Try.func45 (by kernel_rfl) rfl #[.slice A425_0 (rd_L5 l0 (ji33)).length c425_0,.slice A426_0 (rd_L5 l0 x8_2).length c426_0] (by rfl) rfl rfl (by (try simp only [List.map_toArray,List.map_cons,List.map_nil]);first | done | (simp only [hji33];rfl) | rfl | (simp only [List.length_drop,List.length_take];rfl)) ?_
                                                with_reducible refine (quota_Judge.calls kj24 _ _ (rd_L5 l0 (ji33)) _ _ (rd_L5 l0 x8_2) t427 t428 t429 t430 t431 _ ?side1 ?side2 ?side3 ?side4 A38.out).mono ?_
                                                (case side1 => repeat (first | exact (Kd.C_below HR425_0.out HB.out) | (with_reducible refine Kd.C_alloc ?_ _) | (with_reducible refine Kd.C_drewN ?_ _) | (with_reducible refine Kd.C_drew ?_)))
                                                (case side2 => exact HC425_0.out)
                                                (case side3 => repeat (first | exact (Kd.C_below HR426_0.out HB.out) | (with_reducible refine Kd.C_alloc ?_ _) | (with_reducible refine Kd.C_drewN ?_ _) | (with_reducible refine Kd.C_drew ?_)))
                                                (case side4 => exact HC426_0.out)
                                                rintro e w43 ⟨rfl,hb⟩
                                                refine ⟨_,rfl,?_⟩
                                                have n0_ := Aside0.mk (blk_below (g := gb422) (o := .cells #[.string t417,.string t418,.int .i64 t419,.int .i64 t420] 45 (0,0)) (by (with_reducible repeat (first | refine blk_drewN ?_ _ | refine blk_drew ?_ | refine blk_alloc ?_ _));exact BK422.out) hb)
                                                have n1_ := Aside0.mk (blk_below (g := gb432) (o := .cells #[.string (⟨#[]⟩ : ByteArray),.string (⟨#[]⟩ : ByteArray),.int .i64 0,.int .i64 0] 45 (0,0)) (by (with_reducible repeat (first | refine blk_drewN ?_ _ | refine blk_drew ?_ | refine blk_alloc ?_ _));exact BK432.out) hb)
                                                have n2_ := Aside0.mk (below_step (by repeat (first | (with_reducible first | exact HB.out | apply below_alloc | apply pw_below_drewN | apply below_drew1 | refine below_set ?_ GE422.out | refine below_set ?_ GE432.out) | exact HB.out)) hb)
                                                clear BK422
                                                clear BK432
                                                clear HB
                                                have BK422 := n0_
                                                have BK432 := n1_
                                                have HB := n2_
                                                clear n0_ n1_ n2_
                                                (try clear hb)
                                                (try clear hb2)
                                                (try clear hk)
                                                (try clear hi)
                                                refine hK.out _ _ ⟨((HB.out.cell (World.block_lt_of_cell? w _ hw425_0)).trans hw425_0),((HB.out.cell (World.block_lt_of_cell? w _ hw426_0)).trans hw426_0)⟩ (fun hHeld => ?_)
                                                clear hK K
                                                refine norm_ (a' := ?_) ?_ ?_
                                                rotate_left
                                                · show Act.put _ (some 81) _ = _
                                                  simp only [Act.put,zA,zB,zC,i64_w,i32_w]
                                                  rfl
                                                refine pure_ (i := 10) (N := some 71) (v := ?_) (a' := ?_) #[true,true,true,true,true,true,true,true,true,true,true,false,false,true,false,false] rfl rfl (any_of HT_.out (by kernel_rfl)) (fun _ _ _ h => h) (Or.inl ⟨by rfl,?_⟩) ?_ ?_
                                                rotate_left
                                                · intro w'
                                                  go_simp
                                                  with_reducible rfl
                                                rotate_left
                                                · simp only [Act.put,zA,zB,zC,i64_w,i32_w]
                                                  rfl
                                                refine pure_ (i := 11) (N := some 82) (v := ?_) (a' := ?_) #[true,true,true,true,true,true,true,true,true,true,true,true,false,true,false,false] rfl rfl (any_of HT_.out (by kernel_rfl)) (fun _ _ _ h => h) (Or.inl ⟨by rfl,?_⟩) ?_ ?_
                                                rotate_left
                                                · intro w'
                                                  go_simp
                                                  with_reducible rfl
                                                rotate_left
                                                · simp only [Act.put,zA,zB,zC,i64_w,i32_w]
                                                  rfl
                                                refine pure_ (i := 12) (N := some 83) (v := ?_) (a' := ?_) #[true,true,true,true,true,true,true,true,true,true,true,true,true,true,false,false] rfl rfl (any_of HT_.out (by kernel_rfl)) (fun _ _ _ h => h) (Or.inl ⟨by rfl,?_⟩) ?_ ?_
                                                rotate_left
                                                · intro w'
                                                  go_simp
                                                  with_reducible rfl
                                                rotate_left
                                                · simp only [Act.put,zA,zB,zC,i64_w,i32_w]
                                                  rfl
                                                exact norm_ (by simp only [putAll,Act.put,zA,zB,zC]) (hCont (gb432) _ ⟨hHeld,(by (with_reducible repeat (first | refine blk_drewN ?_ _ | refine blk_drew ?_ | refine blk_alloc ?_ _));exact BK422.out),(by (with_reducible repeat (first | refine blk_drewN ?_ _ | refine blk_drew ?_ | refine blk_alloc ?_ _));exact BK432.out),GW432.out,GE432.out,NB422_432.out,NB432_422.out,(by repeat (first | (with_reducible first | exact HB.out | apply below_alloc | apply pw_below_drewN | apply below_drew1 | refine below_set ?_ GE422.out | refine below_set ?_ GE432.out) | exact HB.out))⟩)
                                            rintro gb432 w44 ⟨hS_,h0_,h1_,h2_,h3_,h4_,h5_,h6_⟩
                                            have n0_ : Aside0 (w44.heap[gb422]? = some (.cells #[.string t417,.string t418,.int .i64 t419,.int .i64 t420] 45 (0,0))) := ⟨h0_⟩
                                            have n1_ : Aside0 (w44.heap[gb432]? = some (.cells #[.string (⟨#[]⟩ : ByteArray),.string (⟨#[]⟩ : ByteArray),.int .i64 0,.int .i64 0] 45 (0,0))) := ⟨h1_⟩
                                            have n2_ : Aside0 (w.heap.size ≤ gb432) := ⟨h2_⟩
                                            have n3_ : Aside0 (w.heap.size ≤ gb432) := ⟨h3_⟩
                                            have n4_ : Aside0 (gb422 ≠ gb432) := ⟨h4_⟩
                                            have n5_ : Aside0 (gb432 ≠ gb422) := ⟨h5_⟩
                                            have n6_ : Aside0 (Below w.heap.size w w44) := ⟨h6_⟩
                                            clear BK422
                                            clear HB
                                            clear h0_ h1_ h2_ h3_ h4_ h5_ h6_
                                            have BK422 := n0_
                                            have BK432 := n1_
                                            have GW432 := n2_
                                            have GE432 := n3_
                                            have NB422_432 := n4_
                                            have NB432_422 := n5_
                                            have HB := n6_
                                            clear n0_ n1_ n2_ n3_ n4_ n5_ n6_
                                            have hHeld : w44.cell? (ad414.add ((ji33)).toNat) = some (.slice A425_0 (rd_L5 l0 (ji33)).length c425_0) ∧ w44.cell? (ad414.add (x8_2).toNat) = some (.slice A426_0 (rd_L5 l0 x8_2).length c426_0) := hS_
                                            refine norm_ (a' := ?_) ?_ ?_
                                            rotate_left
                                            · simp only [putAll,Act.put,zA,zB,zC]
                                              rfl
                                            refine one_ (i := 14) (N := none) #[true,true,true,true,true,true,true,true,true,true,true,true,true,true,true,false] rfl rfl (one_of HT_.out (by kernel_rfl)) (by decide) (fun K hK => ?_)
                                            have hs45 : w44.cell? ⟨gb432,0,none⟩ = some (.string (⟨#[]⟩ : ByteArray)) := (blk_cell BK432.out 0).trans rfl
                                            have hfs45 := blk_frozen BK432.out 0
                                            have hns45_0 := NB422_432.out
                                            have hms45_0 := NB432_422.out
                                            have hs46 : w44.cell? ⟨gb432,1,none⟩ = some (.string (⟨#[]⟩ : ByteArray)) := (blk_cell BK432.out 1).trans rfl
                                            have hfs46 := blk_frozen BK432.out 1
                                            have hns46_0 := NB422_432.out
                                            have hms46_0 := NB432_422.out
                                            have hs47 : w44.cell? ⟨gb432,2,none⟩ = some (.int .i64 0) := (blk_cell BK432.out 2).trans rfl
                                            have hfs47 := blk_frozen BK432.out 2
                                            have hns47_0 := NB422_432.out
                                            have hms47_0 := NB432_422.out
                                            have hs48 : w44.cell? ⟨gb432,3,none⟩ = some (.int .i64 0) := (blk_cell BK432.out 3).trans rfl
                                            have hfs48 := blk_frozen BK432.out 3
                                            have hns48_0 := NB422_432.out
                                            have hms48_0 := NB432_422.out
                                            refine skip_ (w1 := ?_) (by rfl) rfl ?_ ?_
                                            rotate_left
                                            · go_simp
                                              rfl
                                            refine hK.out _ _ ⟨((cell_far (p := ⟨gb432,_,none⟩) (by first | exact Nat.ne_of_lt (Nat.lt_of_lt_of_le (by have := World.block_lt_of_cell? _ _ hw425_0;first | rwa [add_block] at this | exact this) GW432.out) | (rw [add_block];exact Nat.ne_of_lt (Nat.lt_of_lt_of_le (by have := World.block_lt_of_cell? _ _ hw425_0;first | rwa [add_block] at this | exact this) GW432.out)) | (show (Addr.add _ _).block ≠ _;rw [add_block];exact Nat.ne_of_lt (Nat.lt_of_lt_of_le (by have := World.block_lt_of_cell? _ _ hw425_0;first | rwa [add_block] at this | exact this) GW432.out)) | (dsimp only;exact Nat.ne_of_lt (Nat.lt_of_lt_of_le (by have := World.block_lt_of_cell? _ _ hw425_0;first | rwa [add_block] at this | exact this) GW432.out))) _).trans (((cell_far (p := ⟨gb432,_,none⟩) (by first | exact Nat.ne_of_lt (Nat.lt_of_lt_of_le (by have := World.block_lt_of_cell? _ _ hw425_0;first | rwa [add_block] at this | exact this) GW432.out) | (rw [add_block];exact Nat.ne_of_lt (Nat.lt_of_lt_of_le (by have := World.block_lt_of_cell? _ _ hw425_0;first | rwa [add_block] at this | exact this) GW432.out)) | (show (Addr.add _ _).block ≠ _;rw [add_block];exact Nat.ne_of_lt (Nat.lt_of_lt_of_le (by have := World.block_lt_of_cell? _ _ hw425_0;first | rwa [add_block] at this | exact this) GW432.out)) | (dsimp only;exact Nat.ne_of_lt (Nat.lt_of_lt_of_le (by have := World.block_lt_of_cell? _ _ hw425_0;first | rwa [add_block] at this | exact this) GW432.out))) _).trans (((cell_far (p := ⟨gb432,_,none⟩) (by first | exact Nat.ne_of_lt (Nat.lt_of_lt_of_le (by have := World.block_lt_of_cell? _ _ hw425_0;first | rwa [add_block] at this | exact this) GW432.out) | (rw [add_block];exact Nat.ne_of_lt (Nat.lt_of_lt_of_le (by have := World.block_lt_of_cell? _ _ hw425_0;first | rwa [add_block] at this | exact this) GW432.out)) | (show (Addr.add _ _).block ≠ _;rw [add_block];exact Nat.ne_of_lt (Nat.lt_of_lt_of_le (by have := World.block_lt_of_cell? _ _ hw425_0;first | rwa [add_block] at this | exact this) GW432.out)) | (dsimp only;exact Nat.ne_of_lt (Nat.lt_of_lt_of_le (by have := World.block_lt_of_cell? _ _ hw425_0;first | rwa [add_block] at this | exact this) GW432.out))) _).trans (((cell_far (p := ⟨gb432,_,none⟩) (by first | exact Nat.ne_of_lt (Nat.lt_of_lt_of_le (by have := World.block_lt_of_cell? _ _ hw425_0;first | rwa [add_block] at this | exact this) GW432.out) | (rw [add_block];exact Nat.ne_of_lt (Nat.lt_of_lt_of_le (by have := World.block_lt_of_cell? _ _ hw425_0;first | rwa [add_block] at this | exact this) GW432.out)) | (show (Addr.add _ _).block ≠ _;rw [add_block];exact Nat.ne_of_lt (Nat.lt_of_lt_of_le (by have := World.block_lt_of_cell? _ _ hw425_0;first | rwa [add_block] at this | exact this) GW432.out)) | (dsimp only;exact Nat.ne_of_lt (Nat.lt_of_lt_of_le (by have := World.block_lt_of_cell? _ _ hw425_0;first | rwa [add_block] at this | exact this) GW432.out))) _).trans (hHeld.1)))))))),((cell_far (p := ⟨gb432,_,none⟩) (by first | exact Nat.ne_of_lt (Nat.lt_of_lt_of_le (by have := World.block_lt_of_cell? _ _ hw426_0;first | rwa [add_block] at this | exact this) GW432.out) | (rw [add_block];exact Nat.ne_of_lt (Nat.lt_of_lt_of_le (by have := World.block_lt_of_cell? _ _ hw426_0;first | rwa [add_block] at this | exact this) GW432.out)) | (show (Addr.add _ _).block ≠ _;rw [add_block];exact Nat.ne_of_lt (Nat.lt_of_lt_of_le (by have := World.block_lt_of_cell? _ _ hw426_0;first | rwa [add_block] at this | exact this) GW432.out)) | (dsimp only;exact Nat.ne_of_lt (Nat.lt_of_lt_of_le (by have := World.block_lt_of_cell? _ _ hw426_0;first | rwa [add_block] at this | exact this) GW432.out))) _).trans (((cell_far (p := ⟨gb432,_,none⟩) (by first | exact Nat.ne_of_lt (Nat.lt_of_lt_of_le (by have := World.block_lt_of_cell? _ _ hw426_0;first | rwa [add_block] at this | exact this) GW432.out) | (rw [add_block];exact Nat.ne_of_lt (Nat.lt_of_lt_of_le (by have := World.block_lt_of_cell? _ _ hw426_0;first | rwa [add_block] at this | exact this) GW432.out)) | (show (Addr.add _ _).block ≠ _;rw [add_block];exact Nat.ne_of_lt (Nat.lt_of_lt_of_le (by have := World.block_lt_of_cell? _ _ hw426_0;first | rwa [add_block] at this | exact this) GW432.out)) | (dsimp only;exact Nat.ne_of_lt (Nat.lt_of_lt_of_le (by have := World.block_lt_of_cell? _ _ hw426_0;first | rwa [add_block] at this | exact this) GW432.out))) _).trans (((cell_far (p := ⟨gb432,_,none⟩) (by first | exact Nat.ne_of_lt (Nat.lt_of_lt_of_le (by have := World.block_lt_of_cell? _ _ hw426_0;first | rwa [add_block] at this | exact this) GW432.out) | (rw [add_block];exact Nat.ne_of_lt (Nat.lt_of_lt_of_le (by have := World.block_lt_of_cell? _ _ hw426_0;first | rwa [add_block] at this | exact this) GW432.out)) | (show (Addr.add _ _).block ≠ _;rw [add_block];exact Nat.ne_of_lt (Nat.lt_of_lt_of_le (by have := World.block_lt_of_cell? _ _ hw426_0;first | rwa [add_block] at this | exact this) GW432.out)) | (dsimp only;exact Nat.ne_of_lt (Nat.lt_of_lt_of_le (by have := World.block_lt_of_cell? _ _ hw426_0;first | rwa [add_block] at this | exact this) GW432.out))) _).trans (((cell_far (p := ⟨gb432,_,none⟩) (by first | exact Nat.ne_of_lt (Nat.lt_of_lt_of_le (by have := World.block_lt_of_cell? _ _ hw426_0;first | rwa [add_block] at this | exact this) GW432.out) | (rw [add_block];exact Nat.ne_of_lt (Nat.lt_of_lt_of_le (by have := World.block_lt_of_cell? _ _ hw426_0;first | rwa [add_block] at this | exact this) GW432.out)) | (show (Addr.add _ _).block ≠ _;rw [add_block];exact Nat.ne_of_lt (Nat.lt_of_lt_of_le (by have := World.block_lt_of_cell? _ _ hw426_0;first | rwa [add_block] at this | exact this) GW432.out)) | (dsimp only;exact Nat.ne_of_lt (Nat.lt_of_lt_of_le (by have := World.block_lt_of_cell? _ _ hw426_0;first | rwa [add_block] at this | exact this) GW432.out))) _).trans (hHeld.2))))))))⟩ (fun hHeld => ?_)
                                            clear hK K
                                            refine pure_ (i := 15) (N := some 12) (v := ?_) (a' := ?_) #[true,true,true,true,true,true,true,true,true,true,true,true,true,true,true,true] rfl rfl (any_of HT_.out (by kernel_rfl)) (fun _ _ _ h => h) (Or.inl ⟨by rfl,?_⟩) ?_ ?_
                                            rotate_left
                                            · intro w'
                                              go_simp
                                              with_reducible rfl
                                            rotate_left
                                            · simp only [Act.put,zA,zB,zC,i64_w,i32_w]
                                              rfl
                                            refine done_ (done_of HT_.out (by kernel_rfl)) ?_
                                            have hnb49 := NB422_432.out
                                            have hnc49 := NB432_422.out
                                            have hcz50_0 : w44.cell? ⟨gb422,0,none⟩ = some (.string t417) := (blk_cell BK422.out 0).trans rfl
                                            have hcz50_1 : w44.cell? ⟨gb422,1,none⟩ = some (.string t418) := (blk_cell BK422.out 1).trans rfl
                                            have hcz50_2 : w44.cell? ⟨gb422,2,none⟩ = some (.int .i64 t419) := (blk_cell BK422.out 2).trans rfl
                                            have hcz50_3 : w44.cell? ⟨gb422,3,none⟩ = some (.int .i64 t420) := (blk_cell BK422.out 3).trans rfl
                                            have hfz50_0 := blk_frozen BK422.out 0
                                            have hfz50_1 := blk_frozen BK422.out 1
                                            have hfz50_2 := blk_frozen BK422.out 2
                                            have hfz50_3 := blk_frozen BK422.out 3
                                            try go_wp2
                                            go_roundg kj24
                                            case measure => have := HJ3.out;have := HK2.out;have := HJ14.out;have := HJ24.out;omega
                                            case rel => exact ⟨(t420),(wrap64 (x8_2 + 1)),(by first | rfl | (simp;done) | (simp [*];done)),(by first | rfl | (simp;done) | (simp [*];done)),H',⟨by have := HJ3.out;have := HK2.out;have := HJ14.out;have := HJ24.out;omega⟩,⟨by repeat (first | (with_reducible first | exact HB.out | apply below_alloc | apply pw_below_drewN | apply below_drew1 | refine below_set ?_ GE422.out | refine below_set ?_ GE432.out) | exact HB.out)⟩⟩
                                        · rw [if_neg c39] at H
                                          have c39b0 : (t431 == 0) = false := beq_eq_false_iff_ne.mpr c39
                                          have c39b1 : (t431 != 0) = true := bne_iff_ne.mpr c39
                                          replace H := Option.bind_eq_some_iff.mp H
                                          obtain ⟨t433,A510,H⟩ := H
                                          replace H : (some t433) = some r := H
                                          have A51 := Aside0.mk A510
                                          clear A510
                                          obtain rfl := Option.some.inj H
                                          try go_wp2
                                          have n0_ := Aside0.mk (blk_drew BK422.out)
                                          have n1_ := Aside0.mk (below_drew1 HB.out)
                                          clear BK422
                                          clear HB
                                          have BK422 := n0_
                                          have HB := n1_
                                          clear n0_ n1_
                                          have p425 : 0 ≤ ((ji33) : Int) := of_decide_eq_true (by first | (with_reducible assumption) | assumption)
                                          have q425 : (ji33) < (l0.length : Int) := of_decide_eq_true (by first | (with_reducible assumption) | assumption)
                                          obtain ⟨ad425,A425_0,c425_0,e425,hx425_0,hl425_0,hi425_0⟩ := at_L5 HR0.out (ji33) p425 q425
                                          have hw425_0 := hx425_0
                                          obtain rfl : ad414 = ad425 := (by injection e425)
                                          replace hx425_0 := (HB.out.cell (World.block_lt_of_cell? w _ hx425_0)).trans hx425_0
                                          have HR425_0 := Aside0.mk hi425_0
                                          have HC425_0 := Aside0.mk hl425_0
                                          clear hi425_0 hl425_0
                                          replace p425 := eq_true p425
                                          replace q425 := eq_true q425
                                          have p426 : 0 ≤ (x8_2 : Int) := of_decide_eq_true (by first | (with_reducible assumption) | assumption)
                                          have q426 : x8_2 < (l0.length : Int) := of_decide_eq_true (by first | (with_reducible assumption) | assumption)
                                          obtain ⟨ad426,A426_0,c426_0,e426,hx426_0,hl426_0,hi426_0⟩ := at_L5 HR0.out x8_2 p426 q426
                                          have hw426_0 := hx426_0
                                          obtain rfl : ad414 = ad426 := (by injection e426)
                                          replace hx426_0 := (HB.out.cell (World.block_lt_of_cell? w _ hx426_0)).trans hx426_0
                                          have HR426_0 := Aside0.mk hi426_0
                                          have HC426_0 := Aside0.mk hl426_0
                                          clear hi426_0 hl426_0
                                          replace p426 := eq_true p426
                                          replace q426 := eq_true q426
                                          refine start_ (n := 16) (S := fun w' => w'.cell? (ad414.add ((ji33)).toNat) = some (.slice A425_0 (rd_L5 l0 (ji33)).length c425_0) ∧ w'.cell? (ad414.add (x8_2).toNat) = some (.slice A426_0 (rd_L5 l0 x8_2).length c426_0)) (ds := []) #[false,false,false,false,false,false,false,false,false,false,false,false,false,false,false,false] (by kernel_rfl) rfl rfl ⟨((HB.out.cell (World.block_lt_of_cell? w _ hw425_0)).trans hw425_0),((HB.out.cell (World.block_lt_of_cell? w _ hw426_0)).trans hw426_0)⟩ (fun hHeld => ?_);refine with_tabW verdererlaw28_QuotaKeeps.tab16 verdererlaw28_QuotaKeeps.bits16 (fun HT_ HW_ => ?_)
                                          generalize wc.drew = w52 at BK422 HB HR425_0 HR426_0 hx425_0 hx426_0 hHeld ⊢
                                          refine pure_ (i := 0) (N := some 72) (v := ?_) (a' := ?_) #[true,false,false,false,false,false,false,false,false,false,false,false,false,false,false,false] rfl rfl (any_of HT_.out (by kernel_rfl)) (fun _ _ _ h => h) (Or.inl ⟨by rfl,?_⟩) ?_ ?_
                                          rotate_left
                                          · intro w'
                                            go_simp
                                            with_reducible rfl
                                          rotate_left
                                          · simp only [Act.put,zA,zB,zC,i64_w,i32_w]
                                            rfl
                                          refine pure_ (i := 1) (N := some 73) (v := ?_) (a' := ?_) #[true,true,false,false,false,false,false,false,false,false,false,false,false,false,false,false] rfl rfl (any_of HT_.out (by kernel_rfl)) (fun _ _ _ h => h) (Or.inl ⟨by rfl,?_⟩) ?_ ?_
                                          rotate_left
                                          · intro w'
                                            go_simp
                                            with_reducible rfl
                                          rotate_left
                                          · simp only [Act.put,zA,zB,zC,i64_w,i32_w]
                                            rfl
                                          refine pure_ (i := 2) (N := some 74) (v := ?_) (a' := ?_) #[true,true,true,false,false,false,false,false,false,false,false,false,false,false,false,false] rfl rfl (any_of HT_.out (by kernel_rfl)) (fun _ _ _ h => h) (Or.inl ⟨by rfl,?_⟩) ?_ ?_
                                          rotate_left
                                          · intro w'
                                            go_simp
                                            with_reducible rfl
                                          rotate_left
                                          · simp only [Act.put,zA,zB,zC,i64_w,i32_w]
                                            rfl
                                          refine pure_ (i := 3) (N := some 75) (v := ?_) (a' := ?_) #[true,true,true,true,false,false,false,false,false,false,false,false,false,false,false,false] rfl rfl (any_of HT_.out (by kernel_rfl)) (fun _ _ _ h => h) (Or.inl ⟨by rfl,?_⟩) ?_ ?_
                                          rotate_left
                                          · intro w'
                                            go_simp
                                            with_reducible rfl
                                          rotate_left
                                          · simp only [Act.put,zA,zB,zC,i64_w,i32_w]
                                            rfl
                                          refine pure_ (i := 5) (N := some 77) (v := ?_) (a' := ?_) #[true,true,true,true,false,true,false,false,false,false,false,false,false,false,false,false] rfl rfl (any_of HT_.out (by kernel_rfl)) (fun _ _ _ h => h) (Or.inl ⟨by rfl,?_⟩) ?_ ?_
                                          rotate_left
                                          · intro w'
                                            go_simp
                                            with_reducible rfl
                                          rotate_left
                                          · simp only [Act.put,zA,zB,zC,i64_w,i32_w]
                                            rfl
                                          refine pure_ (i := 6) (N := some 78) (v := ?_) (a' := ?_) #[true,true,true,true,false,true,true,false,false,false,false,false,false,false,false,false] rfl rfl (any_of HT_.out (by kernel_rfl)) (fun _ _ _ h => h) (Or.inl ⟨by rfl,?_⟩) ?_ ?_
                                          rotate_left
                                          · intro w'
                                            go_simp
                                            with_reducible rfl
                                          rotate_left
                                          · simp only [Act.put,zA,zB,zC,i64_w,i32_w]
                                            rfl
                                          refine pure_ (i := 7) (N := some 79) (v := ?_) (a' := ?_) #[true,true,true,true,false,true,true,true,false,false,false,false,false,false,false,false] rfl rfl (any_of HT_.out (by kernel_rfl)) (fun _ _ _ h => h) (Or.inl ⟨by rfl,?_⟩) ?_ ?_
                                          rotate_left
                                          · intro w'
                                            go_simp
                                            with_reducible rfl
                                          rotate_left
                                          · simp only [Act.put,zA,zB,zC,i64_w,i32_w]
                                            rfl
                                          refine take_ (i := 4) (N := some 76) (v := ?_) (a' := ?_) #[true,true,true,true,true,true,true,true,false,false,false,false,false,false,false,false] rfl rfl (take_ofW HT_.out HW_.out (by kernel_rfl)) (fun _ _ _ h => h) (Or.inl ⟨by rfl,?_⟩) hHeld ?_ ?_
                                          rotate_left
                                          · rintro w' ⟨s0,s1⟩
                                            go_simp
                                            with_reducible rfl
                                          rotate_left
                                          · simp only [Act.put,zA,zB,zC,i64_w,i32_w]
                                            rfl
                                          refine take_ (i := 8) (N := some 80) (v := ?_) (a' := ?_) #[true,true,true,true,true,true,true,true,true,false,false,false,false,false,false,false] rfl rfl (take_ofW HT_.out HW_.out (by kernel_rfl)) (fun _ _ _ h => h) (Or.inl ⟨by rfl,?_⟩) hHeld ?_ ?_
                                          rotate_left
                                          · rintro w' ⟨s0,s1⟩
                                            go_simp
                                            with_reducible rfl
                                          rotate_left
                                          · simp only [Act.put,zA,zB,zC,i64_w,i32_w]
                                            rfl
                                          refine join_ (σ := Nat) 2 #[true,true,true,true,true,true,true,true,true,true,true,true,true,true,false,false] (fun s_ => [(81,.tuple #[.agg #[.string t427,.string t428,.int .i64 t429,.int .i64 t430],.int .i64 t431]),(11,.pointer (some ⟨s_,0,none⟩)),(71,.tuple #[.agg #[.string t427,.string t428,.int .i64 t429,.int .i64 t430],.int .i64 t431]),(82,.agg #[.string t427,.string t428,.int .i64 t429,.int .i64 t430]),(83,.int .i64 t431)]) (fun s_ w' => (w'.cell? (ad414.add ((ji33)).toNat) = some (.slice A425_0 (rd_L5 l0 (ji33)).length c425_0) ∧ w'.cell? (ad414.add (x8_2).toNat) = some (.slice A426_0 (rd_L5 l0 x8_2).length c426_0)) ∧ (w'.heap[gb422]? = some (.cells #[.string t417,.string t418,.int .i64 t419,.int .i64 t420] 45 (0,0))) ∧ (w'.heap[s_]? = some (.cells #[.string (⟨#[]⟩ : ByteArray),.string (⟨#[]⟩ : ByteArray),.int .i64 0,.int .i64 0] 45 (0,0))) ∧ (w.heap.size ≤ s_) ∧ (w.heap.size ≤ s_) ∧ (gb422 ≠ s_) ∧ (s_ ≠ gb422) ∧ (Below w.heap.size w w')) ?_ ?_
                                          rotate_left
                                          · intro hCont
                                            refine two_ (i := 9) (j := 13) (Ni := some 81) (Nj := some 11) #[true,true,true,true,true,true,true,true,true,true,false,false,false,false,false,false] #[true,true,true,true,true,true,true,true,true,false,false,false,false,true,false,false] rfl rfl rfl rfl (two_of HT_.out (by kernel_rfl)) (by decide) (by decide) (fun K hK => ?_) (fun K hK => ?_)
                                            · skip
                                              refine goes_ Try.func45 (by kernel_rfl) rfl #[.slice A425_0 (rd_L5 l0 (ji33)).length c425_0,.slice A426_0 (rd_L5 l0 x8_2).length c426_0] (by rfl) rfl rfl (by (try simp only [List.map_toArray,List.map_cons,List.map_nil]);first | done | (simp only [hji33];rfl) | rfl | (simp only [List.length_drop,List.length_take];rfl)) ?_
                                              with_reducible refine (quota_Judge.calls kj24 _ _ (rd_L5 l0 (ji33)) _ _ (rd_L5 l0 x8_2) t427 t428 t429 t430 t431 _ ?side1 ?side2 ?side3 ?side4 A38.out).mono ?_
                                              (case side1 => repeat (first | exact (Kd.C_below HR425_0.out HB.out) | (with_reducible refine Kd.C_alloc ?_ _) | (with_reducible refine Kd.C_drewN ?_ _) | (with_reducible refine Kd.C_drew ?_)))
                                              (case side2 => exact HC425_0.out)
                                              (case side3 => repeat (first | exact (Kd.C_below HR426_0.out HB.out) | (with_reducible refine Kd.C_alloc ?_ _) | (with_reducible refine Kd.C_drewN ?_ _) | (with_reducible refine Kd.C_drew ?_)))
                                              (case side4 => exact HC426_0.out)
                                              rintro e w53 ⟨rfl,hb⟩
                                              refine ⟨_,rfl,?_⟩
                                              have n0_ := Aside0.mk (blk_below (g := gb422) (o := .cells #[.string t417,.string t418,.int .i64 t419,.int .i64 t420] 45 (0,0)) (by (with_reducible repeat (first | refine blk_drewN ?_ _ | refine blk_drew ?_ | refine blk_alloc ?_ _));exact BK422.out) hb)
                                              have n1_ := Aside0.mk (below_step (by repeat (first | (with_reducible first | exact HB.out | apply below_alloc | apply pw_below_drewN | apply below_drew1 | refine below_set ?_ GE422.out) | exact HB.out)) hb)
                                              clear BK422
                                              clear HB
                                              have BK422 := n0_
                                              have HB := n1_
                                              clear n0_ n1_
                                              (try clear hb)
                                              (try clear hb2)
                                              (try clear hk)
                                              (try clear hi)
                                              refine hK.out _ _ ⟨((HB.out.cell (World.block_lt_of_cell? w _ hw425_0)).trans hw425_0),((HB.out.cell (World.block_lt_of_cell? w _ hw426_0)).trans hw426_0)⟩ (fun hHeld => ?_)
                                              clear hK K
                                              refine norm_ (a' := ?_) ?_ ?_
                                              rotate_left
                                              · show Act.put _ (some 81) _ = _
                                                simp only [Act.put,zA,zB,zC,i64_w,i32_w]
                                                rfl
                                              refine pure_ (i := 10) (N := some 71) (v := ?_) (a' := ?_) #[true,true,true,true,true,true,true,true,true,true,true,false,false,false,false,false] rfl rfl (any_of HT_.out (by kernel_rfl)) (fun _ _ _ h => h) (Or.inl ⟨by rfl,?_⟩) ?_ ?_
                                              rotate_left
                                              · intro w'
                                                go_simp
                                                with_reducible rfl
                                              rotate_left
                                              · simp only [Act.put,zA,zB,zC,i64_w,i32_w]
                                                rfl
                                              refine pure_ (i := 11) (N := some 82) (v := ?_) (a' := ?_) #[true,true,true,true,true,true,true,true,true,true,true,true,false,false,false,false] rfl rfl (any_of HT_.out (by kernel_rfl)) (fun _ _ _ h => h) (Or.inl ⟨by rfl,?_⟩) ?_ ?_
                                              rotate_left
                                              · intro w'
                                                go_simp
                                                with_reducible rfl
                                              rotate_left
                                              · simp only [Act.put,zA,zB,zC,i64_w,i32_w]
                                                rfl
                                              refine pure_ (i := 12) (N := some 83) (v := ?_) (a' := ?_) #[true,true,true,true,true,true,true,true,true,true,true,true,true,false,false,false] rfl rfl (any_of HT_.out (by kernel_rfl)) (fun _ _ _ h => h) (Or.inl ⟨by rfl,?_⟩) ?_ ?_
                                              rotate_left
                                              · intro w'
                                                go_simp
                                                with_reducible rfl
                                              rotate_left
                                              · simp only [Act.put,zA,zB,zC,i64_w,i32_w]
                                                rfl
                                              refine one_ (i := 13) (N := some 11) #[true,true,true,true,true,true,true,true,true,true,true,true,true,true,false,false] rfl rfl (one_of HT_.out (by kernel_rfl)) (by decide) (fun K hK => ?_)
                                              refine box_step ?hg (N := 11) ?hd (cs := #[.string (⟨#[]⟩ : ByteArray),.string (⟨#[]⟩ : ByteArray),.int .i64 0,.int .i64 0]) (t := 45) ?hr ?_;(case hd => rfl);(case hg => rfl);(case hr => first | (go_simp;done) | (go_simp;rfl))
                                              intro gb432 hg w54 hbox hb
                                              have n0_ := Aside0.mk (blk_below (g := gb422) (o := .cells #[.string t417,.string t418,.int .i64 t419,.int .i64 t420] 45 (0,0)) (by (with_reducible repeat (first | refine blk_drewN ?_ _ | refine blk_drew ?_ | refine blk_alloc ?_ _));exact BK422.out) hb)
                                              have n1_ := Aside0.mk (below_step (by repeat (first | (with_reducible first | exact HB.out | apply below_alloc | apply pw_below_drewN | apply below_drew1 | refine below_set ?_ GE422.out) | exact HB.out)) hb)
                                              have n2_ := Aside0.mk (hbox)
                                              have n3_ := Aside0.mk ((by rw [hg];exact (below_size (by repeat (first | (with_reducible first | exact HB.out | apply below_alloc | apply pw_below_drewN | apply below_drew1 | refine below_set ?_ GE422.out) | exact HB.out))) : w.heap.size ≤ gb432))
                                              have n4_ := Aside0.mk ((by rw [hg];exact (below_size (by repeat (first | (with_reducible first | exact HB.out | apply below_alloc | apply pw_below_drewN | apply below_drew1 | refine below_set ?_ GE422.out) | exact HB.out))) : w.heap.size ≤ gb432))
                                              have n5_ := Aside0.mk ((by rw [hg];exact Nat.ne_of_lt (blk_lt (g := gb422) (o := .cells #[.string t417,.string t418,.int .i64 t419,.int .i64 t420] 45 (0,0)) (by (with_reducible repeat (first | refine blk_drewN ?_ _ | refine blk_drew ?_ | refine blk_alloc ?_ _));exact BK422.out)) : gb422 ≠ gb432))
                                              have n6_ := Aside0.mk ((by rw [hg];exact Nat.ne_of_gt (blk_lt (g := gb422) (o := .cells #[.string t417,.string t418,.int .i64 t419,.int .i64 t420] 45 (0,0)) (by (with_reducible repeat (first | refine blk_drewN ?_ _ | refine blk_drew ?_ | refine blk_alloc ?_ _));exact BK422.out)) : gb432 ≠ gb422))
                                              clear BK422
                                              clear HB
                                              have BK422 := n0_
                                              have HB := n1_
                                              have BK432 := n2_
                                              have GW432 := n3_
                                              have GE432 := n4_
                                              have NB422_432 := n5_
                                              have NB432_422 := n6_
                                              clear n0_ n1_ n2_ n3_ n4_ n5_ n6_
                                              clear hb hbox hg
                                              refine hK.out _ _ ⟨((HB.out.cell (World.block_lt_of_cell? w _ hw425_0)).trans hw425_0),((HB.out.cell (World.block_lt_of_cell? w _ hw426_0)).trans hw426_0)⟩ (fun hHeld => ?_)
                                              clear hK K
                                              refine norm_ (a' := ?_) ?_ ?_
                                              rotate_left
                                              · show Act.put _ (some 11) _ = _
                                                simp only [Act.put,zA,zB,zC,i64_w,i32_w]
                                                rfl
                                              exact norm_ (by simp only [putAll,Act.put,zA,zB,zC]) (hCont (gb432) _ ⟨hHeld,(by (with_reducible repeat (first | refine blk_drewN ?_ _ | refine blk_drew ?_ | refine blk_alloc ?_ _));exact BK422.out),(by (with_reducible repeat (first | refine blk_drewN ?_ _ | refine blk_drew ?_ | refine blk_alloc ?_ _));exact BK432.out),GW432.out,GE432.out,NB422_432.out,NB432_422.out,(by repeat (first | (with_reducible first | exact HB.out | apply below_alloc | apply pw_below_drewN | apply below_drew1 | refine below_set ?_ GE422.out | refine below_set ?_ GE432.out) | exact HB.out))⟩)
                                            · skip
                                              refine box_step ?hg (N := 11) ?hd (cs := #[.string (⟨#[]⟩ : ByteArray),.string (⟨#[]⟩ : ByteArray),.int .i64 0,.int .i64 0]) (t := 45) ?hr ?_;(case hd => rfl);(case hg => rfl);(case hr => first | (go_simp;done) | (go_simp;rfl))
                                              intro gb432 hg w53 hbox hb
                                              have n0_ := Aside0.mk (blk_below (g := gb422) (o := .cells #[.string t417,.string t418,.int .i64 t419,.int .i64 t420] 45 (0,0)) (by (with_reducible repeat (first | refine blk_drewN ?_ _ | refine blk_drew ?_ | refine blk_alloc ?_ _));exact BK422.out) hb)
                                              have n1_ := Aside0.mk (below_step (by repeat (first | (with_reducible first | exact HB.out | apply below_alloc | apply pw_below_drewN | apply below_drew1 | refine below_set ?_ GE422.out) | exact HB.out)) hb)
                                              have n2_ := Aside0.mk (hbox)
                                              have n3_ := Aside0.mk ((by rw [hg];exact (below_size (by repeat (first | (with_reducible first | exact HB.out | apply below_alloc | apply pw_below_drewN | apply below_drew1 | refine below_set ?_ GE422.out) | exact HB.out))) : w.heap.size ≤ gb432))
                                              have n4_ := Aside0.mk ((by rw [hg];exact (below_size (by repeat (first | (with_reducible first | exact HB.out | apply below_alloc | apply pw_below_drewN | apply below_drew1 | refine below_set ?_ GE422.out) | exact HB.out))) : w.heap.size ≤ gb432))
                                              have n5_ := Aside0.mk ((by rw [hg];exact Nat.ne_of_lt (blk_lt (g := gb422) (o := .cells #[.string t417,.string t418,.int .i64 t419,.int .i64 t420] 45 (0,0)) (by (with_reducible repeat (first | refine blk_drewN ?_ _ | refine blk_drew ?_ | refine blk_alloc ?_ _));exact BK422.out)) : gb422 ≠ gb432))
                                              have n6_ := Aside0.mk ((by rw [hg];exact Nat.ne_of_gt (blk_lt (g := gb422) (o := .cells #[.string t417,.string t418,.int .i64 t419,.int .i64 t420] 45 (0,0)) (by (with_reducible repeat (first | refine blk_drewN ?_ _ | refine blk_drew ?_ | refine blk_alloc ?_ _));exact BK422.out)) : gb432 ≠ gb422))
                                              clear BK422
                                              clear HB
                                              have BK422 := n0_
                                              have HB := n1_
                                              have BK432 := n2_
                                              have GW432 := n3_
                                              have GE432 := n4_
                                              have NB422_432 := n5_
                                              have NB432_422 := n6_
                                              clear n0_ n1_ n2_ n3_ n4_ n5_ n6_
                                              clear hb hbox hg
                                              refine hK.out _ _ ⟨((HB.out.cell (World.block_lt_of_cell? w _ hw425_0)).trans hw425_0),((HB.out.cell (World.block_lt_of_cell? w _ hw426_0)).trans hw426_0)⟩ (fun hHeld => ?_)
                                              clear hK K
                                              refine norm_ (a' := ?_) ?_ ?_
                                              rotate_left
                                              · show Act.put _ (some 11) _ = _
                                                simp only [Act.put,zA,zB,zC,i64_w,i32_w]
                                                rfl
                                              refine one_ (i := 9) (N := some 81) #[true,true,true,true,true,true,true,true,true,true,false,false,false,true,false,false] rfl rfl (one_of HT_.out (by kernel_rfl)) (by decide) (fun K hK => ?_)
                                              refine goes_ Try.func45 (by kernel_rfl) rfl #[.slice A425_0 (rd_L5 l0 (ji33)).length c425_0,.slice A426_0 (rd_L5 l0 x8_2).length c426_0] (by rfl) rfl rfl (by (try simp only [List.map_toArray,List.map_cons,List.map_nil]);first | done | (simp only [hji33];rfl) | rfl | (simp only [List.length_drop,List.length_take];rfl)) ?_
                                              with_reducible refine (quota_Judge.calls kj24 _ _ (rd_L5 l0 (ji33)) _ _ (rd_L5 l0 x8_2) t427 t428 t429 t430 t431 _ ?side1 ?side2 ?side3 ?side4 A38.out).mono ?_
                                              (case side1 => repeat (first | exact (Kd.C_below HR425_0.out HB.out) | (with_reducible refine Kd.C_alloc ?_ _) | (with_reducible refine Kd.C_drewN ?_ _) | (with_reducible refine Kd.C_drew ?_)))
                                              (case side2 => exact HC425_0.out)
                                              (case side3 => repeat (first | exact (Kd.C_below HR426_0.out HB.out) | (with_reducible refine Kd.C_alloc ?_ _) | (with_reducible refine Kd.C_drewN ?_ _) | (with_reducible refine Kd.C_drew ?_)))
                                              (case side4 => exact HC426_0.out)
                                              rintro e w54 ⟨rfl,hb⟩
                                              refine ⟨_,rfl,?_⟩
                                              have n0_ := Aside0.mk (blk_below (g := gb422) (o := .cells #[.string t417,.string t418,.int .i64 t419,.int .i64 t420] 45 (0,0)) (by (with_reducible repeat (first | refine blk_drewN ?_ _ | refine blk_drew ?_ | refine blk_alloc ?_ _));exact BK422.out) hb)
                                              have n1_ := Aside0.mk (blk_below (g := gb432) (o := .cells #[.string (⟨#[]⟩ : ByteArray),.string (⟨#[]⟩ : ByteArray),.int .i64 0,.int .i64 0] 45 (0,0)) (by (with_reducible repeat (first | refine blk_drewN ?_ _ | refine blk_drew ?_ | refine blk_alloc ?_ _));exact BK432.out) hb)
                                              have n2_ := Aside0.mk (below_step (by repeat (first | (with_reducible first | exact HB.out | apply below_alloc | apply pw_below_drewN | apply below_drew1 | refine below_set ?_ GE422.out | refine below_set ?_ GE432.out) | exact HB.out)) hb)
                                              clear BK422
                                              clear BK432
                                              clear HB
                                              have BK422 := n0_
                                              have BK432 := n1_
                                              have HB := n2_
                                              clear n0_ n1_ n2_
                                              (try clear hb)
                                              (try clear hb2)
                                              (try clear hk)
                                              (try clear hi)
                                              refine hK.out _ _ ⟨((HB.out.cell (World.block_lt_of_cell? w _ hw425_0)).trans hw425_0),((HB.out.cell (World.block_lt_of_cell? w _ hw426_0)).trans hw426_0)⟩ (fun hHeld => ?_)
                                              clear hK K
                                              refine norm_ (a' := ?_) ?_ ?_
                                              rotate_left
                                              · show Act.put _ (some 81) _ = _
                                                simp only [Act.put,zA,zB,zC,i64_w,i32_w]
                                                rfl
                                              refine pure_ (i := 10) (N := some 71) (v := ?_) (a' := ?_) #[true,true,true,true,true,true,true,true,true,true,true,false,false,true,false,false] rfl rfl (any_of HT_.out (by kernel_rfl)) (fun _ _ _ h => h) (Or.inl ⟨by rfl,?_⟩) ?_ ?_
                                              rotate_left
                                              · intro w'
                                                go_simp
                                                with_reducible rfl
                                              rotate_left
                                              · simp only [Act.put,zA,zB,zC,i64_w,i32_w]
                                                rfl
                                              refine pure_ (i := 11) (N := some 82) (v := ?_) (a' := ?_) #[true,true,true,true,true,true,true,true,true,true,true,true,false,true,false,false] rfl rfl (any_of HT_.out (by kernel_rfl)) (fun _ _ _ h => h) (Or.inl ⟨by rfl,?_⟩) ?_ ?_
                                              rotate_left
                                              · intro w'
                                                go_simp
                                                with_reducible rfl
                                              rotate_left
                                              · simp only [Act.put,zA,zB,zC,i64_w,i32_w]
                                                rfl
                                              refine pure_ (i := 12) (N := some 83) (v := ?_) (a' := ?_) #[true,true,true,true,true,true,true,true,true,true,true,true,true,true,false,false] rfl rfl (any_of HT_.out (by kernel_rfl)) (fun _ _ _ h => h) (Or.inl ⟨by rfl,?_⟩) ?_ ?_
                                              rotate_left
                                              · intro w'
                                                go_simp
                                                with_reducible rfl
                                              rotate_left
                                              · simp only [Act.put,zA,zB,zC,i64_w,i32_w]
                                                rfl
                                              exact norm_ (by simp only [putAll,Act.put,zA,zB,zC]) (hCont (gb432) _ ⟨hHeld,(by (with_reducible repeat (first | refine blk_drewN ?_ _ | refine blk_drew ?_ | refine blk_alloc ?_ _));exact BK422.out),(by (with_reducible repeat (first | refine blk_drewN ?_ _ | refine blk_drew ?_ | refine blk_alloc ?_ _));exact BK432.out),GW432.out,GE432.out,NB422_432.out,NB432_422.out,(by repeat (first | (with_reducible first | exact HB.out | apply below_alloc | apply pw_below_drewN | apply below_drew1 | refine below_set ?_ GE422.out | refine below_set ?_ GE432.out) | exact HB.out))⟩)
                                          rintro gb432 w55 ⟨hS_,h0_,h1_,h2_,h3_,h4_,h5_,h6_⟩
                                          have n0_ : Aside0 (w55.heap[gb422]? = some (.cells #[.string t417,.string t418,.int .i64 t419,.int .i64 t420] 45 (0,0))) := ⟨h0_⟩
                                          have n1_ : Aside0 (w55.heap[gb432]? = some (.cells #[.string (⟨#[]⟩ : ByteArray),.string (⟨#[]⟩ : ByteArray),.int .i64 0,.int .i64 0] 45 (0,0))) := ⟨h1_⟩
                                          have n2_ : Aside0 (w.heap.size ≤ gb432) := ⟨h2_⟩
                                          have n3_ : Aside0 (w.heap.size ≤ gb432) := ⟨h3_⟩
                                          have n4_ : Aside0 (gb422 ≠ gb432) := ⟨h4_⟩
                                          have n5_ : Aside0 (gb432 ≠ gb422) := ⟨h5_⟩
                                          have n6_ : Aside0 (Below w.heap.size w w55) := ⟨h6_⟩
                                          clear BK422
                                          clear HB
                                          clear h0_ h1_ h2_ h3_ h4_ h5_ h6_
                                          have BK422 := n0_
                                          have BK432 := n1_
                                          have GW432 := n2_
                                          have GE432 := n3_
                                          have NB422_432 := n4_
                                          have NB432_422 := n5_
                                          have HB := n6_
                                          clear n0_ n1_ n2_ n3_ n4_ n5_ n6_
                                          have hHeld : w55.cell? (ad414.add ((ji33)).toNat) = some (.slice A425_0 (rd_L5 l0 (ji33)).length c425_0) ∧ w55.cell? (ad414.add (x8_2).toNat) = some (.slice A426_0 (rd_L5 l0 x8_2).length c426_0) := hS_
                                          refine norm_ (a' := ?_) ?_ ?_
                                          rotate_left
                                          · simp only [putAll,Act.put,zA,zB,zC]
                                            rfl
                                          refine one_ (i := 14) (N := none) #[true,true,true,true,true,true,true,true,true,true,true,true,true,true,true,false] rfl rfl (one_of HT_.out (by kernel_rfl)) (by decide) (fun K hK => ?_)
                                          have hs56 : w55.cell? ⟨gb432,0,none⟩ = some (.string (⟨#[]⟩ : ByteArray)) := (blk_cell BK432.out 0).trans rfl
                                          have hfs56 := blk_frozen BK432.out 0
                                          have hns56_0 := NB422_432.out
                                          have hms56_0 := NB432_422.out
                                          have hs57 : w55.cell? ⟨gb432,1,none⟩ = some (.string (⟨#[]⟩ : ByteArray)) := (blk_cell BK432.out 1).trans rfl
                                          have hfs57 := blk_frozen BK432.out 1
                                          have hns57_0 := NB422_432.out
                                          have hms57_0 := NB432_422.out
                                          have hs58 : w55.cell? ⟨gb432,2,none⟩ = some (.int .i64 0) := (blk_cell BK432.out 2).trans rfl
                                          have hfs58 := blk_frozen BK432.out 2
                                          have hns58_0 := NB422_432.out
                                          have hms58_0 := NB432_422.out
                                          have hs59 : w55.cell? ⟨gb432,3,none⟩ = some (.int .i64 0) := (blk_cell BK432.out 3).trans rfl
                                          have hfs59 := blk_frozen BK432.out 3
                                          have hns59_0 := NB422_432.out
                                          have hms59_0 := NB432_422.out
                                          refine skip_ (w1 := ?_) (by rfl) rfl ?_ ?_
                                          rotate_left
                                          · go_simp
                                            rfl
                                          refine hK.out _ _ ⟨((cell_far (p := ⟨gb432,_,none⟩) (by first | exact Nat.ne_of_lt (Nat.lt_of_lt_of_le (by have := World.block_lt_of_cell? _ _ hw425_0;first | rwa [add_block] at this | exact this) GW432.out) | (rw [add_block];exact Nat.ne_of_lt (Nat.lt_of_lt_of_le (by have := World.block_lt_of_cell? _ _ hw425_0;first | rwa [add_block] at this | exact this) GW432.out)) | (show (Addr.add _ _).block ≠ _;rw [add_block];exact Nat.ne_of_lt (Nat.lt_of_lt_of_le (by have := World.block_lt_of_cell? _ _ hw425_0;first | rwa [add_block] at this | exact this) GW432.out)) | (dsimp only;exact Nat.ne_of_lt (Nat.lt_of_lt_of_le (by have := World.block_lt_of_cell? _ _ hw425_0;first | rwa [add_block] at this | exact this) GW432.out))) _).trans (((cell_far (p := ⟨gb432,_,none⟩) (by first | exact Nat.ne_of_lt (Nat.lt_of_lt_of_le (by have := World.block_lt_of_cell? _ _ hw425_0;first | rwa [add_block] at this | exact this) GW432.out) | (rw [add_block];exact Nat.ne_of_lt (Nat.lt_of_lt_of_le (by have := World.block_lt_of_cell? _ _ hw425_0;first | rwa [add_block] at this | exact this) GW432.out)) | (show (Addr.add _ _).block ≠ _;rw [add_block];exact Nat.ne_of_lt (Nat.lt_of_lt_of_le (by have := World.block_lt_of_cell? _ _ hw425_0;first | rwa [add_block] at this | exact this) GW432.out)) | (dsimp only;exact Nat.ne_of_lt (Nat.lt_of_lt_of_le (by have := World.block_lt_of_cell? _ _ hw425_0;first | rwa [add_block] at this | exact this) GW432.out))) _).trans (((cell_far (p := ⟨gb432,_,none⟩) (by first | exact Nat.ne_of_lt (Nat.lt_of_lt_of_le (by have := World.block_lt_of_cell? _ _ hw425_0;first | rwa [add_block] at this | exact this) GW432.out) | (rw [add_block];exact Nat.ne_of_lt (Nat.lt_of_lt_of_le (by have := World.block_lt_of_cell? _ _ hw425_0;first | rwa [add_block] at this | exact this) GW432.out)) | (show (Addr.add _ _).block ≠ _;rw [add_block];exact Nat.ne_of_lt (Nat.lt_of_lt_of_le (by have := World.block_lt_of_cell? _ _ hw425_0;first | rwa [add_block] at this | exact this) GW432.out)) | (dsimp only;exact Nat.ne_of_lt (Nat.lt_of_lt_of_le (by have := World.block_lt_of_cell? _ _ hw425_0;first | rwa [add_block] at this | exact this) GW432.out))) _).trans (((cell_far (p := ⟨gb432,_,none⟩) (by first | exact Nat.ne_of_lt (Nat.lt_of_lt_of_le (by have := World.block_lt_of_cell? _ _ hw425_0;first | rwa [add_block] at this | exact this) GW432.out) | (rw [add_block];exact Nat.ne_of_lt (Nat.lt_of_lt_of_le (by have := World.block_lt_of_cell? _ _ hw425_0;first | rwa [add_block] at this | exact this) GW432.out)) | (show (Addr.add _ _).block ≠ _;rw [add_block];exact Nat.ne_of_lt (Nat.lt_of_lt_of_le (by have := World.block_lt_of_cell? _ _ hw425_0;first | rwa [add_block] at this | exact this) GW432.out)) | (dsimp only;exact Nat.ne_of_lt (Nat.lt_of_lt_of_le (by have := World.block_lt_of_cell? _ _ hw425_0;first | rwa [add_block] at this | exact this) GW432.out))) _).trans (hHeld.1)))))))),((cell_far (p := ⟨gb432,_,none⟩) (by first | exact Nat.ne_of_lt (Nat.lt_of_lt_of_le (by have := World.block_lt_of_cell? _ _ hw426_0;first | rwa [add_block] at this | exact this) GW432.out) | (rw [add_block];exact Nat.ne_of_lt (Nat.lt_of_lt_of_le (by have := World.block_lt_of_cell? _ _ hw426_0;first | rwa [add_block] at this | exact this) GW432.out)) | (show (Addr.add _ _).block ≠ _;rw [add_block];exact Nat.ne_of_lt (Nat.lt_of_lt_of_le (by have := World.block_lt_of_cell? _ _ hw426_0;first | rwa [add_block] at this | exact this) GW432.out)) | (dsimp only;exact Nat.ne_of_lt (Nat.lt_of_lt_of_le (by have := World.block_lt_of_cell? _ _ hw426_0;first | rwa [add_block] at this | exact this) GW432.out))) _).trans (((cell_far (p := ⟨gb432,_,none⟩) (by first | exact Nat.ne_of_lt (Nat.lt_of_lt_of_le (by have := World.block_lt_of_cell? _ _ hw426_0;first | rwa [add_block] at this | exact this) GW432.out) | (rw [add_block];exact Nat.ne_of_lt (Nat.lt_of_lt_of_le (by have := World.block_lt_of_cell? _ _ hw426_0;first | rwa [add_block] at this | exact this) GW432.out)) | (show (Addr.add _ _).block ≠ _;rw [add_block];exact Nat.ne_of_lt (Nat.lt_of_lt_of_le (by have := World.block_lt_of_cell? _ _ hw426_0;first | rwa [add_block] at this | exact this) GW432.out)) | (dsimp only;exact Nat.ne_of_lt (Nat.lt_of_lt_of_le (by have := World.block_lt_of_cell? _ _ hw426_0;first | rwa [add_block] at this | exact this) GW432.out))) _).trans (((cell_far (p := ⟨gb432,_,none⟩) (by first | exact Nat.ne_of_lt (Nat.lt_of_lt_of_le (by have := World.block_lt_of_cell? _ _ hw426_0;first | rwa [add_block] at this | exact this) GW432.out) | (rw [add_block];exact Nat.ne_of_lt (Nat.lt_of_lt_of_le (by have := World.block_lt_of_cell? _ _ hw426_0;first | rwa [add_block] at this | exact this) GW432.out)) | (show (Addr.add _ _).block ≠ _;rw [add_block];exact Nat.ne_of_lt (Nat.lt_of_lt_of_le (by have := World.block_lt_of_cell? _ _ hw426_0;first | rwa [add_block] at this | exact this) GW432.out)) | (dsimp only;exact Nat.ne_of_lt (Nat.lt_of_lt_of_le (by have := World.block_lt_of_cell? _ _ hw426_0;first | rwa [add_block] at this | exact this) GW432.out))) _).trans (((cell_far (p := ⟨gb432,_,none⟩) (by first | exact Nat.ne_of_lt (Nat.lt_of_lt_of_le (by have := World.block_lt_of_cell? _ _ hw426_0;first | rwa [add_block] at this | exact this) GW432.out) | (rw [add_block];exact Nat.ne_of_lt (Nat.lt_of_lt_of_le (by have := World.block_lt_of_cell? _ _ hw426_0;first | rwa [add_block] at this | exact this) GW432.out)) | (show (Addr.add _ _).block ≠ _;rw [add_block];exact Nat.ne_of_lt (Nat.lt_of_lt_of_le (by have := World.block_lt_of_cell? _ _ hw426_0;first | rwa [add_block] at this | exact this) GW432.out)) | (dsimp only;exact Nat.ne_of_lt (Nat.lt_of_lt_of_le (by have := World.block_lt_of_cell? _ _ hw426_0;first | rwa [add_block] at this | exact this) GW432.out))) _).trans (hHeld.2))))))))⟩ (fun hHeld => ?_)
                                          clear hK K
                                          refine pure_ (i := 15) (N := some 12) (v := ?_) (a' := ?_) #[true,true,true,true,true,true,true,true,true,true,true,true,true,true,true,true] rfl rfl (any_of HT_.out (by kernel_rfl)) (fun _ _ _ h => h) (Or.inl ⟨by rfl,?_⟩) ?_ ?_
                                          rotate_left
                                          · intro w'
                                            go_simp
                                            with_reducible rfl
                                          rotate_left
                                          · simp only [Act.put,zA,zB,zC,i64_w,i32_w]
                                            rfl
                                          refine done_ (done_of HT_.out (by kernel_rfl)) ?_
                                          try go_wp2_with (first | ((with_reducible refine gate_callee (f := 44) rfl ?_);refine goesL_ (some 86) rfl rfl Try.func44 (by kernel_rfl) rfl #[] rfl (by (try simp only [List.map_toArray,List.map_cons,List.map_nil]);first | done | rfl | (simp only [List.length_drop,List.length_take];rfl)) ?_;(with_reducible refine (verdererlaw28_known.calls kj24  t433 _ A51.out).mono ?_);rintro e w60 ⟨rfl,hb⟩;refine ⟨_,rfl,?_⟩;have n0_ := Aside0.mk (blk_below (g := gb422) (o := .cells #[.string t417,.string t418,.int .i64 t419,.int .i64 t420] 45 (0,0)) (by (with_reducible repeat (first | refine blk_drewN ?_ _ | refine blk_drew ?_ | refine blk_alloc ?_ _));refine blk_far ?_ NB422_432.out _;(with_reducible repeat (first | refine blk_drewN ?_ _ | refine blk_drew ?_ | refine blk_alloc ?_ _));refine blk_far ?_ NB422_432.out _;(with_reducible repeat (first | refine blk_drewN ?_ _ | refine blk_drew ?_ | refine blk_alloc ?_ _));refine blk_far ?_ NB422_432.out _;(with_reducible repeat (first | refine blk_drewN ?_ _ | refine blk_drew ?_ | refine blk_alloc ?_ _));refine blk_far ?_ NB422_432.out _;(with_reducible repeat (first | refine blk_drewN ?_ _ | refine blk_drew ?_ | refine blk_alloc ?_ _));exact BK422.out) hb);have n1_ := Aside0.mk (blk_below (g := gb432) (o := .cells #[.string t427,.string t428,.int .i64 t429,.int .i64 t430] 45 (0,0)) (by (with_reducible repeat (first | refine blk_drewN ?_ _ | refine blk_drew ?_ | refine blk_alloc ?_ _));refine blk_put (cs := #[.string t427,.string t428,.int .i64 t429,.int .i64 0]) ?_ 3 _ rfl;(with_reducible repeat (first | refine blk_drewN ?_ _ | refine blk_drew ?_ | refine blk_alloc ?_ _));refine blk_put (cs := #[.string t427,.string t428,.int .i64 0,.int .i64 0]) ?_ 2 _ rfl;(with_reducible repeat (first | refine blk_drewN ?_ _ | refine blk_drew ?_ | refine blk_alloc ?_ _));refine blk_put (cs := #[.string t427,.string (⟨#[]⟩ : ByteArray),.int .i64 0,.int .i64 0]) ?_ 1 _ rfl;(with_reducible repeat (first | refine blk_drewN ?_ _ | refine blk_drew ?_ | refine blk_alloc ?_ _));refine blk_put (cs := #[.string (⟨#[]⟩ : ByteArray),.string (⟨#[]⟩ : ByteArray),.int .i64 0,.int .i64 0]) ?_ 0 _ rfl;(with_reducible repeat (first | refine blk_drewN ?_ _ | refine blk_drew ?_ | refine blk_alloc ?_ _));exact BK432.out) hb);have n2_ := Aside0.mk (below_step (by repeat (first | (with_reducible first | exact HB.out | apply below_alloc | apply pw_below_drewN | apply below_drew1 | refine below_set ?_ GE422.out | refine below_set ?_ GE432.out) | exact HB.out)) hb);clear BK422;clear BK432;clear HB;have BK422 := n0_;have BK432 := n1_;have HB := n2_;clear n0_ n1_ n2_;(try clear hb);(try clear hb2);(try clear hk);(try clear hi)))
                                          go_ret
                                          exact ⟨by first | rfl | (simp [errW_none,errW_some] <;> rfl) | (simp only [← hji33];first | rfl | (simp [errW_none,errW_some] <;> rfl)) | (simp [*,errW_none,errW_some] <;> rfl),by repeat (first | (with_reducible first | exact HB.out | apply below_alloc | apply pw_below_drewN | apply below_drew1 | refine below_set ?_ GE422.out | refine below_set ?_ GE432.out) | exact HB.out)⟩
                                      · rw [if_neg c37] at H
                                        exact absurd H (by simp)
                                    · rw [if_neg c36] at H
                                      exact absurd H (by simp)
                                  · rw [if_neg c35] at H
                                    exact absurd H (by simp)
                                · rw [if_neg c34] at H
                                  exact absurd H (by simp)
                              · rw [if_neg c32] at H
                                have c32b0 : decide (0 < x8_2) = false := decide_eq_false c32
                                clear c32
                                by_cases c61 : t419 > t420
                                · rw [if_pos c61] at H
                                  exact absurd H (by simp)
                                · rw [if_neg c61] at H
                                  have c61b0 : decide (t420 < t419) = false := decide_eq_false c61
                                  clear c61
                                  have H' := Aside0.mk H
                                  clear H
                                  have hcz62_0 : wc.cell? ⟨gb422,0,none⟩ = some (.string t417) := (blk_cell BK422.out 0).trans rfl
                                  have hcz62_1 : wc.cell? ⟨gb422,1,none⟩ = some (.string t418) := (blk_cell BK422.out 1).trans rfl
                                  have hcz62_2 : wc.cell? ⟨gb422,2,none⟩ = some (.int .i64 t419) := (blk_cell BK422.out 2).trans rfl
                                  have hcz62_3 : wc.cell? ⟨gb422,3,none⟩ = some (.int .i64 t420) := (blk_cell BK422.out 3).trans rfl
                                  have hfz62_0 := blk_frozen BK422.out 0
                                  have hfz62_1 := blk_frozen BK422.out 1
                                  have hfz62_2 := blk_frozen BK422.out 2
                                  have hfz62_3 := blk_frozen BK422.out 3
                                  go_wp2
                                  go_roundg kj24
                                  case measure => have := HJ3.out;have := HK2.out;have := HJ14.out;have := HJ24.out;omega
                                  case rel => exact ⟨(t420),(wrap64 (x8_2 + 1)),(by first | rfl | (simp;done) | (simp [*];done)),(by first | rfl | (simp;done) | (simp [*];done)),H',⟨by have := HJ3.out;have := HK2.out;have := HJ14.out;have := HJ24.out;omega⟩,⟨by repeat (first | (with_reducible first | exact HB.out | apply below_alloc | apply pw_below_drewN | apply below_drew1 | refine below_set ?_ GE422.out) | exact HB.out)⟩⟩
              · rw [if_neg c10] at H
                exact absurd H (by simp)
            · rw [if_neg c9] at H
              have c9b0 : decide (x8_2 < (l0.length : Int)) = false := decide_eq_false c9
              clear c9
              replace H := Option.bind_eq_some_iff.mp H
              obtain ⟨t413,A630,H⟩ := H
              replace H : (some t413) = some r := H
              have A63 := Aside0.mk A630
              clear A630
              obtain rfl := Option.some.inj H
              go_wp2_with (first | ((with_reducible refine gate_callee (f := 44) rfl ?_);refine goesL_ (some 91) rfl rfl Try.func44 (by kernel_rfl) rfl #[] rfl (by (try simp only [List.map_toArray,List.map_cons,List.map_nil]);first | done | rfl | (simp only [List.length_drop,List.length_take];rfl)) ?_;(with_reducible refine (verdererlaw28_known.calls k2  t413 _ A63.out).mono ?_);rintro e w64 ⟨rfl,hb⟩;refine ⟨_,rfl,?_⟩;have n0_ := Aside0.mk (below_step (by repeat (first | (with_reducible first | exact HB.out | apply below_alloc | apply pw_below_drewN | apply below_drew1) | exact HB.out)) hb);clear HB;have HB := n0_;clear n0_;(try clear hb);(try clear hb2);(try clear hk);(try clear hi)))
              go_ret
              exact ⟨by first | rfl | (simp [errW_none,errW_some] <;> rfl) | (simp [*,errW_none,errW_some] <;> rfl),by repeat (first | (with_reducible first | exact HB.out | apply below_alloc | apply pw_below_drewN | apply below_drew1) | exact HB.out)⟩
end Go.Proofs.Ytcenlehfbgnphaa.Z
end
section
namespace Go.Proofs.YtcenlehfbgnphaaW.PrintWords
open Go.RowKit Go.ChangeShapes Go.WideShapes
section
variable {P : Program} {α β : Type}
def OfTrod (P : Program) (t : TypeId) (d : Kd α) (G : α → Prop) : Prop :=
  ∀ (H : Type) (enc : TypeId × Value → H) (w : World) (base : Nat) (spare : Nat → Bool) (held : Bool) (fuel : Nat) (cs : List Value) (x : DataW H × List MemPlace),DataW.trod enc P w base spare held fuel t cs = some x → ∃ s,d.K w s cs ∧ G s
theorem ofTrod_int {t : TypeId} {k : IntKind} (ht : P.underlying t = some (.int k)) : OfTrod P t (Kd.int k) (fun n => (Lit.int k n).wf = true) := by
  intro H enc w base spare held fuel cs x h
  obtain ⟨n,rfl,_,hw⟩ := DataW.trod_int ht h
  exact ⟨n,rfl,hw⟩
theorem ofTrod_string {t : TypeId} (ht : P.underlying t = some .string) : OfTrod P t Kd.string (fun s => s.size ≤ maxLen) := by
  intro H enc w base spare held fuel cs x h
  obtain ⟨s,rfl,_,hs⟩ := DataW.trod_string ht h
  exact ⟨s,rfl,hs⟩
theorem list_of_all {n : Nat} {Q : Nat → α → Prop} (h : ∀ i,i < n → ∃ x,Q i x) : ∃ xs : List α,xs.length = n ∧ ∀ i x,xs[i]? = some x → Q i x := by
  induction n with
  | zero => exact ⟨[],rfl,fun i x hx => by simp at hx⟩
  | succ n ih =>
    obtain ⟨xs,hl,hx⟩ := ih (fun i hi => h i (by omega))
    obtain ⟨y,hy⟩ := h n (by omega)
    refine ⟨xs ++ [y],by simp [hl],fun i x hi => ?_⟩
    rcases Nat.lt_trichotomy i xs.length with hlt | rfl | hgt
    · rw [List.getElem?_append_left hlt] at hi
      exact hx i x hi
    · rw [List.getElem?_append_right (Nat.le_refl _)] at hi
      simp at hi
      subst hi
      rw [hl]
      exact hy
    · rw [List.getElem?_append_right (by omega),List.getElem?_eq_none (by simp;omega)] at hi
      cases hi
theorem ofTrod_slice {t e : TypeId} {d : Kd α} {G : α → Prop} (ht : P.underlying t = some (.slice e)) (hc : P.cellsOf e = d.sz) (h : OfTrod P e d G) :
    OfTrod P t (Kd.slice e d) (fun l => l.length ≤ maxLen ∧ ∀ x ∈ l,G x) := by
  intro H enc w base spare held fuel cs x hx
  rcases Go.Deep.open_slice ht hx with ⟨rfl,_⟩ | ⟨a,len,cap,m,n,D,Pl,rfl,_,hl,hm,hmm,_,hel⟩
  · exact ⟨[],⟨none,0,rfl,Nat.le_refl _,Kd.C_nil d w⟩,by simp,fun x hx => by simp at hx⟩
  · have hlm : len ≤ m := by rw [hmm];split <;> omega
    obtain ⟨xs,hxl,hxs⟩ := list_of_all (n := len) (Q := fun i s => ∃ cs',w.cells? base (a.add (i * P.cellsOf e)) (P.cellsOf e) = some cs' ∧ d.K w s cs' ∧ G s) (fun i hi => by
      obtain ⟨cs',h1,h2⟩ := hel i (by omega)
      obtain ⟨s,h3,h4⟩ := h _ _ _ _ _ _ _ _ _ h2
      exact ⟨s,cs',h1,h3,h4⟩)
    refine ⟨xs,⟨some a,cap,by rw [hxl],by omega,rfl,by rw [hxl];unfold maxLen at hm;omega,fun _ => ⟨a,rfl,fun j p hp => ?_⟩⟩,by omega,fun x hx => ?_⟩
    · obtain ⟨cs',h1,h2,_⟩ := hxs j p hp
      obtain ⟨_,hcl,hcell⟩ := World.cells?_some h1
      refine ⟨cs',by rw [hcl,hc],h2,fun i u hu => ?_⟩
      have hi : i < P.cellsOf e := by
        rw [← hcl]
        exact (List.getElem?_eq_some_iff.1 hu).1
      have := hcell i hi
      rw [Go.Deep.add_add,hc] at this
      rw [this]
      exact hu
    · obtain ⟨i,hi,rfl⟩ := List.getElem_of_mem hx
      obtain ⟨_,_,_,h4⟩ := hxs i xs[i] (List.getElem?_eq_getElem hi)
      exact h4
def segOff (segs : List (TypeId × Nat)) (i : Nat) : Nat := ((segs.take i).map (·.2)).sum
def OfSegs (P : Program) (segs : List (TypeId × Nat)) (d : Kd α) (G : α → Prop) : Prop :=
  ∀ (H : Type) (enc : TypeId × Value → H) (w : World) (base : Nat) (spare : Nat → Bool) (held : Bool) (fuel : Nat) (cs : List Value),cs.length = segOff segs segs.length →
    (∀ i t c,segs[i]? = some (t,c) → ∃ x,DataW.trod enc P w base spare held fuel t ((cs.drop (segOff segs i)).take c) = some x) → ∃ s,d.K w s cs ∧ G s
theorem ofSegs_one {t : TypeId} {c : Nat} {d : Kd α} {G : α → Prop} (h : OfTrod P t d G) : OfSegs P [(t,c)] d G := by
  intro H enc w base spare held fuel cs hl hx
  obtain ⟨x,h1⟩ := hx 0 t c rfl
  have hl2 : cs.length = c := by simpa [segOff] using hl
  have e : ((cs.drop (segOff [(t,c)] 0)).take c) = cs := by simp [segOff,← hl2]
  rw [e] at h1
  exact h _ _ _ _ _ _ _ _ _ h1
theorem ofSegs_cons {t : TypeId} {c : Nat} {ts : List (TypeId × Nat)} {d : Kd α} {d' : Kd β} {G : α → Prop} {G' : β → Prop} (h : OfTrod P t d G) (h' : OfSegs P ts d' G') : OfSegs P ((t,c) :: ts) (Kd.pair d d') (fun x => G x.1 ∧ G' x.2) := by
  intro H enc w base spare held fuel cs hl hx
  obtain ⟨x,h1⟩ := hx 0 t c rfl
  have e : ((cs.drop (segOff ((t,c) :: ts) 0)).take c) = cs.take c := by simp [segOff]
  rw [e] at h1
  obtain ⟨s,h2,h3⟩ := h _ _ _ _ _ _ _ _ _ h1
  have hl' : (cs.drop c).length = segOff ts ts.length := by
    simp [segOff] at hl ⊢
    omega
  obtain ⟨s',h4,h5⟩ := h' H enc w base spare held fuel (cs.drop c) hl' (fun i t' c' hi => by
    obtain ⟨y,hy⟩ := hx (i + 1) t' c' (by simpa using hi)
    refine ⟨y,?_⟩
    have e2 : segOff ((t,c) :: ts) (i + 1) = c + segOff ts i := by simp [segOff]
    rw [e2] at hy
    rw [List.drop_drop]
    exact hy)
  exact ⟨(s,s'),⟨cs.take c,cs.drop c,(List.take_append_drop c cs).symm,h2,h4⟩,h3,h5⟩
theorem ofTrod_struct {t : TypeId} {fs : Array Field} {segs : List (TypeId × Nat)} {d : Kd α} {G : α → Prop} (ht : P.underlying t = some (.struct fs)) (hc : P.cellsOf t = segOff segs segs.length) (hn : fs.size = segs.length)
    (hfs : ∀ i (f : Field),fs[i]? = some f → segs[i]? = some (f.type,P.cellsOf f.type) ∧ f.offset = segOff segs i) (h : OfSegs P segs d G) : OfTrod P t d G := by
  intro H enc w base spare held fuel cs x hx
  obtain ⟨xs,n,_,_,hl,hxl,hf⟩ := DataW.trod_struct ht hx
  refine h H enc w base spare held n cs (by rw [hl,hc]) (fun i t' c' hi => ?_)
  have hlt : i < fs.size := by rw [hn];exact (List.getElem?_eq_some_iff.1 hi).1
  obtain ⟨h1,h2⟩ := hfs i fs[i] (Array.getElem?_eq_getElem hlt)
  rw [hi] at h1
  injection h1 with h1
  injection h1 with h1 h3
  have h4 := hf i fs[i] (Array.getElem?_eq_getElem hlt)
  rw [h2,← h3,← h1] at h4
  have hlt2 : i < xs.length := by omega
  rw [List.getElem?_eq_getElem hlt2] at h4
  exact ⟨_,h4⟩
theorem ofTrod_iso {t : TypeId} {d : Kd α} {G : α → Prop} (f : β → α) (g : α → β) (hg : ∀ a,f (g a) = a) (h : OfTrod P t d G) : OfTrod P t (Kd.iso d f) (fun x => G (f x)) := by
  intro H enc w base spare held fuel cs x hx
  obtain ⟨s,h1,h2⟩ := h _ _ _ _ _ _ _ _ _ hx
  exact ⟨g s,by show d.K w (f (g s)) cs;rw [hg];exact h1,by show G (f (g s));rw [hg];exact h2⟩
theorem cell_heap {w w' : World} (h : w.heap = w'.heap) (a : Addr) : w'.cell? a = w.cell? a := by unfold World.cell?;rw [h]
end
end Go.Proofs.YtcenlehfbgnphaaW.PrintWords
end
section
namespace Go.Proofs.Ytcenlehfbgnphaa.Z
open Go.RowKit Go.Proofs.YtcenlehfbgnphaaW.PrintWords Go.Proofs.YtcenlehfbgnphaaW.PrintLast Go.Proofs.YtcenlehfbgnphaaW.PrintMore
set_option maxRecDepth 100000
def G45 (x : S45) : Prop := (x.f0.size ≤ maxLen) ∧ (x.f1.size ≤ maxLen) ∧ ((Lit.int .i64 x.f2).wf = true) ∧ ((Lit.int .i64 x.f3).wf = true)
theorem of45 : OfTrod Try.prog 45 k45 G45 :=
  ofTrod_iso _ (fun a => (⟨a.1,a.2.1,a.2.2.1,a.2.2.2⟩ : S45)) (fun _ => rfl) (ofTrod_struct (segs := [(9,1),(9,1),(2,1),(2,1)]) Try.underlying45 (by kernel_rfl) rfl
    (by
      intro i f hf
      rcases i with _ | _ | _ | _ | i <;> simp at hf <;> subst hf <;> exact ⟨congrArg some (Prod.ext rfl (by kernel_rfl)),rfl⟩) (ofSegs_cons (ofTrod_string Try.underlying9) (ofSegs_cons (ofTrod_string Try.underlying9) (ofSegs_cons (ofTrod_int Try.underlying2) (ofSegs_one (ofTrod_int Try.underlying2))))))
end Go.Proofs.Ytcenlehfbgnphaa.Z
end
section
namespace Go.Proofs.Ytcenlehfbgnphaa.Z
open Go.RowKit Go.Proofs.YtcenlehfbgnphaaW.PrintWords Go.Proofs.YtcenlehfbgnphaaW.PrintLast Go.Proofs.YtcenlehfbgnphaaW.PrintMore
attribute [local go_sem] max2_int min2_int max_two min_two max_three min_three max_four min_four
set_option linter.unusedVariables false
set_option linter.unusedSimpArgs false
def verdererref28_Over.l0 : Nat → List (S45) → List (S45) → Int → Option ((List (S45)))
  | 0,_,_,_ => none
  | k + 1,x0,x3,x4 => if x4 < (x0.length : Int) then (if 0 ≤ x4 then (if ((rd_T45 x0 x4).f2) > ((rd_T45 x0 x4).f3) then (if x3.length < 2932031007402 then (verdererref28_Over.l0 k x0 (x3 ++ [(⟨(rd_T45 x0 x4).f0,(rd_T45 x0 x4).f1,(rd_T45 x0 x4).f2,(rd_T45 x0 x4).f3⟩ : S45)]) (wrap64 (x4 + 1))) else (none)) else (verdererref28_Over.l0 k x0 x3 (wrap64 (x4 + 1)))) else (none)) else (some x3)
def verdererref28_Over.f (k : Nat) (l0 : List (S45)) : Option ((List (S45))) := verdererref28_Over.l0 k l0 ([] : List (S45)) 0
theorem verdererref28_Over.mono_l : ∀ k,(∀ y0 y1 y2,LeO (verdererref28_Over.l0 k y0 y1 y2) (verdererref28_Over.l0 (k + 1) y0 y1 y2))
  | 0 => fun _ _ _ r h => by simp [verdererref28_Over.l0] at h
  | k + 1 => by
    have ih0 := verdererref28_Over.mono_l k
    · intro y0 y1 y2
      unfold verdererref28_Over.l0
      repeat' first
      | (with_reducible exact ih0 _ _ _)
      | (with_reducible exact LeO.refl _)
      | (with_reducible exact LeO.none _)
      | (with_reducible refine LeO.ite ?_ ?_)
      | (with_reducible refine LeO.bind ?_ (fun _ => ?_))
      | exact ih0 _ _ _
      | exact LeO.none _
      | refine LeO.ite ?_ ?_
      | refine LeO.bind ?_ (fun _ => ?_)
theorem verdererref28_Over.mono : ∀ a0 k,LeO (verdererref28_Over.f k a0) (verdererref28_Over.f (k + 1) a0) := by
  intro a0 k
  have ih0 := verdererref28_Over.mono_l k
  unfold verdererref28_Over.f
  repeat' first
      | (with_reducible exact ih0 _ _ _)
      | (with_reducible exact LeO.refl _)
      | (with_reducible exact LeO.none _)
      | (with_reducible refine LeO.ite ?_ ?_)
      | (with_reducible refine LeO.bind ?_ (fun _ => ?_))
      | exact ih0 _ _ _
      | exact LeO.none _
      | refine LeO.ite ?_ ?_
      | refine LeO.bind ?_ (fun _ => ?_)
set_option maxHeartbeats 8000000 in
set_option maxRecDepth 100000 in
theorem verdererref28_Over.calls (k : Nat) (A0 : Option Addr) (c0 : Nat) (l0 : List (S45)) (r : List (S45)) (w : World) (hr0 : Kd.C k45 w A0 l0.length l0) (hc0 : l0.length ≤ c0) (h : verdererref28_Over.f k l0 = some r) :
    Calls Try.prog 50 #[.slice A0 l0.length c0] w fun e w' => ∃ v0_ : Value,e = .returned (v0_) ∧ Kd.R k45 45 w' w.heap.size (fun _ => True) v0_ r ∧ Below w.heap.size w w' := by
  have hu45 := Try.underlying45
  have HR0 := Aside0.mk hr0
  have HC0 := Aside0.mk hc0
  clear hr0 hc0
  have HB := Aside0.mk (Below.refl w.heap.size w)
  have H : (verdererref28_Over.l0 k l0 ([] : List (S45)) 0) = some r := h
  clear h
  have H' := Aside0.mk H
  clear H
  go_enter Try.func50,Try.ntmps50
  go_wp2
  repeat (go_quiet (fail);try go_wp2)
  go_loopg [3,4] k (fun kq v3 v4 w' => ∃ (x3_1 : List (S45)) (x4_1 : Int),v4 = .int .i64 x4_1 ∧ Aside0 (verdererref28_Over.l0 kq l0 x3_1 x4_1 = some r) ∧ Aside0 (kq ≤ k) ∧ Aside0 (Kd.R k45 45 w' w.heap.size (fun _ => True) v3 x3_1) ∧ Aside0 (Below w.heap.size w w'))
  case atStart => exact ⟨(([] : List (S45))),(0),(by first | rfl | (simp;done) | (simp [*];done)),H',⟨Nat.le_refl _⟩,⟨by first | exact Kd.R_nil _ _ _ _ _ | exact Kd.N_nil _ _ _ _ _ | exact Kd.V_nil _ _ _ _ _ | exact Kd.Q_nil _ _ _ _ _ | exact Kd.S_nil _ _ _ _ _⟩,⟨by repeat (first | (with_reducible first | exact HB.out | apply below_alloc | apply pw_below_drewN | apply below_drew1) | exact HB.out)⟩⟩
  case round =>
    clear H'
    obtain ⟨x3_1,x4_1,rfl,HA,HK1,HO_3,HB⟩ := hrel
    cases gk with
    | zero => exact absurd HA.out (by simp [verdererref28_Over.l0])
    | succ k1 =>
      have H := HA.out
      clear HA
      simp only [verdererref28_Over.l0] at H
      by_cases c2 : x4_1 < (l0.length : Int)
      · rw [if_pos c2] at H
        have c2b0 : decide (x4_1 < (l0.length : Int)) = true := decide_eq_true c2
        clear c2
        by_cases c3 : 0 ≤ x4_1
        · rw [if_pos c3] at H
          have c3b0 : decide (0 ≤ x4_1) = true := decide_eq_true c3
          clear c3
          by_cases c4 : ((rd_T45 l0 x4_1).f2) > ((rd_T45 l0 x4_1).f3)
          · rw [if_pos c4] at H
            have c4b0 : decide (((rd_T45 l0 x4_1).f3) < ((rd_T45 l0 x4_1).f2)) = true := decide_eq_true c4
            clear c4
            by_cases c5 : x3_1.length < 2932031007402
            · rw [if_pos c5] at H
              have LMc5 := Aside0.mk c5
              clear c5
              obtain ⟨y311,hy311⟩ : ∃ y_ : List (S45),y_ = (x3_1 ++ [(⟨(rd_T45 l0 x4_1).f0,(rd_T45 l0 x4_1).f1,(rd_T45 l0 x4_1).f2,(rd_T45 l0 x4_1).f3⟩ : S45)]) := ⟨_,rfl⟩
              replace H : (verdererref28_Over.l0 k1 l0 y311 (wrap64 (x4_1 + 1))) = some r := by first | (rw [hy311];with_reducible exact H) | (have H2_ := (Option.bind_some _ _).symm.trans H;rw [hy311];with_reducible exact H2_) | (have H2_ := (Option.bind_some _ _).symm.trans H;with_reducible exact H2_) | with_reducible exact H | (rw [hy311];exact H) | exact H
              have Ny311 := Aside0.mk hy311
              clear hy311
              have H' := Aside0.mk H
              clear H
              have p308 : 0 ≤ (x4_1 : Int) := of_decide_eq_true (by first | (with_reducible assumption) | assumption)
              have q308 : x4_1 < (l0.length : Int) := of_decide_eq_true (by first | (with_reducible assumption) | assumption)
              obtain ⟨ad308,e308,hx308_0,hx308_1,hx308_2,hx308_3⟩ := at_T45 HR0.out x4_1 p308 q308
              cases e308
              replace hx308_0 := (HB.out.cell (World.block_lt_of_cell? w _ hx308_0)).trans hx308_0
              replace hx308_1 := (HB.out.cell (World.block_lt_of_cell? w _ hx308_1)).trans hx308_1
              replace hx308_2 := (HB.out.cell (World.block_lt_of_cell? w _ hx308_2)).trans hx308_2
              replace hx308_3 := (HB.out.cell (World.block_lt_of_cell? w _ hx308_3)).trans hx308_3
              replace p308 := eq_true p308
              replace q308 := eq_true q308
              have p309 : 0 ≤ (x4_1 : Int) := of_decide_eq_true (by first | (with_reducible assumption) | assumption)
              have q309 : x4_1 < (l0.length : Int) := of_decide_eq_true (by first | (with_reducible assumption) | assumption)
              obtain ⟨ad309,e309,hx309_0,hx309_1,hx309_2,hx309_3⟩ := at_T45 HR0.out x4_1 p309 q309
              obtain rfl : ad308 = ad309 := (by injection e309)
              replace hx309_0 := (HB.out.cell (World.block_lt_of_cell? w _ hx309_0)).trans hx309_0
              replace hx309_1 := (HB.out.cell (World.block_lt_of_cell? w _ hx309_1)).trans hx309_1
              replace hx309_2 := (HB.out.cell (World.block_lt_of_cell? w _ hx309_2)).trans hx309_2
              replace hx309_3 := (HB.out.cell (World.block_lt_of_cell? w _ hx309_3)).trans hx309_3
              replace p309 := eq_true p309
              replace q309 := eq_true q309
              have p310 : 0 ≤ (x4_1 : Int) := of_decide_eq_true (by first | (with_reducible assumption) | assumption)
              have q310 : x4_1 < (l0.length : Int) := of_decide_eq_true (by first | (with_reducible assumption) | assumption)
              obtain ⟨ad310,e310,hx310_0,hx310_1,hx310_2,hx310_3⟩ := at_T45 HR0.out x4_1 p310 q310
              obtain rfl : ad308 = ad310 := (by injection e310)
              replace hx310_0 := (HB.out.cell (World.block_lt_of_cell? w _ hx310_0)).trans hx310_0
              replace hx310_1 := (HB.out.cell (World.block_lt_of_cell? w _ hx310_1)).trans hx310_1
              replace hx310_2 := (HB.out.cell (World.block_lt_of_cell? w _ hx310_2)).trans hx310_2
              replace hx310_3 := (HB.out.cell (World.block_lt_of_cell? w _ hx310_3)).trans hx310_3
              replace p310 := eq_true p310
              replace q310 := eq_true q310
              go_wp2_with (first | ((with_reducible refine gate_builtin (b := .append) (xs := #[.tmp 22,.tmp 27]) rfl ?_);at_builtin;refine Kd.R_append k45 (w0 := w) w.heap.size rfl (.tmp 22) (.tmp 27) 53 45 (.agg #[(.string ⟨#[]⟩),(.string ⟨#[]⟩),(.int .i64 0),(.int .i64 0)]) 48 rfl Try.underlying53 info45 rfl (by decide) (by omega) u3 x3_1 (⟨(rd_T45 l0 x4_1).f0,(rd_T45 l0 x4_1).f1,(rd_T45 l0 x4_1).f2,(rd_T45 l0 x4_1).f3⟩ : S45) [.string ((rd_T45 l0 x4_1).f0),.string ((rd_T45 l0 x4_1).f1),.int .i64 ((rd_T45 l0 x4_1).f2),.int .i64 ((rd_T45 l0 x4_1).f3)] (fun _ => True) (fun _ => False) rfl rfl ?aP (fun _ hk => hk.elim) ?aF ?aO ?aB ?aS ?aL ?_;(case aP => exact k45_mkM _ _ _ (⟨(rd_T45 l0 x4_1).f0,(rd_T45 l0 x4_1).f1,(rd_T45 l0 x4_1).f2,(rd_T45 l0 x4_1).f3⟩ : S45));(case aB => exact (by repeat (first | (with_reducible first | exact HB.out | apply below_alloc | apply pw_below_drewN | apply below_drew1) | exact HB.out)));(case aF => exact (fun _ _ => trivial));(case aO => exact (by (with_reducible repeat (first | apply Kd.R_alloc | apply Kd.R_drewN | apply Kd.R_drew));exact HO_3.out));(case aS => exact (below_size (by repeat (first | (with_reducible first | exact HB.out | apply below_alloc | apply pw_below_drewN | apply below_drew1) | exact HB.out))));(case aL => have := LMc5.out;omega);intro v312 w6 ho hb hg hat;rw [← Ny311.out] at ho;have n0_ := Aside0.mk (hb);have n1_ := Aside0.mk (ho);clear HB;clear HO_3;have HB := n0_;have HO313 := n1_;clear n0_ n1_;clear ho hb hg hat))
              repeat (go_quiet (first | ((with_reducible refine gate_builtin (b := .append) (xs := #[.tmp 22,.tmp 27]) rfl ?_);at_builtin;refine Kd.R_append k45 (w0 := w) w.heap.size rfl (.tmp 22) (.tmp 27) 53 45 (.agg #[(.string ⟨#[]⟩),(.string ⟨#[]⟩),(.int .i64 0),(.int .i64 0)]) 48 rfl Try.underlying53 info45 rfl (by decide) (by omega) u3 x3_1 (⟨(rd_T45 l0 x4_1).f0,(rd_T45 l0 x4_1).f1,(rd_T45 l0 x4_1).f2,(rd_T45 l0 x4_1).f3⟩ : S45) [.string ((rd_T45 l0 x4_1).f0),.string ((rd_T45 l0 x4_1).f1),.int .i64 ((rd_T45 l0 x4_1).f2),.int .i64 ((rd_T45 l0 x4_1).f3)] (fun _ => True) (fun _ => False) rfl rfl ?aP (fun _ hk => hk.elim) ?aF ?aO ?aB ?aS ?aL ?_;(case aP => exact k45_mkM _ _ _ (⟨(rd_T45 l0 x4_1).f0,(rd_T45 l0 x4_1).f1,(rd_T45 l0 x4_1).f2,(rd_T45 l0 x4_1).f3⟩ : S45));(case aB => exact (by repeat (first | (with_reducible first | exact HB.out | apply below_alloc | apply pw_below_drewN | apply below_drew1) | exact HB.out)));(case aF => exact (fun _ _ => trivial));(case aO => exact (by (with_reducible repeat (first | apply Kd.R_alloc | apply Kd.R_drewN | apply Kd.R_drew));exact HO_3.out));(case aS => exact (below_size (by repeat (first | (with_reducible first | exact HB.out | apply below_alloc | apply pw_below_drewN | apply below_drew1) | exact HB.out))));(case aL => have := LMc5.out;omega);intro v312 w6 ho hb hg hat;rw [← Ny311.out] at ho;have n0_ := Aside0.mk (hb);have n1_ := Aside0.mk (ho);clear HB;clear HO_3;have HB := n0_;have HO313 := n1_;clear n0_ n1_;clear ho hb hg hat));try go_wp2_with (first | ((with_reducible refine gate_builtin (b := .append) (xs := #[.tmp 22,.tmp 27]) rfl ?_);at_builtin;refine Kd.R_append k45 (w0 := w) w.heap.size rfl (.tmp 22) (.tmp 27) 53 45 (.agg #[(.string ⟨#[]⟩),(.string ⟨#[]⟩),(.int .i64 0),(.int .i64 0)]) 48 rfl Try.underlying53 info45 rfl (by decide) (by omega) u3 x3_1 (⟨(rd_T45 l0 x4_1).f0,(rd_T45 l0 x4_1).f1,(rd_T45 l0 x4_1).f2,(rd_T45 l0 x4_1).f3⟩ : S45) [.string ((rd_T45 l0 x4_1).f0),.string ((rd_T45 l0 x4_1).f1),.int .i64 ((rd_T45 l0 x4_1).f2),.int .i64 ((rd_T45 l0 x4_1).f3)] (fun _ => True) (fun _ => False) rfl rfl ?aP (fun _ hk => hk.elim) ?aF ?aO ?aB ?aS ?aL ?_;(case aP => exact k45_mkM _ _ _ (⟨(rd_T45 l0 x4_1).f0,(rd_T45 l0 x4_1).f1,(rd_T45 l0 x4_1).f2,(rd_T45 l0 x4_1).f3⟩ : S45));(case aB => exact (by repeat (first | (with_reducible first | exact HB.out | apply below_alloc | apply pw_below_drewN | apply below_drew1) | exact HB.out)));(case aF => exact (fun _ _ => trivial));(case aO => exact (by (with_reducible repeat (first | apply Kd.R_alloc | apply Kd.R_drewN | apply Kd.R_drew));exact HO_3.out));(case aS => exact (below_size (by repeat (first | (with_reducible first | exact HB.out | apply below_alloc | apply pw_below_drewN | apply below_drew1) | exact HB.out))));(case aL => have := LMc5.out;omega);intro v312 w6 ho hb hg hat;rw [← Ny311.out] at ho;have n0_ := Aside0.mk (hb);have n1_ := Aside0.mk (ho);clear HB;clear HO_3;have HB := n0_;have HO313 := n1_;clear n0_ n1_;clear ho hb hg hat)))
              go_roundg k1
              case measure => have := HK1.out;omega
              case rel => exact ⟨(y311),(wrap64 (x4_1 + 1)),(by first | rfl | (simp;done) | (simp [*];done)),H',⟨by have := HK1.out;omega⟩,⟨by (with_reducible repeat (first | apply Kd.R_alloc | apply Kd.R_drewN | apply Kd.R_drew));exact HO313.out⟩,⟨by repeat (first | (with_reducible first | exact HB.out | apply below_alloc | apply pw_below_drewN | apply below_drew1) | exact HB.out)⟩⟩
            · rw [if_neg c5] at H
              exact absurd H (by simp)
          · rw [if_neg c4] at H
            have c4b0 : decide (((rd_T45 l0 x4_1).f3) < ((rd_T45 l0 x4_1).f2)) = false := decide_eq_false c4
            clear c4
            have H' := Aside0.mk H
            clear H
            have p308 : 0 ≤ (x4_1 : Int) := of_decide_eq_true (by first | (with_reducible assumption) | assumption)
            have q308 : x4_1 < (l0.length : Int) := of_decide_eq_true (by first | (with_reducible assumption) | assumption)
            obtain ⟨ad308,e308,hx308_0,hx308_1,hx308_2,hx308_3⟩ := at_T45 HR0.out x4_1 p308 q308
            cases e308
            replace hx308_0 := (HB.out.cell (World.block_lt_of_cell? w _ hx308_0)).trans hx308_0
            replace hx308_1 := (HB.out.cell (World.block_lt_of_cell? w _ hx308_1)).trans hx308_1
            replace hx308_2 := (HB.out.cell (World.block_lt_of_cell? w _ hx308_2)).trans hx308_2
            replace hx308_3 := (HB.out.cell (World.block_lt_of_cell? w _ hx308_3)).trans hx308_3
            replace p308 := eq_true p308
            replace q308 := eq_true q308
            have p309 : 0 ≤ (x4_1 : Int) := of_decide_eq_true (by first | (with_reducible assumption) | assumption)
            have q309 : x4_1 < (l0.length : Int) := of_decide_eq_true (by first | (with_reducible assumption) | assumption)
            obtain ⟨ad309,e309,hx309_0,hx309_1,hx309_2,hx309_3⟩ := at_T45 HR0.out x4_1 p309 q309
            obtain rfl : ad308 = ad309 := (by injection e309)
            replace hx309_0 := (HB.out.cell (World.block_lt_of_cell? w _ hx309_0)).trans hx309_0
            replace hx309_1 := (HB.out.cell (World.block_lt_of_cell? w _ hx309_1)).trans hx309_1
            replace hx309_2 := (HB.out.cell (World.block_lt_of_cell? w _ hx309_2)).trans hx309_2
            replace hx309_3 := (HB.out.cell (World.block_lt_of_cell? w _ hx309_3)).trans hx309_3
            replace p309 := eq_true p309
            replace q309 := eq_true q309
            go_wp2
            repeat (go_quiet (fail);try go_wp2)
            go_roundg k1
            case measure => have := HK1.out;omega
            case rel => exact ⟨(x3_1),(wrap64 (x4_1 + 1)),(by first | rfl | (simp;done) | (simp [*];done)),H',⟨by have := HK1.out;omega⟩,⟨by (with_reducible repeat (first | apply Kd.R_alloc | apply Kd.R_drewN | apply Kd.R_drew));exact HO_3.out⟩,⟨by repeat (first | (with_reducible first | exact HB.out | apply below_alloc | apply pw_below_drewN | apply below_drew1) | exact HB.out)⟩⟩
        · rw [if_neg c3] at H
          exact absurd H (by simp)
      · rw [if_neg c2] at H
        have c2b0 : decide (x4_1 < (l0.length : Int)) = false := decide_eq_false c2
        clear c2
        obtain rfl := Option.some.inj H
        go_wp2
        repeat (go_quiet (fail);try go_wp2)
        go_ret
        exact ⟨_,by first | rfl | (simp [errW_none,errW_some] <;> rfl) | (simp [*,errW_none,errW_some] <;> rfl),by (with_reducible repeat (first | apply Kd.R_alloc | apply Kd.R_drewN | apply Kd.R_drew));exact HO_3.out,by repeat (first | (with_reducible first | exact HB.out | apply below_alloc | apply pw_below_drewN | apply below_drew1) | exact HB.out)⟩
end Go.Proofs.Ytcenlehfbgnphaa.Z
end
