/- Parts of the proof of QuotaLess: what its functions answer. -/
import Derived.Test.YtcenlehfbgnphaaMQuotaLessa
import Derived.Test.YtcenlehfbgnphaaMQuotaLessb
section
namespace Go.Proofs.Ytcenlehfbgnphaa.Z
open Go.RowKit Go.Proofs.YtcenlehfbgnphaaW.PrintWords Go.Proofs.YtcenlehfbgnphaaW.PrintLast Go.Proofs.YtcenlehfbgnphaaW.PrintMore
attribute [local go_sem] max2_int min2_int max_two min_two max_three min_three max_four min_four
set_option linter.unusedVariables false
set_option linter.unusedSimpArgs false
attribute [local go_sem high] eqA45
def verdererlaw28_QuotaLess.l0 : Nat → List (S45) → List Int → List (S45) → Int → Option (Bool)
 | 0,_,_,_,_ => none
 | k + 1,x0,x1,x5,x6 => if x6 < (x0.length : Int) then (if 0 ≤ x6 then ((verdererref27_Find.f k ((q0e x0 x6).f0) ((q0e x0 x6).f1) x0).bind fun bt444 => (if (!(bt444.1.toList == (((q0e x0 x6).f0).toList)) || (!(bt444.2.1.toList == (((q0e x0 x6).f1).toList)) || (!(bt444.2.2.1 == ((q0e x0 x6).f2)) || (!(bt444.2.2.2.1 == ((q0e x0 x6).f3)))))) = true then ((verdererlaw28_known.f k).bind fun t451 => (some t451)) else (if x6 < (x1.length : Int) then (if (rd x1 x6) < bt444.2.2.1 then (if x5.length < 2932031007402 then (verdererlaw28_QuotaLess.l0 k x0 x1 (x5 ++ [(⟨bt444.1,bt444.2.1,rd x1 x6,bt444.2.2.2.1⟩ : S45)]) (wrap64 (x6 + 1))) else (none)) else (if x5.length < 2932031007402 then (verdererlaw28_QuotaLess.l0 k x0 x1 (x5 ++ [(⟨bt444.1,bt444.2.1,bt444.2.2.1,bt444.2.2.2.1⟩ : S45)]) (wrap64 (x6 + 1))) else (none))) else (if x5.length < 2932031007402 then (verdererlaw28_QuotaLess.l0 k x0 x1 (x5 ++ [(⟨bt444.1,bt444.2.1,bt444.2.2.1,bt444.2.2.2.1⟩ : S45)]) (wrap64 (x6 + 1))) else (none))))) else (none)) else ((quota_Judge.f k x0 x5).bind fun bt435 => (if (bt435.1.toList == ([] : List UInt8) && (bt435.2.1.toList == ([] : List UInt8) && (bt435.2.2.1 == 0 && (bt435.2.2.2.1 == 0)))) = true then (if bt435.2.2.2.2 = 0 then ((verdererlaw28_known.f k).bind fun t441 => (some t441)) else (none)) else (none)))
def verdererlaw28_QuotaLess.f (k : Nat) (l0 : List (S45)) (l1 : List Int) : Option (Bool) := if (l0.length : Int) > 60 then ((verdererlaw28_known.f k).bind fun t434 => (some t434)) else (verdererlaw28_QuotaLess.l0 k l0 l1 ([] : List (S45)) 0)
theorem verdererlaw28_QuotaLess.mono_l : ∀ k,(∀ y0 y1 y2 y3,LeO (verdererlaw28_QuotaLess.l0 k y0 y1 y2 y3) (verdererlaw28_QuotaLess.l0 (k + 1) y0 y1 y2 y3))
 | 0 => fun _ _ _ _ r h => by simp [verdererlaw28_QuotaLess.l0] at h
 | k + 1 => by
  have ih0 := verdererlaw28_QuotaLess.mono_l k
  ·intro y0 y1 y2 y3
   unfold verdererlaw28_QuotaLess.l0
   repeat' first
   | (with_reducible exact ih0 _ _ _ _)
   | (with_reducible exact quota_Judge.mono _ _ _)
   | (with_reducible exact verdererlaw28_known.mono _)
   | (with_reducible exact verdererref27_Find.mono _ _ _ _)
   | (with_reducible exact LeO.refl _)
   | (with_reducible exact LeO.none _)
   | (with_reducible refine LeO.ite ?_ ?_)
   | (with_reducible refine LeO.bind ?_ (fun _ => ?_))
   | exact ih0 _ _ _ _
   | exact quota_Judge.mono _ _ _
   | exact verdererlaw28_known.mono _
   | exact verdererref27_Find.mono _ _ _ _
   | exact LeO.none _
   | refine LeO.ite ?_ ?_
   | refine LeO.bind ?_ (fun _ => ?_)
theorem verdererlaw28_QuotaLess.mono : ∀ a0 a1 k,LeO (verdererlaw28_QuotaLess.f k a0 a1) (verdererlaw28_QuotaLess.f (k + 1) a0 a1) := by
 intro a0 a1 k
 have ih0 := verdererlaw28_QuotaLess.mono_l k
 unfold verdererlaw28_QuotaLess.f
 repeat' first
   | (with_reducible exact ih0 _ _ _ _)
   | (with_reducible exact quota_Judge.mono _ _ _)
   | (with_reducible exact verdererlaw28_known.mono _)
   | (with_reducible exact verdererref27_Find.mono _ _ _ _)
   | (with_reducible exact LeO.refl _)
   | (with_reducible exact LeO.none _)
   | (with_reducible refine LeO.ite ?_ ?_)
   | (with_reducible refine LeO.bind ?_ (fun _ => ?_))
   | exact ih0 _ _ _ _
   | exact quota_Judge.mono _ _ _
   | exact verdererlaw28_known.mono _
   | exact verdererref27_Find.mono _ _ _ _
   | exact LeO.none _
   | refine LeO.ite ?_ ?_
   | refine LeO.bind ?_ (fun _ => ?_)
def verdererlaw28_QuotaLess.T7 : Bool × List (List Nat × List Nat) := (true,[([],[]),([],[]),([0,1],[0,1]),([2],[2]),([3],[3]),([],[]),([],[]),([5,6],[5,6]),([7],[7]),([8],[8]),([],[]),([4,9,10],[4,9,10]),([11],[11]),([12],[12]),([12],[12]),([],[]),([15,13,11,0,1,2,3,4,5,6,7,8,9,10,11,12,13,15],[13,15]),([14,16,0,1,2,3,4,5,6,7,8,9,10,11,12,13,14,15,16],[14])])
def verdererlaw28_QuotaLess.B7 : List Nat := [0,0,3,7,15,0,0,96,224,480,0,2047,4095,8191,8191,0,49151,131071]
theorem verdererlaw28_QuotaLess.tab7 : rtab .any (opsOf Try.f12 7) = verdererlaw28_QuotaLess.T7 := by kernel_rfl
theorem verdererlaw28_QuotaLess.bits7 : waitsOk verdererlaw28_QuotaLess.T7.2 verdererlaw28_QuotaLess.B7 = true := by kernel_rfl
def verdererlaw28_QuotaLess.T10 : Bool × List (List Nat × List Nat) := (true,[([],[]),([],[]),([1],[1]),([0,2],[0,2]),([3],[3]),([4],[4]),([4],[4]),([5,6,4],[4,5,6]),([7,4],[4,7]),([4],[4]),([9,4],[4,9]),([8,10,4],[4,8,10]),([4,11],[4,11])])
def verdererlaw28_QuotaLess.B10 : List Nat := [0,0,2,7,15,31,31,127,255,31,543,2047,4095]
theorem verdererlaw28_QuotaLess.tab10 : rtab .any (opsOf Try.f12 10) = verdererlaw28_QuotaLess.T10 := by kernel_rfl
theorem verdererlaw28_QuotaLess.bits10 : waitsOk verdererlaw28_QuotaLess.T10.2 verdererlaw28_QuotaLess.B10 = true := by kernel_rfl
set_option maxHeartbeats 8000000 in
set_option maxRecDepth 100000 in
theorem verdererlaw28_QuotaLess.calls (k : Nat) (A0 : Option Addr) (c0 : Nat) (l0 : List (S45)) (A1 : Option Addr) (c1 : Nat) (l1 : List Int) (r : Bool) (w : World) (hr0 : Kd.C k45 w A0 l0.length l0) (hc0 : l0.length ≤ c0) (hr1 : Kd.C (Kd.int .i64) w A1 l1.length l1) (hc1 : l1.length ≤ c1) (h : verdererlaw28_QuotaLess.f k l0 l1 = some r) :
  Calls Try.prog 12 #[.slice A0 l0.length c0,.slice A1 l1.length c1] w fun e w' => e = .returned (.bool r) ∧ Below w.heap.size w w' := by
 have hu45 := Try.underlying45
 have HR0 := Aside0.mk hr0
 have HC0 := Aside0.mk hc0
 clear hr0 hc0
 have HR1 := Aside0.mk hr1
 have HC1 := Aside0.mk hc1
 clear hr1 hc1
 have HB := Aside0.mk (Below.refl w.heap.size w)
 have H : (if (l0.length : Int) > 60 then ((verdererlaw28_known.f k).bind fun t434 => (some t434)) else (verdererlaw28_QuotaLess.l0 k l0 l1 ([] : List (S45)) 0)) = some r := h
 clear h
 by_cases c3 : (l0.length : Int) > 60
 ·rw [if_pos c3] at H
  have c3b0 : decide (60 < (l0.length : Int)) = true := decide_eq_true c3
  have c3b1 : decide (60 < l0.length) = true := decide_eq_true (by omega)
  clear c3
  replace H := Option.bind_eq_some_iff.mp H
  obtain ⟨t434,A40,H⟩ := H
  replace H : (some t434) = some r := H
  have A4 := Aside0.mk A40
  clear A40
  obtain rfl := Option.some.inj H
  go_enter Try.func12,Try.ntmps12
  go_wp2_with (first | ((with_reducible refine q00 (f := 44) rfl ?_);refine goesL_ (some 14) rfl rfl Try.func44 (by kernel_rfl) rfl #[] rfl (by (try simp only [List.map_toArray,List.map_cons,List.map_nil]);first | done | rfl | (simp only [List.length_drop,List.length_take];rfl)) ?_;(with_reducible refine (verdererlaw28_known.calls k  t434 _ A4.out).mono ?_);rintro e w5 ⟨rfl,hb⟩;refine ⟨_,rfl,?_⟩;have n0_ := Aside0.mk (q0s (by repeat (first | (with_reducible first | exact HB.out | apply q0h | apply q0d | apply q0f) | exact HB.out)) hb);clear HB;have HB := n0_;clear n0_;(try clear hb);(try clear hb2);(try clear hk);(try clear hi)))
  go_ret
  exact ⟨by first | rfl | (simp [q0w,q0x] <;> rfl) | (simp [*,q0w,q0x] <;> rfl),by repeat (first | (with_reducible first | exact HB.out | apply q0h | apply q0d | apply q0f) | exact HB.out)⟩
 ·rw [if_neg c3] at H
  have c3b0 : decide (60 < (l0.length : Int)) = false := decide_eq_false c3
  have c3b1 : decide (60 < l0.length) = false := decide_eq_false (by omega)
  clear c3
  have H' := Aside0.mk H
  clear H
  go_enter Try.func12,Try.ntmps12
  go_wp2
  go_loopg [5,6] k (fun kq v5 v6 w' => ∃ (x5_1 : List (S45)) (x6_1 : Int),v6 = .int .i64 x6_1 ∧ Aside0 (verdererlaw28_QuotaLess.l0 kq l0 l1 x5_1 x6_1 = some r) ∧ Aside0 (kq ≤ k) ∧ Aside0 (Kd.R k45 45 w' w.heap.size (fun _ => True) v5 x5_1) ∧ Aside0 (Below w.heap.size w w'))
  case atStart => exact ⟨(([] : List (S45))),(0),(by first | rfl | (simp;done) | (simp [*];done)),H',⟨Nat.le_refl _⟩,⟨by first | exact Kd.R_nil _ _ _ _ _ | exact Kd.N_nil _ _ _ _ _ | exact Kd.V_nil _ _ _ _ _ | exact Kd.Q_nil _ _ _ _ _ | exact Kd.S_nil _ _ _ _ _⟩,⟨by repeat (first | (with_reducible first | exact HB.out | apply q0h | apply q0d | apply q0f) | exact HB.out)⟩⟩
  case round =>
   clear H'
   try clear c1
   try clear p2
   try clear c3
   try clear c3b0
   try clear c3b1
   try clear c4
   obtain ⟨x5_1,x6_1,rfl,HA,HK1,HO_5,HB⟩ := hrel
   cases gk with
   | zero => exact absurd HA.out (by simp [verdererlaw28_QuotaLess.l0])
   | succ k1 =>
    have H := HA.out
    clear HA
    simp only [verdererlaw28_QuotaLess.l0] at H
    by_cases c6 : x6_1 < (l0.length : Int)
    ·rw [if_pos c6] at H
     have c6b0 : decide (x6_1 < (l0.length : Int)) = true := decide_eq_true c6
     clear c6
     by_cases c7 : 0 ≤ x6_1
     ·rw [if_pos c7] at H
      have c7b0 : decide (0 ≤ x6_1) = true := decide_eq_true c7
      clear c7
      replace H := Option.bind_eq_some_iff.mp H
      obtain ⟨⟨t444,t445,t446,t447,t448⟩,A80,H⟩ := H
      replace H : (if (!(t444.toList == (((q0e l0 x6_1).f0).toList)) || (!(t445.toList == (((q0e l0 x6_1).f1).toList)) || (!(t446 == ((q0e l0 x6_1).f2)) || (!(t447 == ((q0e l0 x6_1).f3)))))) = true then ((verdererlaw28_known.f k1).bind fun t451 => (some t451)) else (if x6_1 < (l1.length : Int) then (if (rd l1 x6_1) < t446 then (if x5_1.length < 2932031007402 then (verdererlaw28_QuotaLess.l0 k1 l0 l1 (x5_1 ++ [(⟨t444,t445,rd l1 x6_1,t447⟩ : S45)]) (wrap64 (x6_1 + 1))) else (none)) else (if x5_1.length < 2932031007402 then (verdererlaw28_QuotaLess.l0 k1 l0 l1 (x5_1 ++ [(⟨t444,t445,t446,t447⟩ : S45)]) (wrap64 (x6_1 + 1))) else (none))) else (if x5_1.length < 2932031007402 then (verdererlaw28_QuotaLess.l0 k1 l0 l1 (x5_1 ++ [(⟨t444,t445,t446,t447⟩ : S45)]) (wrap64 (x6_1 + 1))) else (none)))) = some r := H
      have A8 := Aside0.mk A80
      clear A80
      by_cases c9 : (!(t444.toList == (((q0e l0 x6_1).f0).toList)) || (!(t445.toList == (((q0e l0 x6_1).f1).toList)) || (!(t446 == ((q0e l0 x6_1).f2)) || (!(t447 == ((q0e l0 x6_1).f3)))))) = true
      ·rw [if_pos c9] at H
       have c9b0 : (!(t444.toList == (((q0e l0 x6_1).f0).toList)) || (!(t445.toList == (((q0e l0 x6_1).f1).toList)) || (!(t446 == ((q0e l0 x6_1).f2)) || (!(t447 == ((q0e l0 x6_1).f3)))))) = true := c9
       clear c9
       replace H := Option.bind_eq_some_iff.mp H
       obtain ⟨t451,A100,H⟩ := H
       replace H : (some t451) = some r := H
       have A10 := Aside0.mk A100
       clear A100
       obtain rfl := Option.some.inj H
       try go_wp2
       have n0_ := Aside0.mk (Kd.q0o HO_5.out)
       have n1_ := Aside0.mk (q0f HB.out)
       clear HO_5
       clear HB
       have HO_5 := n0_
       have HB := n1_
       clear n0_ n1_
       have p442 : 0 ≤ (x6_1 : Int) := of_decide_eq_true (by first | (with_reducible assumption) | assumption)
       have q442 : x6_1 < (l0.length : Int) := of_decide_eq_true (by first | (with_reducible assumption) | assumption)
       obtain ⟨ad442,e442,hx442_0,hx442_1,hx442_2,hx442_3⟩ := at_T45 HR0.out x6_1 p442 q442
       have hw442_3 := hx442_3
       have hw442_2 := hx442_2
       have hw442_1 := hx442_1
       have hw442_0 := hx442_0
       cases e442
       replace hx442_0 := (HB.out.cell (World.block_lt_of_cell? w _ hx442_0)).trans hx442_0
       replace hx442_1 := (HB.out.cell (World.block_lt_of_cell? w _ hx442_1)).trans hx442_1
       replace hx442_2 := (HB.out.cell (World.block_lt_of_cell? w _ hx442_2)).trans hx442_2
       replace hx442_3 := (HB.out.cell (World.block_lt_of_cell? w _ hx442_3)).trans hx442_3
       replace p442 := eq_true p442
       replace q442 := eq_true q442
       have p443 : 0 ≤ (x6_1 : Int) := of_decide_eq_true (by first | (with_reducible assumption) | assumption)
       have q443 : x6_1 < (l0.length : Int) := of_decide_eq_true (by first | (with_reducible assumption) | assumption)
       obtain ⟨ad443,e443,hx443_0,hx443_1,hx443_2,hx443_3⟩ := at_T45 HR0.out x6_1 p443 q443
       have hw443_3 := hx443_3
       have hw443_2 := hx443_2
       have hw443_1 := hx443_1
       have hw443_0 := hx443_0
       obtain rfl : ad442 = ad443 := (by injection e443)
       replace hx443_0 := (HB.out.cell (World.block_lt_of_cell? w _ hx443_0)).trans hx443_0
       replace hx443_1 := (HB.out.cell (World.block_lt_of_cell? w _ hx443_1)).trans hx443_1
       replace hx443_2 := (HB.out.cell (World.block_lt_of_cell? w _ hx443_2)).trans hx443_2
       replace hx443_3 := (HB.out.cell (World.block_lt_of_cell? w _ hx443_3)).trans hx443_3
       replace p443 := eq_true p443
       replace q443 := eq_true q443
       refine start_ (n := 18) (S := fun w' => w'.cell? (ad442.add ((x6_1).toNat * 4)) = some (.string ((q0e l0 x6_1).f0)) ∧ w'.cell? ⟨(ad442.add ((x6_1).toNat * 4)).block,(ad442.add ((x6_1).toNat * 4)).off + 1,none⟩ = some (.string ((q0e l0 x6_1).f1)) ∧ w'.cell? ⟨(ad442.add ((x6_1).toNat * 4)).block,(ad442.add ((x6_1).toNat * 4)).off + 2,none⟩ = some (.int .i64 ((q0e l0 x6_1).f2)) ∧ w'.cell? ⟨(ad442.add ((x6_1).toNat * 4)).block,(ad442.add ((x6_1).toNat * 4)).off + 3,none⟩ = some (.int .i64 ((q0e l0 x6_1).f3)) ∧ w'.cell? (ad442.add ((x6_1).toNat * 4)) = some (.string ((q0e l0 x6_1).f0)) ∧ w'.cell? ⟨(ad442.add ((x6_1).toNat * 4)).block,(ad442.add ((x6_1).toNat * 4)).off + 1,none⟩ = some (.string ((q0e l0 x6_1).f1)) ∧ w'.cell? ⟨(ad442.add ((x6_1).toNat * 4)).block,(ad442.add ((x6_1).toNat * 4)).off + 2,none⟩ = some (.int .i64 ((q0e l0 x6_1).f2)) ∧ w'.cell? ⟨(ad442.add ((x6_1).toNat * 4)).block,(ad442.add ((x6_1).toNat * 4)).off + 3,none⟩ = some (.int .i64 ((q0e l0 x6_1).f3))) (ds := []) #[false,false,false,false,false,false,false,false,false,false,false,false,false,false,false,false,false,false] (by kernel_rfl) rfl rfl ⟨((HB.out.cell (World.block_lt_of_cell? w _ hw442_0)).trans hw442_0),((HB.out.cell (World.block_lt_of_cell? w _ hw442_1)).trans hw442_1),((HB.out.cell (World.block_lt_of_cell? w _ hw442_2)).trans hw442_2),((HB.out.cell (World.block_lt_of_cell? w _ hw442_3)).trans hw442_3),((HB.out.cell (World.block_lt_of_cell? w _ hw443_0)).trans hw443_0),((HB.out.cell (World.block_lt_of_cell? w _ hw443_1)).trans hw443_1),((HB.out.cell (World.block_lt_of_cell? w _ hw443_2)).trans hw443_2),((HB.out.cell (World.block_lt_of_cell? w _ hw443_3)).trans hw443_3)⟩ (fun hHeld => ?_);refine with_tabW verdererlaw28_QuotaLess.tab7 verdererlaw28_QuotaLess.bits7 (fun HT_ HW_ => ?_)
       generalize wr.drew = w11 at HO_5 HB hx442_0 hx442_1 hx442_2 hx442_3 hx443_0 hx443_1 hx443_2 hx443_3 hHeld ⊢
       refine pure_ (i := 0) (N := some 22) (v := ?_) (a' := ?_) #[true,false,false,false,false,false,false,false,false,false,false,false,false,false,false,false,false,false] rfl rfl (q0r HT_.out (by kernel_rfl)) (fun _ _ _ h => h) (Or.inl ⟨by rfl,?_⟩) ?_ ?_
       rotate_left
       ·intro w'
        go_simp
        with_reducible rfl
       rotate_left
       ·simp only [Act.put,zA,zB,zC,i64_w,i32_w]
        rfl
       refine pure_ (i := 1) (N := some 23) (v := ?_) (a' := ?_) #[true,true,false,false,false,false,false,false,false,false,false,false,false,false,false,false,false,false] rfl rfl (q0r HT_.out (by kernel_rfl)) (fun _ _ _ h => h) (Or.inl ⟨by rfl,?_⟩) ?_ ?_
       rotate_left
       ·intro w'
        go_simp
        with_reducible rfl
       rotate_left
       ·simp only [Act.put,zA,zB,zC,i64_w,i32_w]
        rfl
       refine pure_ (i := 2) (N := some 24) (v := ?_) (a' := ?_) #[true,true,true,false,false,false,false,false,false,false,false,false,false,false,false,false,false,false] rfl rfl (q0r HT_.out (by kernel_rfl)) (fun _ _ _ h => h) (Or.inl ⟨by rfl,?_⟩) ?_ ?_
       rotate_left
       ·intro w'
        go_simp
        with_reducible rfl
       rotate_left
       ·simp only [Act.put,zA,zB,zC,i64_w,i32_w]
        rfl
       refine pure_ (i := 3) (N := some 25) (v := ?_) (a' := ?_) #[true,true,true,true,false,false,false,false,false,false,false,false,false,false,false,false,false,false] rfl rfl (q0r HT_.out (by kernel_rfl)) (fun _ _ _ h => h) (Or.inl ⟨by rfl,?_⟩) ?_ ?_
       rotate_left
       ·intro w'
        go_simp
        with_reducible rfl
       rotate_left
       ·simp only [Act.put,zA,zB,zC,i64_w,i32_w]
        rfl
       refine pure_ (i := 5) (N := some 27) (v := ?_) (a' := ?_) #[true,true,true,true,false,true,false,false,false,false,false,false,false,false,false,false,false,false] rfl rfl (q0r HT_.out (by kernel_rfl)) (fun _ _ _ h => h) (Or.inl ⟨by rfl,?_⟩) ?_ ?_
       rotate_left
       ·intro w'
        go_simp
        with_reducible rfl
       rotate_left
       ·simp only [Act.put,zA,zB,zC,i64_w,i32_w]
        rfl
       refine pure_ (i := 6) (N := some 28) (v := ?_) (a' := ?_) #[true,true,true,true,false,true,true,false,false,false,false,false,false,false,false,false,false,false] rfl rfl (q0r HT_.out (by kernel_rfl)) (fun _ _ _ h => h) (Or.inl ⟨by rfl,?_⟩) ?_ ?_
       rotate_left
       ·intro w'
        go_simp
        with_reducible rfl
       rotate_left
       ·simp only [Act.put,zA,zB,zC,i64_w,i32_w]
        rfl
       refine pure_ (i := 7) (N := some 29) (v := ?_) (a' := ?_) #[true,true,true,true,false,true,true,true,false,false,false,false,false,false,false,false,false,false] rfl rfl (q0r HT_.out (by kernel_rfl)) (fun _ _ _ h => h) (Or.inl ⟨by rfl,?_⟩) ?_ ?_
       rotate_left
       ·intro w'
        go_simp
        with_reducible rfl
       rotate_left
       ·simp only [Act.put,zA,zB,zC,i64_w,i32_w]
        rfl
       refine pure_ (i := 8) (N := some 30) (v := ?_) (a' := ?_) #[true,true,true,true,false,true,true,true,true,false,false,false,false,false,false,false,false,false] rfl rfl (q0r HT_.out (by kernel_rfl)) (fun _ _ _ h => h) (Or.inl ⟨by rfl,?_⟩) ?_ ?_
       rotate_left
       ·intro w'
        go_simp
        with_reducible rfl
       rotate_left
       ·simp only [Act.put,zA,zB,zC,i64_w,i32_w]
        rfl
       refine pure_ (i := 10) (N := some 32) (v := ?_) (a' := ?_) #[true,true,true,true,false,true,true,true,true,false,true,false,false,false,false,false,false,false] rfl rfl (q0r HT_.out (by kernel_rfl)) (fun _ _ _ h => h) (Or.inl ⟨by rfl,?_⟩) ?_ ?_
       rotate_left
       ·intro w'
        go_simp
        with_reducible rfl
       rotate_left
       ·simp only [Act.put,zA,zB,zC,i64_w,i32_w]
        rfl
       refine take_ (i := 4) (N := some 26) (v := ?_) (a' := ?_) #[true,true,true,true,true,true,true,true,true,false,true,false,false,false,false,false,false,false] rfl rfl (take_ofW HT_.out HW_.out (by kernel_rfl)) (fun _ _ _ h => h) (Or.inl ⟨by rfl,?_⟩) hHeld ?_ ?_
       rotate_left
       ·rintro w' ⟨s0,s1,s2,s3,s4,s5,s6,s7⟩
        go_simp
        with_reducible rfl
       rotate_left
       ·simp only [Act.put,zA,zB,zC,i64_w,i32_w]
        rfl
       refine take_ (i := 9) (N := some 31) (v := ?_) (a' := ?_) #[true,true,true,true,true,true,true,true,true,true,true,false,false,false,false,false,false,false] rfl rfl (take_ofW HT_.out HW_.out (by kernel_rfl)) (fun _ _ _ h => h) (Or.inl ⟨by rfl,?_⟩) hHeld ?_ ?_
       rotate_left
       ·rintro w' ⟨s0,s1,s2,s3,s4,s5,s6,s7⟩
        go_simp
        with_reducible rfl
       rotate_left
       ·simp only [Act.put,zA,zB,zC,i64_w,i32_w]
        rfl
       refine join_ (σ := Nat) 2 #[true,true,true,true,true,true,true,true,true,true,true,true,true,true,true,true,false,false] (fun s_ => [(33,.tuple #[.agg #[.string t444,.string t445,.int .i64 t446,.int .i64 t447],.bool t448]),(7,.pointer (some ⟨s_,0,none⟩)),(21,.tuple #[.agg #[.string t444,.string t445,.int .i64 t446,.int .i64 t447],.bool t448]),(34,.agg #[.string t444,.string t445,.int .i64 t446,.int .i64 t447]),(35,.bool t448)]) (fun s_ w' => (w'.cell? (ad442.add ((x6_1).toNat * 4)) = some (.string ((q0e l0 x6_1).f0)) ∧ w'.cell? ⟨(ad442.add ((x6_1).toNat * 4)).block,(ad442.add ((x6_1).toNat * 4)).off + 1,none⟩ = some (.string ((q0e l0 x6_1).f1)) ∧ w'.cell? ⟨(ad442.add ((x6_1).toNat * 4)).block,(ad442.add ((x6_1).toNat * 4)).off + 2,none⟩ = some (.int .i64 ((q0e l0 x6_1).f2)) ∧ w'.cell? ⟨(ad442.add ((x6_1).toNat * 4)).block,(ad442.add ((x6_1).toNat * 4)).off + 3,none⟩ = some (.int .i64 ((q0e l0 x6_1).f3)) ∧ w'.cell? (ad442.add ((x6_1).toNat * 4)) = some (.string ((q0e l0 x6_1).f0)) ∧ w'.cell? ⟨(ad442.add ((x6_1).toNat * 4)).block,(ad442.add ((x6_1).toNat * 4)).off + 1,none⟩ = some (.string ((q0e l0 x6_1).f1)) ∧ w'.cell? ⟨(ad442.add ((x6_1).toNat * 4)).block,(ad442.add ((x6_1).toNat * 4)).off + 2,none⟩ = some (.int .i64 ((q0e l0 x6_1).f2)) ∧ w'.cell? ⟨(ad442.add ((x6_1).toNat * 4)).block,(ad442.add ((x6_1).toNat * 4)).off + 3,none⟩ = some (.int .i64 ((q0e l0 x6_1).f3))) ∧ (Kd.R k45 45 w' w.heap.size (fun k_ => k_ ≠ s_) u5 x5_1) ∧ (w'.heap[s_]? = some (.cells #[.string (⟨#[]⟩ : ByteArray),.string (⟨#[]⟩ : ByteArray),.int .i64 0,.int .i64 0] 45 (0,0))) ∧ (w.heap.size ≤ s_) ∧ (w.heap.size ≤ s_) ∧ (Below w.heap.size w w')) ?_ ?_
       rotate_left
       ·intro hCont
        refine two_ (i := 11) (j := 15) (Ni := some 33) (Nj := some 7) #[true,true,true,true,true,true,true,true,true,true,true,true,false,false,false,false,false,false] #[true,true,true,true,true,true,true,true,true,true,true,false,false,false,false,true,false,false] rfl rfl rfl rfl (two_of HT_.out (by kernel_rfl)) (by decide) (by decide) (fun K hK => ?_) (fun K hK => ?_)
        ·skip
         refine goes_ Try.func53 (by kernel_rfl) rfl #[.string ((q0e l0 x6_1).f0),.string ((q0e l0 x6_1).f1),.slice (some ad442) l0.length c0] (by rfl) rfl rfl (by (try simp only [List.map_toArray,List.map_cons,List.map_nil]);first | done | rfl | (simp only [List.length_drop,List.length_take];rfl)) ?_
         with_reducible refine (verdererref27_Find.calls k1 ((q0e l0 x6_1).f0) ((q0e l0 x6_1).f1) _ _ l0 t444 t445 t446 t447 t448 _ ?side1 ?side2 A8.out).mono ?_
         (case side1 => repeat (first | exact (Kd.C_below HR0.out HB.out) | (with_reducible refine Kd.C_alloc ?_ _) | (with_reducible refine Kd.C_drewN ?_ _) | (with_reducible refine Kd.C_drew ?_)))
         (case side2 => exact HC0.out)
         rintro e w12 ⟨rfl,hb⟩
         refine ⟨_,rfl,?_⟩
         have n0_ := Aside0.mk (Kd.q0v (by (with_reducible repeat (first | apply Kd.q0m | apply Kd.q0n | apply Kd.q0o));exact HO_5.out) hb)
         have n1_ := Aside0.mk (q0s (by repeat (first | (with_reducible first | exact HB.out | apply q0h | apply q0d | apply q0f) | exact HB.out)) hb)
         clear HO_5
         clear HB
         have HO_5 := n0_
         have HB := n1_
         clear n0_ n1_
         (try clear hb)
         (try clear hb2)
         (try clear hk)
         (try clear hi)
         refine hK.out _ _ ⟨((HB.out.cell (World.block_lt_of_cell? w _ hw442_0)).trans hw442_0),((HB.out.cell (World.block_lt_of_cell? w _ hw442_1)).trans hw442_1),((HB.out.cell (World.block_lt_of_cell? w _ hw442_2)).trans hw442_2),((HB.out.cell (World.block_lt_of_cell? w _ hw442_3)).trans hw442_3),((HB.out.cell (World.block_lt_of_cell? w _ hw443_0)).trans hw443_0),((HB.out.cell (World.block_lt_of_cell? w _ hw443_1)).trans hw443_1),((HB.out.cell (World.block_lt_of_cell? w _ hw443_2)).trans hw443_2),((HB.out.cell (World.block_lt_of_cell? w _ hw443_3)).trans hw443_3)⟩ (fun hHeld => ?_)
         clear hK K
         refine norm_ (a' := ?_) ?_ ?_
         rotate_left
         ·show Act.put _ (some 33) _ = _
          simp only [Act.put,zA,zB,zC,i64_w,i32_w]
          rfl
         refine pure_ (i := 12) (N := some 21) (v := ?_) (a' := ?_) #[true,true,true,true,true,true,true,true,true,true,true,true,true,false,false,false,false,false] rfl rfl (q0r HT_.out (by kernel_rfl)) (fun _ _ _ h => h) (Or.inl ⟨by rfl,?_⟩) ?_ ?_
         rotate_left
         ·intro w'
          go_simp
          with_reducible rfl
         rotate_left
         ·simp only [Act.put,zA,zB,zC,i64_w,i32_w]
          rfl
         refine pure_ (i := 13) (N := some 34) (v := ?_) (a' := ?_) #[true,true,true,true,true,true,true,true,true,true,true,true,true,true,false,false,false,false] rfl rfl (q0r HT_.out (by kernel_rfl)) (fun _ _ _ h => h) (Or.inl ⟨by rfl,?_⟩) ?_ ?_
         rotate_left
         ·intro w'
          go_simp
          with_reducible rfl
         rotate_left
         ·simp only [Act.put,zA,zB,zC,i64_w,i32_w]
          rfl
         refine pure_ (i := 14) (N := some 35) (v := ?_) (a' := ?_) #[true,true,true,true,true,true,true,true,true,true,true,true,true,true,true,false,false,false] rfl rfl (q0r HT_.out (by kernel_rfl)) (fun _ _ _ h => h) (Or.inl ⟨by rfl,?_⟩) ?_ ?_
         rotate_left
         ·intro w'
          go_simp
          with_reducible rfl
         rotate_left
         ·simp only [Act.put,zA,zB,zC,i64_w,i32_w]
          rfl
         refine one_ (i := 15) (N := some 7) #[true,true,true,true,true,true,true,true,true,true,true,true,true,true,true,true,false,false] rfl rfl (one_of HT_.out (by kernel_rfl)) (by decide) (fun K hK => ?_)
         refine box_step ?hg (N := 7) ?hd (cs := #[.string (⟨#[]⟩ : ByteArray),.string (⟨#[]⟩ : ByteArray),.int .i64 0,.int .i64 0]) (t := 45) ?hr ?_;(case hd => rfl);(case hg => rfl);(case hr => first | (go_simp;done) | (go_simp;rfl))
         intro gb449 hg w13 hbox hb
         have n0_ := Aside0.mk (Kd.q0v (Kd.R_elderB (by (with_reducible repeat (first | apply Kd.q0m | apply Kd.q0n | apply Kd.q0o));exact HO_5.out) gb449 (Nat.le_of_eq hg.symm)) hb)
         have n1_ := Aside0.mk (q0s (by repeat (first | (with_reducible first | exact HB.out | apply q0h | apply q0d | apply q0f) | exact HB.out)) hb)
         have n2_ := Aside0.mk (hbox)
         have n3_ := Aside0.mk ((by rw [hg];exact (q0p (by repeat (first | (with_reducible first | exact HB.out | apply q0h | apply q0d | apply q0f) | exact HB.out))) : w.heap.size ≤ gb449))
         have n4_ := Aside0.mk ((by rw [hg];exact (q0p (by repeat (first | (with_reducible first | exact HB.out | apply q0h | apply q0d | apply q0f) | exact HB.out))) : w.heap.size ≤ gb449))
         clear HO_5
         clear HB
         have HO_5 := n0_
         have HB := n1_
         have BK449 := n2_
         have GW449 := n3_
         have GE449 := n4_
         clear n0_ n1_ n2_ n3_ n4_
         clear hb hbox hg
         refine hK.out _ _ ⟨((HB.out.cell (World.block_lt_of_cell? w _ hw442_0)).trans hw442_0),((HB.out.cell (World.block_lt_of_cell? w _ hw442_1)).trans hw442_1),((HB.out.cell (World.block_lt_of_cell? w _ hw442_2)).trans hw442_2),((HB.out.cell (World.block_lt_of_cell? w _ hw442_3)).trans hw442_3),((HB.out.cell (World.block_lt_of_cell? w _ hw443_0)).trans hw443_0),((HB.out.cell (World.block_lt_of_cell? w _ hw443_1)).trans hw443_1),((HB.out.cell (World.block_lt_of_cell? w _ hw443_2)).trans hw443_2),((HB.out.cell (World.block_lt_of_cell? w _ hw443_3)).trans hw443_3)⟩ (fun hHeld => ?_)
         clear hK K
         refine norm_ (a' := ?_) ?_ ?_
         rotate_left
         ·show Act.put _ (some 7) _ = _
          simp only [Act.put,zA,zB,zC,i64_w,i32_w]
          rfl
         exact norm_ (by simp only [putAll,Act.put,zA,zB,zC]) (hCont (gb449) _ ⟨hHeld,(by (with_reducible repeat (first | apply Kd.q0m | apply Kd.q0n | apply Kd.q0o));exact Kd.R_mono HO_5.out (fun _ hk => hk.2)),(by (with_reducible repeat (first | refine q0b ?_ _ | refine q0c ?_ | refine q0a ?_ _));exact BK449.out),GW449.out,GE449.out,(by repeat (first | (with_reducible first | exact HB.out | apply q0h | apply q0d | apply q0f | refine q0g ?_ GE449.out) | exact HB.out))⟩)
        ·skip
         refine box_step ?hg (N := 7) ?hd (cs := #[.string (⟨#[]⟩ : ByteArray),.string (⟨#[]⟩ : ByteArray),.int .i64 0,.int .i64 0]) (t := 45) ?hr ?_;(case hd => rfl);(case hg => rfl);(case hr => first | (go_simp;done) | (go_simp;rfl))
         intro gb449 hg w12 hbox hb
         have n0_ := Aside0.mk (Kd.q0v (Kd.R_elderB (by (with_reducible repeat (first | apply Kd.q0m | apply Kd.q0n | apply Kd.q0o));exact HO_5.out) gb449 (Nat.le_of_eq hg.symm)) hb)
         have n1_ := Aside0.mk (q0s (by repeat (first | (with_reducible first | exact HB.out | apply q0h | apply q0d | apply q0f) | exact HB.out)) hb)
         have n2_ := Aside0.mk (hbox)
         have n3_ := Aside0.mk ((by rw [hg];exact (q0p (by repeat (first | (with_reducible first | exact HB.out | apply q0h | apply q0d | apply q0f) | exact HB.out))) : w.heap.size ≤ gb449))
         have n4_ := Aside0.mk ((by rw [hg];exact (q0p (by repeat (first | (with_reducible first | exact HB.out | apply q0h | apply q0d | apply q0f) | exact HB.out))) : w.heap.size ≤ gb449))
         clear HO_5
         clear HB
         have HO_5 := n0_
         have HB := n1_
         have BK449 := n2_
         have GW449 := n3_
         have GE449 := n4_
         clear n0_ n1_ n2_ n3_ n4_
         clear hb hbox hg
         refine hK.out _ _ ⟨((HB.out.cell (World.block_lt_of_cell? w _ hw442_0)).trans hw442_0),((HB.out.cell (World.block_lt_of_cell? w _ hw442_1)).trans hw442_1),((HB.out.cell (World.block_lt_of_cell? w _ hw442_2)).trans hw442_2),((HB.out.cell (World.block_lt_of_cell? w _ hw442_3)).trans hw442_3),((HB.out.cell (World.block_lt_of_cell? w _ hw443_0)).trans hw443_0),((HB.out.cell (World.block_lt_of_cell? w _ hw443_1)).trans hw443_1),((HB.out.cell (World.block_lt_of_cell? w _ hw443_2)).trans hw443_2),((HB.out.cell (World.block_lt_of_cell? w _ hw443_3)).trans hw443_3)⟩ (fun hHeld => ?_)
         clear hK K
         refine norm_ (a' := ?_) ?_ ?_
         rotate_left
         ·show Act.put _ (some 7) _ = _
          simp only [Act.put,zA,zB,zC,i64_w,i32_w]
          rfl
         refine one_ (i := 11) (N := some 33) #[true,true,true,true,true,true,true,true,true,true,true,true,false,false,false,true,false,false] rfl rfl (one_of HT_.out (by kernel_rfl)) (by decide) (fun K hK => ?_)
         refine goes_ Try.func53 (by kernel_rfl) rfl #[.string ((q0e l0 x6_1).f0),.string ((q0e l0 x6_1).f1),.slice (some ad442) l0.length c0] (by rfl) rfl rfl (by (try simp only [List.map_toArray,List.map_cons,List.map_nil]);first | done | rfl | (simp only [List.length_drop,List.length_take];rfl)) ?_
         with_reducible refine (verdererref27_Find.calls k1 ((q0e l0 x6_1).f0) ((q0e l0 x6_1).f1) _ _ l0 t444 t445 t446 t447 t448 _ ?side1 ?side2 A8.out).mono ?_
         (case side1 => repeat (first | exact (Kd.C_below HR0.out HB.out) | (with_reducible refine Kd.C_alloc ?_ _) | (with_reducible refine Kd.C_drewN ?_ _) | (with_reducible refine Kd.C_drew ?_)))
         (case side2 => exact HC0.out)
         rintro e w13 ⟨rfl,hb⟩
         refine ⟨_,rfl,?_⟩
         have n0_ := Aside0.mk (Kd.q0v (by (with_reducible repeat (first | apply Kd.q0m | apply Kd.q0n | apply Kd.q0o));exact HO_5.out) hb)
         have n1_ := Aside0.mk (q0q (g := gb449) (o := .cells #[.string (⟨#[]⟩ : ByteArray),.string (⟨#[]⟩ : ByteArray),.int .i64 0,.int .i64 0] 45 (0,0)) (by (with_reducible repeat (first | refine q0b ?_ _ | refine q0c ?_ | refine q0a ?_ _));exact BK449.out) hb)
         have n2_ := Aside0.mk (q0s (by repeat (first | (with_reducible first | exact HB.out | apply q0h | apply q0d | apply q0f | refine q0g ?_ GE449.out) | exact HB.out)) hb)
         clear HO_5
         clear BK449
         clear HB
         have HO_5 := n0_
         have BK449 := n1_
         have HB := n2_
         clear n0_ n1_ n2_
         (try clear hb)
         (try clear hb2)
         (try clear hk)
         (try clear hi)
         refine hK.out _ _ ⟨((HB.out.cell (World.block_lt_of_cell? w _ hw442_0)).trans hw442_0),((HB.out.cell (World.block_lt_of_cell? w _ hw442_1)).trans hw442_1),((HB.out.cell (World.block_lt_of_cell? w _ hw442_2)).trans hw442_2),((HB.out.cell (World.block_lt_of_cell? w _ hw442_3)).trans hw442_3),((HB.out.cell (World.block_lt_of_cell? w _ hw443_0)).trans hw443_0),((HB.out.cell (World.block_lt_of_cell? w _ hw443_1)).trans hw443_1),((HB.out.cell (World.block_lt_of_cell? w _ hw443_2)).trans hw443_2),((HB.out.cell (World.block_lt_of_cell? w _ hw443_3)).trans hw443_3)⟩ (fun hHeld => ?_)
         clear hK K
         refine norm_ (a' := ?_) ?_ ?_
         rotate_left
         ·show Act.put _ (some 33) _ = _
          simp only [Act.put,zA,zB,zC,i64_w,i32_w]
          rfl
         refine pure_ (i := 12) (N := some 21) (v := ?_) (a' := ?_) #[true,true,true,true,true,true,true,true,true,true,true,true,true,false,false,true,false,false] rfl rfl (q0r HT_.out (by kernel_rfl)) (fun _ _ _ h => h) (Or.inl ⟨by rfl,?_⟩) ?_ ?_
         rotate_left
         ·intro w'
          go_simp
          with_reducible rfl
         rotate_left
         ·simp only [Act.put,zA,zB,zC,i64_w,i32_w]
          rfl
         refine pure_ (i := 13) (N := some 34) (v := ?_) (a' := ?_) #[true,true,true,true,true,true,true,true,true,true,true,true,true,true,false,true,false,false] rfl rfl (q0r HT_.out (by kernel_rfl)) (fun _ _ _ h => h) (Or.inl ⟨by rfl,?_⟩) ?_ ?_
         rotate_left
         ·intro w'
          go_simp
          with_reducible rfl
         rotate_left
         ·simp only [Act.put,zA,zB,zC,i64_w,i32_w]
          rfl
         refine pure_ (i := 14) (N := some 35) (v := ?_) (a' := ?_) #[true,true,true,true,true,true,true,true,true,true,true,true,true,true,true,true,false,false] rfl rfl (q0r HT_.out (by kernel_rfl)) (fun _ _ _ h => h) (Or.inl ⟨by rfl,?_⟩) ?_ ?_
         rotate_left
         ·intro w'
          go_simp
          with_reducible rfl
         rotate_left
         ·simp only [Act.put,zA,zB,zC,i64_w,i32_w]
          rfl
         exact norm_ (by simp only [putAll,Act.put,zA,zB,zC]) (hCont (gb449) _ ⟨hHeld,(by (with_reducible repeat (first | apply Kd.q0m | apply Kd.q0n | apply Kd.q0o));exact Kd.R_mono HO_5.out (fun _ hk => hk.2)),(by (with_reducible repeat (first | refine q0b ?_ _ | refine q0c ?_ | refine q0a ?_ _));exact BK449.out),GW449.out,GE449.out,(by repeat (first | (with_reducible first | exact HB.out | apply q0h | apply q0d | apply q0f | refine q0g ?_ GE449.out) | exact HB.out))⟩)
       rintro gb449 w14 ⟨hS_,h0_,h1_,h2_,h3_,h4_⟩
       have n0_ : Aside0 (Kd.R k45 45 w14 w.heap.size (fun k_ => k_ ≠ gb449) u5 x5_1) := ⟨h0_⟩
       have n1_ : Aside0 (w14.heap[gb449]? = some (.cells #[.string (⟨#[]⟩ : ByteArray),.string (⟨#[]⟩ : ByteArray),.int .i64 0,.int .i64 0] 45 (0,0))) := ⟨h1_⟩
       have n2_ : Aside0 (w.heap.size ≤ gb449) := ⟨h2_⟩
       have n3_ : Aside0 (w.heap.size ≤ gb449) := ⟨h3_⟩
       have n4_ : Aside0 (Below w.heap.size w w14) := ⟨h4_⟩
       clear HO_5
       clear HB
       clear h0_ h1_ h2_ h3_ h4_
       have HO_5 := n0_
       have BK449 := n1_
       have GW449 := n2_
       have GE449 := n3_
       have HB := n4_
       clear n0_ n1_ n2_ n3_ n4_
       have hHeld : w14.cell? (ad442.add ((x6_1).toNat * 4)) = some (.string ((q0e l0 x6_1).f0)) ∧ w14.cell? ⟨(ad442.add ((x6_1).toNat * 4)).block,(ad442.add ((x6_1).toNat * 4)).off + 1,none⟩ = some (.string ((q0e l0 x6_1).f1)) ∧ w14.cell? ⟨(ad442.add ((x6_1).toNat * 4)).block,(ad442.add ((x6_1).toNat * 4)).off + 2,none⟩ = some (.int .i64 ((q0e l0 x6_1).f2)) ∧ w14.cell? ⟨(ad442.add ((x6_1).toNat * 4)).block,(ad442.add ((x6_1).toNat * 4)).off + 3,none⟩ = some (.int .i64 ((q0e l0 x6_1).f3)) ∧ w14.cell? (ad442.add ((x6_1).toNat * 4)) = some (.string ((q0e l0 x6_1).f0)) ∧ w14.cell? ⟨(ad442.add ((x6_1).toNat * 4)).block,(ad442.add ((x6_1).toNat * 4)).off + 1,none⟩ = some (.string ((q0e l0 x6_1).f1)) ∧ w14.cell? ⟨(ad442.add ((x6_1).toNat * 4)).block,(ad442.add ((x6_1).toNat * 4)).off + 2,none⟩ = some (.int .i64 ((q0e l0 x6_1).f2)) ∧ w14.cell? ⟨(ad442.add ((x6_1).toNat * 4)).block,(ad442.add ((x6_1).toNat * 4)).off + 3,none⟩ = some (.int .i64 ((q0e l0 x6_1).f3)) := hS_
       refine norm_ (a' := ?_) ?_ ?_
       rotate_left
       ·simp only [putAll,Act.put,zA,zB,zC]
        rfl
       refine one_ (i := 16) (N := none) #[true,true,true,true,true,true,true,true,true,true,true,true,true,true,true,true,true,false] rfl rfl (one_of HT_.out (by kernel_rfl)) (by decide) (fun K hK => ?_)
       have hs15 : w14.cell? ⟨gb449,0,none⟩ = some (.string (⟨#[]⟩ : ByteArray)) := (q0i BK449.out 0).trans rfl
       have hfs15 := q0k BK449.out 0
       have hs16 : w14.cell? ⟨gb449,1,none⟩ = some (.string (⟨#[]⟩ : ByteArray)) := (q0i BK449.out 1).trans rfl
       have hfs16 := q0k BK449.out 1
       have hs17 : w14.cell? ⟨gb449,2,none⟩ = some (.int .i64 0) := (q0i BK449.out 2).trans rfl
       have hfs17 := q0k BK449.out 2
       have hs18 : w14.cell? ⟨gb449,3,none⟩ = some (.int .i64 0) := (q0i BK449.out 3).trans rfl
       have hfs18 := q0k BK449.out 3
       refine skip_ (w1 := ?_) (by rfl) rfl ?_ ?_
       rotate_left
       ·go_simp
        rfl
       refine hK.out _ _ ⟨((cell_far (p := ⟨gb449,_,none⟩) (by first | exact Nat.ne_of_lt (Nat.lt_of_lt_of_le (by have := World.block_lt_of_cell? _ _ hw442_0;first | rwa [add_block] at this | exact this) GW449.out) | (rw [add_block];exact Nat.ne_of_lt (Nat.lt_of_lt_of_le (by have := World.block_lt_of_cell? _ _ hw442_0;first | rwa [add_block] at this | exact this) GW449.out)) | (show (Addr.add _ _).block ≠ _;rw [add_block];exact Nat.ne_of_lt (Nat.lt_of_lt_of_le (by have := World.block_lt_of_cell? _ _ hw442_0;first | rwa [add_block] at this | exact this) GW449.out)) | (dsimp only;exact Nat.ne_of_lt (Nat.lt_of_lt_of_le (by have := World.block_lt_of_cell? _ _ hw442_0;first | rwa [add_block] at this | exact this) GW449.out))) _).trans (((cell_far (p := ⟨gb449,_,none⟩) (by first | exact Nat.ne_of_lt (Nat.lt_of_lt_of_le (by have := World.block_lt_of_cell? _ _ hw442_0;first | rwa [add_block] at this | exact this) GW449.out) | (rw [add_block];exact Nat.ne_of_lt (Nat.lt_of_lt_of_le (by have := World.block_lt_of_cell? _ _ hw442_0;first | rwa [add_block] at this | exact this) GW449.out)) | (show (Addr.add _ _).block ≠ _;rw [add_block];exact Nat.ne_of_lt (Nat.lt_of_lt_of_le (by have := World.block_lt_of_cell? _ _ hw442_0;first | rwa [add_block] at this | exact this) GW449.out)) | (dsimp only;exact Nat.ne_of_lt (Nat.lt_of_lt_of_le (by have := World.block_lt_of_cell? _ _ hw442_0;first | rwa [add_block] at this | exact this) GW449.out))) _).trans (((cell_far (p := ⟨gb449,_,none⟩) (by first | exact Nat.ne_of_lt (Nat.lt_of_lt_of_le (by have := World.block_lt_of_cell? _ _ hw442_0;first | rwa [add_block] at this | exact this) GW449.out) | (rw [add_block];exact Nat.ne_of_lt (Nat.lt_of_lt_of_le (by have := World.block_lt_of_cell? _ _ hw442_0;first | rwa [add_block] at this | exact this) GW449.out)) | (show (Addr.add _ _).block ≠ _;rw [add_block];exact Nat.ne_of_lt (Nat.lt_of_lt_of_le (by have := World.block_lt_of_cell? _ _ hw442_0;first | rwa [add_block] at this | exact this) GW449.out)) | (dsimp only;exact Nat.ne_of_lt (Nat.lt_of_lt_of_le (by have := World.block_lt_of_cell? _ _ hw442_0;first | rwa [add_block] at this | exact this) GW449.out))) _).trans (((cell_far (p := ⟨gb449,_,none⟩) (by first | exact Nat.ne_of_lt (Nat.lt_of_lt_of_le (by have := World.block_lt_of_cell? _ _ hw442_0;first | rwa [add_block] at this | exact this) GW449.out) | (rw [add_block];exact Nat.ne_of_lt (Nat.lt_of_lt_of_le (by have := World.block_lt_of_cell? _ _ hw442_0;first | rwa [add_block] at this | exact this) GW449.out)) | (show (Addr.add _ _).block ≠ _;rw [add_block];exact Nat.ne_of_lt (Nat.lt_of_lt_of_le (by have := World.block_lt_of_cell? _ _ hw442_0;first | rwa [add_block] at this | exact this) GW449.out)) | (dsimp only;exact Nat.ne_of_lt (Nat.lt_of_lt_of_le (by have := World.block_lt_of_cell? _ _ hw442_0;first | rwa [add_block] at this | exact this) GW449.out))) _).trans (hHeld.1)))))))),((cell_far (p := ⟨gb449,_,none⟩) (by first | exact Nat.ne_of_lt (Nat.lt_of_lt_of_le (by have := World.block_lt_of_cell? _ _ hw442_1;first | rwa [add_block] at this | exact this) GW449.out) | (rw [add_block];exact Nat.ne_of_lt (Nat.lt_of_lt_of_le (by have := World.block_lt_of_cell? _ _ hw442_1;first | rwa [add_block] at this | exact this) GW449.out)) | (show (Addr.add _ _).block ≠ _;rw [add_block];exact Nat.ne_of_lt (Nat.lt_of_lt_of_le (by have := World.block_lt_of_cell? _ _ hw442_1;first | rwa [add_block] at this | exact this) GW449.out)) | (dsimp only;exact Nat.ne_of_lt (Nat.lt_of_lt_of_le (by have := World.block_lt_of_cell? _ _ hw442_1;first | rwa [add_block] at this | exact this) GW449.out))) _).trans (((cell_far (p := ⟨gb449,_,none⟩) (by first | exact Nat.ne_of_lt (Nat.lt_of_lt_of_le (by have := World.block_lt_of_cell? _ _ hw442_1;first | rwa [add_block] at this | exact this) GW449.out) | (rw [add_block];exact Nat.ne_of_lt (Nat.lt_of_lt_of_le (by have := World.block_lt_of_cell? _ _ hw442_1;first | rwa [add_block] at this | exact this) GW449.out)) | (show (Addr.add _ _).block ≠ _;rw [add_block];exact Nat.ne_of_lt (Nat.lt_of_lt_of_le (by have := World.block_lt_of_cell? _ _ hw442_1;first | rwa [add_block] at this | exact this) GW449.out)) | (dsimp only;exact Nat.ne_of_lt (Nat.lt_of_lt_of_le (by have := World.block_lt_of_cell? _ _ hw442_1;first | rwa [add_block] at this | exact this) GW449.out))) _).trans (((cell_far (p := ⟨gb449,_,none⟩) (by first | exact Nat.ne_of_lt (Nat.lt_of_lt_of_le (by have := World.block_lt_of_cell? _ _ hw442_1;first | rwa [add_block] at this | exact this) GW449.out) | (rw [add_block];exact Nat.ne_of_lt (Nat.lt_of_lt_of_le (by have := World.block_lt_of_cell? _ _ hw442_1;first | rwa [add_block] at this | exact this) GW449.out)) | (show (Addr.add _ _).block ≠ _;rw [add_block];exact Nat.ne_of_lt (Nat.lt_of_lt_of_le (by have := World.block_lt_of_cell? _ _ hw442_1;first | rwa [add_block] at this | exact this) GW449.out)) | (dsimp only;exact Nat.ne_of_lt (Nat.lt_of_lt_of_le (by have := World.block_lt_of_cell? _ _ hw442_1;first | rwa [add_block] at this | exact this) GW449.out))) _).trans (((cell_far (p := ⟨gb449,_,none⟩) (by first | exact Nat.ne_of_lt (Nat.lt_of_lt_of_le (by have := World.block_lt_of_cell? _ _ hw442_1;first | rwa [add_block] at this | exact this) GW449.out) | (rw [add_block];exact Nat.ne_of_lt (Nat.lt_of_lt_of_le (by have := World.block_lt_of_cell? _ _ hw442_1;first | rwa [add_block] at this | exact this) GW449.out)) | (show (Addr.add _ _).block ≠ _;rw [add_block];exact Nat.ne_of_lt (Nat.lt_of_lt_of_le (by have := World.block_lt_of_cell? _ _ hw442_1;first | rwa [add_block] at this | exact this) GW449.out)) | (dsimp only;exact Nat.ne_of_lt (Nat.lt_of_lt_of_le (by have := World.block_lt_of_cell? _ _ hw442_1;first | rwa [add_block] at this | exact this) GW449.out))) _).trans (hHeld.2.1)))))))),((cell_far (p := ⟨gb449,_,none⟩) (by first | exact Nat.ne_of_lt (Nat.lt_of_lt_of_le (by have := World.block_lt_of_cell? _ _ hw442_2;first | rwa [add_block] at this | exact this) GW449.out) | (rw [add_block];exact Nat.ne_of_lt (Nat.lt_of_lt_of_le (by have := World.block_lt_of_cell? _ _ hw442_2;first | rwa [add_block] at this | exact this) GW449.out)) | (show (Addr.add _ _).block ≠ _;rw [add_block];exact Nat.ne_of_lt (Nat.lt_of_lt_of_le (by have := World.block_lt_of_cell? _ _ hw442_2;first | rwa [add_block] at this | exact this) GW449.out)) | (dsimp only;exact Nat.ne_of_lt (Nat.lt_of_lt_of_le (by have := World.block_lt_of_cell? _ _ hw442_2;first | rwa [add_block] at this | exact this) GW449.out))) _).trans (((cell_far (p := ⟨gb449,_,none⟩) (by first | exact Nat.ne_of_lt (Nat.lt_of_lt_of_le (by have := World.block_lt_of_cell? _ _ hw442_2;first | rwa [add_block] at this | exact this) GW449.out) | (rw [add_block];exact Nat.ne_of_lt (Nat.lt_of_lt_of_le (by have := World.block_lt_of_cell? _ _ hw442_2;first | rwa [add_block] at this | exact this) GW449.out)) | (show (Addr.add _ _).block ≠ _;rw [add_block];exact Nat.ne_of_lt (Nat.lt_of_lt_of_le (by have := World.block_lt_of_cell? _ _ hw442_2;first | rwa [add_block] at this | exact this) GW449.out)) | (dsimp only;exact Nat.ne_of_lt (Nat.lt_of_lt_of_le (by have := World.block_lt_of_cell? _ _ hw442_2;first | rwa [add_block] at this | exact this) GW449.out))) _).trans (((cell_far (p := ⟨gb449,_,none⟩) (by first | exact Nat.ne_of_lt (Nat.lt_of_lt_of_le (by have := World.block_lt_of_cell? _ _ hw442_2;first | rwa [add_block] at this | exact this) GW449.out) | (rw [add_block];exact Nat.ne_of_lt (Nat.lt_of_lt_of_le (by have := World.block_lt_of_cell? _ _ hw442_2;first | rwa [add_block] at this | exact this) GW449.out)) | (show (Addr.add _ _).block ≠ _;rw [add_block];exact Nat.ne_of_lt (Nat.lt_of_lt_of_le (by have := World.block_lt_of_cell? _ _ hw442_2;first | rwa [add_block] at this | exact this) GW449.out)) | (dsimp only;exact Nat.ne_of_lt (Nat.lt_of_lt_of_le (by have := World.block_lt_of_cell? _ _ hw442_2;first | rwa [add_block] at this | exact this) GW449.out))) _).trans (((cell_far (p := ⟨gb449,_,none⟩) (by first | exact Nat.ne_of_lt (Nat.lt_of_lt_of_le (by have := World.block_lt_of_cell? _ _ hw442_2;first | rwa [add_block] at this | exact this) GW449.out) | (rw [add_block];exact Nat.ne_of_lt (Nat.lt_of_lt_of_le (by have := World.block_lt_of_cell? _ _ hw442_2;first | rwa [add_block] at this | exact this) GW449.out)) | (show (Addr.add _ _).block ≠ _;rw [add_block];exact Nat.ne_of_lt (Nat.lt_of_lt_of_le (by have := World.block_lt_of_cell? _ _ hw442_2;first | rwa [add_block] at this | exact this) GW449.out)) | (dsimp only;exact Nat.ne_of_lt (Nat.lt_of_lt_of_le (by have := World.block_lt_of_cell? _ _ hw442_2;first | rwa [add_block] at this | exact this) GW449.out))) _).trans (hHeld.2.2.1)))))))),((cell_far (p := ⟨gb449,_,none⟩) (by first | exact Nat.ne_of_lt (Nat.lt_of_lt_of_le (by have := World.block_lt_of_cell? _ _ hw442_3;first | rwa [add_block] at this | exact this) GW449.out) | (rw [add_block];exact Nat.ne_of_lt (Nat.lt_of_lt_of_le (by have := World.block_lt_of_cell? _ _ hw442_3;first | rwa [add_block] at this | exact this) GW449.out)) | (show (Addr.add _ _).block ≠ _;rw [add_block];exact Nat.ne_of_lt (Nat.lt_of_lt_of_le (by have := World.block_lt_of_cell? _ _ hw442_3;first | rwa [add_block] at this | exact this) GW449.out)) | (dsimp only;exact Nat.ne_of_lt (Nat.lt_of_lt_of_le (by have := World.block_lt_of_cell? _ _ hw442_3;first | rwa [add_block] at this | exact this) GW449.out))) _).trans (((cell_far (p := ⟨gb449,_,none⟩) (by first | exact Nat.ne_of_lt (Nat.lt_of_lt_of_le (by have := World.block_lt_of_cell? _ _ hw442_3;first | rwa [add_block] at this | exact this) GW449.out) | (rw [add_block];exact Nat.ne_of_lt (Nat.lt_of_lt_of_le (by have := World.block_lt_of_cell? _ _ hw442_3;first | rwa [add_block] at this | exact this) GW449.out)) | (show (Addr.add _ _).block ≠ _;rw [add_block];exact Nat.ne_of_lt (Nat.lt_of_lt_of_le (by have := World.block_lt_of_cell? _ _ hw442_3;first | rwa [add_block] at this | exact this) GW449.out)) | (dsimp only;exact Nat.ne_of_lt (Nat.lt_of_lt_of_le (by have := World.block_lt_of_cell? _ _ hw442_3;first | rwa [add_block] at this | exact this) GW449.out))) _).trans (((cell_far (p := ⟨gb449,_,none⟩) (by first | exact Nat.ne_of_lt (Nat.lt_of_lt_of_le (by have := World.block_lt_of_cell? _ _ hw442_3;first | rwa [add_block] at this | exact this) GW449.out) | (rw [add_block];exact Nat.ne_of_lt (Nat.lt_of_lt_of_le (by have := World.block_lt_of_cell? _ _ hw442_3;first | rwa [add_block] at this | exact this) GW449.out)) | (show (Addr.add _ _).block ≠ _;rw [add_block];exact Nat.ne_of_lt (Nat.lt_of_lt_of_le (by have := World.block_lt_of_cell? _ _ hw442_3;first | rwa [add_block] at this | exact this) GW449.out)) | (dsimp only;exact Nat.ne_of_lt (Nat.lt_of_lt_of_le (by have := World.block_lt_of_cell? _ _ hw442_3;first | rwa [add_block] at this | exact this) GW449.out))) _).trans (((cell_far (p := ⟨gb449,_,none⟩) (by first | exact Nat.ne_of_lt (Nat.lt_of_lt_of_le (by have := World.block_lt_of_cell? _ _ hw442_3;first | rwa [add_block] at this | exact this) GW449.out) | (rw [add_block];exact Nat.ne_of_lt (Nat.lt_of_lt_of_le (by have := World.block_lt_of_cell? _ _ hw442_3;first | rwa [add_block] at this | exact this) GW449.out)) | (show (Addr.add _ _).block ≠ _;rw [add_block];exact Nat.ne_of_lt (Nat.lt_of_lt_of_le (by have := World.block_lt_of_cell? _ _ hw442_3;first | rwa [add_block] at this | exact this) GW449.out)) | (dsimp only;exact Nat.ne_of_lt (Nat.lt_of_lt_of_le (by have := World.block_lt_of_cell? _ _ hw442_3;first | rwa [add_block] at this | exact this) GW449.out))) _).trans (hHeld.2.2.2.1)))))))),((cell_far (p := ⟨gb449,_,none⟩) (by first | exact Nat.ne_of_lt (Nat.lt_of_lt_of_le (by have := World.block_lt_of_cell? _ _ hw443_0;first | rwa [add_block] at this | exact this) GW449.out) | (rw [add_block];exact Nat.ne_of_lt (Nat.lt_of_lt_of_le (by have := World.block_lt_of_cell? _ _ hw443_0;first | rwa [add_block] at this | exact this) GW449.out)) | (show (Addr.add _ _).block ≠ _;rw [add_block];exact Nat.ne_of_lt (Nat.lt_of_lt_of_le (by have := World.block_lt_of_cell? _ _ hw443_0;first | rwa [add_block] at this | exact this) GW449.out)) | (dsimp only;exact Nat.ne_of_lt (Nat.lt_of_lt_of_le (by have := World.block_lt_of_cell? _ _ hw443_0;first | rwa [add_block] at this | exact this) GW449.out))) _).trans (((cell_far (p := ⟨gb449,_,none⟩) (by first | exact Nat.ne_of_lt (Nat.lt_of_lt_of_le (by have := World.block_lt_of_cell? _ _ hw443_0;first | rwa [add_block] at this | exact this) GW449.out) | (rw [add_block];exact Nat.ne_of_lt (Nat.lt_of_lt_of_le (by have := World.block_lt_of_cell? _ _ hw443_0;first | rwa [add_block] at this | exact this) GW449.out)) | (show (Addr.add _ _).block ≠ _;rw [add_block];exact Nat.ne_of_lt (Nat.lt_of_lt_of_le (by have := World.block_lt_of_cell? _ _ hw443_0;first | rwa [add_block] at this | exact this) GW449.out)) | (dsimp only;exact Nat.ne_of_lt (Nat.lt_of_lt_of_le (by have := World.block_lt_of_cell? _ _ hw443_0;first | rwa [add_block] at this | exact this) GW449.out))) _).trans (((cell_far (p := ⟨gb449,_,none⟩) (by first | exact Nat.ne_of_lt (Nat.lt_of_lt_of_le (by have := World.block_lt_of_cell? _ _ hw443_0;first | rwa [add_block] at this | exact this) GW449.out) | (rw [add_block];exact Nat.ne_of_lt (Nat.lt_of_lt_of_le (by have := World.block_lt_of_cell? _ _ hw443_0;first | rwa [add_block] at this | exact this) GW449.out)) | (show (Addr.add _ _).block ≠ _;rw [add_block];exact Nat.ne_of_lt (Nat.lt_of_lt_of_le (by have := World.block_lt_of_cell? _ _ hw443_0;first | rwa [add_block] at this | exact this) GW449.out)) | (dsimp only;exact Nat.ne_of_lt (Nat.lt_of_lt_of_le (by have := World.block_lt_of_cell? _ _ hw443_0;first | rwa [add_block] at this | exact this) GW449.out))) _).trans (((cell_far (p := ⟨gb449,_,none⟩) (by first | exact Nat.ne_of_lt (Nat.lt_of_lt_of_le (by have := World.block_lt_of_cell? _ _ hw443_0;first | rwa [add_block] at this | exact this) GW449.out) | (rw [add_block];exact Nat.ne_of_lt (Nat.lt_of_lt_of_le (by have := World.block_lt_of_cell? _ _ hw443_0;first | rwa [add_block] at this | exact this) GW449.out)) | (show (Addr.add _ _).block ≠ _;rw [add_block];exact Nat.ne_of_lt (Nat.lt_of_lt_of_le (by have := World.block_lt_of_cell? _ _ hw443_0;first | rwa [add_block] at this | exact this) GW449.out)) | (dsimp only;exact Nat.ne_of_lt (Nat.lt_of_lt_of_le (by have := World.block_lt_of_cell? _ _ hw443_0;first | rwa [add_block] at this | exact this) GW449.out))) _).trans (hHeld.2.2.2.2.1)))))))),((cell_far (p := ⟨gb449,_,none⟩) (by first | exact Nat.ne_of_lt (Nat.lt_of_lt_of_le (by have := World.block_lt_of_cell? _ _ hw443_1;first | rwa [add_block] at this | exact this) GW449.out) | (rw [add_block];exact Nat.ne_of_lt (Nat.lt_of_lt_of_le (by have := World.block_lt_of_cell? _ _ hw443_1;first | rwa [add_block] at this | exact this) GW449.out)) | (show (Addr.add _ _).block ≠ _;rw [add_block];exact Nat.ne_of_lt (Nat.lt_of_lt_of_le (by have := World.block_lt_of_cell? _ _ hw443_1;first | rwa [add_block] at this | exact this) GW449.out)) | (dsimp only;exact Nat.ne_of_lt (Nat.lt_of_lt_of_le (by have := World.block_lt_of_cell? _ _ hw443_1;first | rwa [add_block] at this | exact this) GW449.out))) _).trans (((cell_far (p := ⟨gb449,_,none⟩) (by first | exact Nat.ne_of_lt (Nat.lt_of_lt_of_le (by have := World.block_lt_of_cell? _ _ hw443_1;first | rwa [add_block] at this | exact this) GW449.out) | (rw [add_block];exact Nat.ne_of_lt (Nat.lt_of_lt_of_le (by have := World.block_lt_of_cell? _ _ hw443_1;first | rwa [add_block] at this | exact this) GW449.out)) | (show (Addr.add _ _).block ≠ _;rw [add_block];exact Nat.ne_of_lt (Nat.lt_of_lt_of_le (by have := World.block_lt_of_cell? _ _ hw443_1;first | rwa [add_block] at this | exact this) GW449.out)) | (dsimp only;exact Nat.ne_of_lt (Nat.lt_of_lt_of_le (by have := World.block_lt_of_cell? _ _ hw443_1;first | rwa [add_block] at this | exact this) GW449.out))) _).trans (((cell_far (p := ⟨gb449,_,none⟩) (by first | exact Nat.ne_of_lt (Nat.lt_of_lt_of_le (by have := World.block_lt_of_cell? _ _ hw443_1;first | rwa [add_block] at this | exact this) GW449.out) | (rw [add_block];exact Nat.ne_of_lt (Nat.lt_of_lt_of_le (by have := World.block_lt_of_cell? _ _ hw443_1;first | rwa [add_block] at this | exact this) GW449.out)) | (show (Addr.add _ _).block ≠ _;rw [add_block];exact Nat.ne_of_lt (Nat.lt_of_lt_of_le (by have := World.block_lt_of_cell? _ _ hw443_1;first | rwa [add_block] at this | exact this) GW449.out)) | (dsimp only;exact Nat.ne_of_lt (Nat.lt_of_lt_of_le (by have := World.block_lt_of_cell? _ _ hw443_1;first | rwa [add_block] at this | exact this) GW449.out))) _).trans (((cell_far (p := ⟨gb449,_,none⟩) (by first | exact Nat.ne_of_lt (Nat.lt_of_lt_of_le (by have := World.block_lt_of_cell? _ _ hw443_1;first | rwa [add_block] at this | exact this) GW449.out) | (rw [add_block];exact Nat.ne_of_lt (Nat.lt_of_lt_of_le (by have := World.block_lt_of_cell? _ _ hw443_1;first | rwa [add_block] at this | exact this) GW449.out)) | (show (Addr.add _ _).block ≠ _;rw [add_block];exact Nat.ne_of_lt (Nat.lt_of_lt_of_le (by have := World.block_lt_of_cell? _ _ hw443_1;first | rwa [add_block] at this | exact this) GW449.out)) | (dsimp only;exact Nat.ne_of_lt (Nat.lt_of_lt_of_le (by have := World.block_lt_of_cell? _ _ hw443_1;first | rwa [add_block] at this | exact this) GW449.out))) _).trans (hHeld.2.2.2.2.2.1)))))))),((cell_far (p := ⟨gb449,_,none⟩) (by first | exact Nat.ne_of_lt (Nat.lt_of_lt_of_le (by have := World.block_lt_of_cell? _ _ hw443_2;first | rwa [add_block] at this | exact this) GW449.out) | (rw [add_block];exact Nat.ne_of_lt (Nat.lt_of_lt_of_le (by have := World.block_lt_of_cell? _ _ hw443_2;first | rwa [add_block] at this | exact this) GW449.out)) | (show (Addr.add _ _).block ≠ _;rw [add_block];exact Nat.ne_of_lt (Nat.lt_of_lt_of_le (by have := World.block_lt_of_cell? _ _ hw443_2;first | rwa [add_block] at this | exact this) GW449.out)) | (dsimp only;exact Nat.ne_of_lt (Nat.lt_of_lt_of_le (by have := World.block_lt_of_cell? _ _ hw443_2;first | rwa [add_block] at this | exact this) GW449.out))) _).trans (((cell_far (p := ⟨gb449,_,none⟩) (by first | exact Nat.ne_of_lt (Nat.lt_of_lt_of_le (by have := World.block_lt_of_cell? _ _ hw443_2;first | rwa [add_block] at this | exact this) GW449.out) | (rw [add_block];exact Nat.ne_of_lt (Nat.lt_of_lt_of_le (by have := World.block_lt_of_cell? _ _ hw443_2;first | rwa [add_block] at this | exact this) GW449.out)) | (show (Addr.add _ _).block ≠ _;rw [add_block];exact Nat.ne_of_lt (Nat.lt_of_lt_of_le (by have := World.block_lt_of_cell? _ _ hw443_2;first | rwa [add_block] at this | exact this) GW449.out)) | (dsimp only;exact Nat.ne_of_lt (Nat.lt_of_lt_of_le (by have := World.block_lt_of_cell? _ _ hw443_2;first | rwa [add_block] at this | exact this) GW449.out))) _).trans (((cell_far (p := ⟨gb449,_,none⟩) (by first | exact Nat.ne_of_lt (Nat.lt_of_lt_of_le (by have := World.block_lt_of_cell? _ _ hw443_2;first | rwa [add_block] at this | exact this) GW449.out) | (rw [add_block];exact Nat.ne_of_lt (Nat.lt_of_lt_of_le (by have := World.block_lt_of_cell? _ _ hw443_2;first | rwa [add_block] at this | exact this) GW449.out)) | (show (Addr.add _ _).block ≠ _;rw [add_block];exact Nat.ne_of_lt (Nat.lt_of_lt_of_le (by have := World.block_lt_of_cell? _ _ hw443_2;first | rwa [add_block] at this | exact this) GW449.out)) | (dsimp only;exact Nat.ne_of_lt (Nat.lt_of_lt_of_le (by have := World.block_lt_of_cell? _ _ hw443_2;first | rwa [add_block] at this | exact this) GW449.out))) _).trans (((cell_far (p := ⟨gb449,_,none⟩) (by first | exact Nat.ne_of_lt (Nat.lt_of_lt_of_le (by have := World.block_lt_of_cell? _ _ hw443_2;first | rwa [add_block] at this | exact this) GW449.out) | (rw [add_block];exact Nat.ne_of_lt (Nat.lt_of_lt_of_le (by have := World.block_lt_of_cell? _ _ hw443_2;first | rwa [add_block] at this | exact this) GW449.out)) | (show (Addr.add _ _).block ≠ _;rw [add_block];exact Nat.ne_of_lt (Nat.lt_of_lt_of_le (by have := World.block_lt_of_cell? _ _ hw443_2;first | rwa [add_block] at this | exact this) GW449.out)) | (dsimp only;exact Nat.ne_of_lt (Nat.lt_of_lt_of_le (by have := World.block_lt_of_cell? _ _ hw443_2;first | rwa [add_block] at this | exact this) GW449.out))) _).trans (hHeld.2.2.2.2.2.2.1)))))))),((cell_far (p := ⟨gb449,_,none⟩) (by first | exact Nat.ne_of_lt (Nat.lt_of_lt_of_le (by have := World.block_lt_of_cell? _ _ hw443_3;first | rwa [add_block] at this | exact this) GW449.out) | (rw [add_block];exact Nat.ne_of_lt (Nat.lt_of_lt_of_le (by have := World.block_lt_of_cell? _ _ hw443_3;first | rwa [add_block] at this | exact this) GW449.out)) | (show (Addr.add _ _).block ≠ _;rw [add_block];exact Nat.ne_of_lt (Nat.lt_of_lt_of_le (by have := World.block_lt_of_cell? _ _ hw443_3;first | rwa [add_block] at this | exact this) GW449.out)) | (dsimp only;exact Nat.ne_of_lt (Nat.lt_of_lt_of_le (by have := World.block_lt_of_cell? _ _ hw443_3;first | rwa [add_block] at this | exact this) GW449.out))) _).trans (((cell_far (p := ⟨gb449,_,none⟩) (by first | exact Nat.ne_of_lt (Nat.lt_of_lt_of_le (by have := World.block_lt_of_cell? _ _ hw443_3;first | rwa [add_block] at this | exact this) GW449.out) | (rw [add_block];exact Nat.ne_of_lt (Nat.lt_of_lt_of_le (by have := World.block_lt_of_cell? _ _ hw443_3;first | rwa [add_block] at this | exact this) GW449.out)) | (show (Addr.add _ _).block ≠ _;rw [add_block];exact Nat.ne_of_lt (Nat.lt_of_lt_of_le (by have := World.block_lt_of_cell? _ _ hw443_3;first | rwa [add_block] at this | exact this) GW449.out)) | (dsimp only;exact Nat.ne_of_lt (Nat.lt_of_lt_of_le (by have := World.block_lt_of_cell? _ _ hw443_3;first | rwa [add_block] at this | exact this) GW449.out))) _).trans (((cell_far (p := ⟨gb449,_,none⟩) (by first | exact Nat.ne_of_lt (Nat.lt_of_lt_of_le (by have := World.block_lt_of_cell? _ _ hw443_3;first | rwa [add_block] at this | exact this) GW449.out) | (rw [add_block];exact Nat.ne_of_lt (Nat.lt_of_lt_of_le (by have := World.block_lt_of_cell? _ _ hw443_3;first | rwa [add_block] at this | exact this) GW449.out)) | (show (Addr.add _ _).block ≠ _;rw [add_block];exact Nat.ne_of_lt (Nat.lt_of_lt_of_le (by have := World.block_lt_of_cell? _ _ hw443_3;first | rwa [add_block] at this | exact this) GW449.out)) | (dsimp only;exact Nat.ne_of_lt (Nat.lt_of_lt_of_le (by have := World.block_lt_of_cell? _ _ hw443_3;first | rwa [add_block] at this | exact this) GW449.out))) _).trans (((cell_far (p := ⟨gb449,_,none⟩) (by first | exact Nat.ne_of_lt (Nat.lt_of_lt_of_le (by have := World.block_lt_of_cell? _ _ hw443_3;first | rwa [add_block] at this | exact this) GW449.out) | (rw [add_block];exact Nat.ne_of_lt (Nat.lt_of_lt_of_le (by have := World.block_lt_of_cell? _ _ hw443_3;first | rwa [add_block] at this | exact this) GW449.out)) | (show (Addr.add _ _).block ≠ _;rw [add_block];exact Nat.ne_of_lt (Nat.lt_of_lt_of_le (by have := World.block_lt_of_cell? _ _ hw443_3;first | rwa [add_block] at this | exact this) GW449.out)) | (dsimp only;exact Nat.ne_of_lt (Nat.lt_of_lt_of_le (by have := World.block_lt_of_cell? _ _ hw443_3;first | rwa [add_block] at this | exact this) GW449.out))) _).trans (hHeld.2.2.2.2.2.2.2))))))))⟩ (fun hHeld => ?_)
       clear hK K
       refine pure_ (i := 17) (N := some 8) (v := ?_) (a' := ?_) #[true,true,true,true,true,true,true,true,true,true,true,true,true,true,true,true,true,true] rfl rfl (q0r HT_.out (by kernel_rfl)) (fun _ _ _ h => h) (Or.inl ⟨by rfl,?_⟩) ?_ ?_
       rotate_left
       ·intro w'
        go_simp
        with_reducible rfl
       rotate_left
       ·simp only [Act.put,zA,zB,zC,i64_w,i32_w]
        rfl
       refine done_ (done_of HT_.out (by kernel_rfl)) ?_
       try go_wp2
       have n0_ : Aside0 (Kd.R k45 45 ((((w14.setCell ⟨gb449,0,none⟩ (.string t444)).setCell ⟨gb449,1,none⟩ (.string t445)).setCell ⟨gb449,2,none⟩ (.int .i64 t446)).setCell ⟨gb449,3,none⟩ (.int .i64 t447)) w.heap.size (fun k_ => k_ ≠ gb449) u5 x5_1) := ⟨by (with_reducible repeat (first | apply Kd.q0m | apply Kd.q0n | apply Kd.q0o));exact Kd.R_mono (Kd.R_far (p := ⟨gb449,3,none⟩) (Kd.R_far (p := ⟨gb449,2,none⟩) (Kd.R_far (p := ⟨gb449,1,none⟩) (Kd.R_far (p := ⟨gb449,0,none⟩) (Kd.R_mono HO_5.out (fun k_ hk => (⟨hk,hk⟩ : _ ∧ k_ ≠ gb449))) (fun _ hk => hk.2) (.string t444)) (fun _ hk => hk.2) (.string t445)) (fun _ hk => hk.2) (.int .i64 t446)) (fun _ hk => hk.2) (.int .i64 t447)) (fun _ hk => hk.1)⟩
       have n1_ : Aside0 (((((w14.setCell ⟨gb449,0,none⟩ (.string t444)).setCell ⟨gb449,1,none⟩ (.string t445)).setCell ⟨gb449,2,none⟩ (.int .i64 t446)).setCell ⟨gb449,3,none⟩ (.int .i64 t447)).heap[gb449]? = some (.cells #[.string t444,.string t445,.int .i64 t446,.int .i64 t447] 45 (0,0))) := ⟨by (with_reducible repeat (first | refine q0b ?_ _ | refine q0c ?_ | refine q0a ?_ _));refine q0t (cs := #[.string t444,.string t445,.int .i64 t446,.int .i64 0]) ?_ 3 _ rfl;(with_reducible repeat (first | refine q0b ?_ _ | refine q0c ?_ | refine q0a ?_ _));refine q0t (cs := #[.string t444,.string t445,.int .i64 0,.int .i64 0]) ?_ 2 _ rfl;(with_reducible repeat (first | refine q0b ?_ _ | refine q0c ?_ | refine q0a ?_ _));refine q0t (cs := #[.string t444,.string (⟨#[]⟩ : ByteArray),.int .i64 0,.int .i64 0]) ?_ 1 _ rfl;(with_reducible repeat (first | refine q0b ?_ _ | refine q0c ?_ | refine q0a ?_ _));refine q0t (cs := #[.string (⟨#[]⟩ : ByteArray),.string (⟨#[]⟩ : ByteArray),.int .i64 0,.int .i64 0]) ?_ 0 _ rfl;(with_reducible repeat (first | refine q0b ?_ _ | refine q0c ?_ | refine q0a ?_ _));exact BK449.out⟩
       have n2_ : Aside0 (Below w.heap.size w ((((w14.setCell ⟨gb449,0,none⟩ (.string t444)).setCell ⟨gb449,1,none⟩ (.string t445)).setCell ⟨gb449,2,none⟩ (.int .i64 t446)).setCell ⟨gb449,3,none⟩ (.int .i64 t447))) := ⟨by repeat (first | (with_reducible first | exact HB.out | apply q0h | apply q0d | apply q0f | refine q0g ?_ GE449.out) | exact HB.out)⟩
       (try clear HO_5)
       (try clear BK449)
       (try clear HB)
       generalize ((((w14.setCell ⟨gb449,0,none⟩ (.string t444)).setCell ⟨gb449,1,none⟩ (.string t445)).setCell ⟨gb449,2,none⟩ (.int .i64 t446)).setCell ⟨gb449,3,none⟩ (.int .i64 t447)) = w19 at n0_ n1_ n2_ ⊢
       have HO_5 := n0_
       have BK449 := n1_
       have HB := n2_
       clear n0_ n1_ n2_
       have n0_ := Aside0.mk (Kd.q0o HO_5.out)
       have n1_ := Aside0.mk (q0c BK449.out)
       have n2_ := Aside0.mk (q0f HB.out)
       clear HO_5
       clear BK449
       clear HB
       have HO_5 := n0_
       have BK449 := n1_
       have HB := n2_
       clear n0_ n1_ n2_
       have p450 : 0 ≤ (x6_1 : Int) := of_decide_eq_true (by first | (with_reducible assumption) | assumption)
       have q450 : x6_1 < (l0.length : Int) := of_decide_eq_true (by first | (with_reducible assumption) | assumption)
       obtain ⟨ad450,e450,hx450_0,hx450_1,hx450_2,hx450_3⟩ := at_T45 HR0.out x6_1 p450 q450
       have hw450_3 := hx450_3
       have hw450_2 := hx450_2
       have hw450_1 := hx450_1
       have hw450_0 := hx450_0
       obtain rfl : ad442 = ad450 := (by injection e450)
       replace hx450_0 := (HB.out.cell (World.block_lt_of_cell? w _ hx450_0)).trans hx450_0
       replace hx450_1 := (HB.out.cell (World.block_lt_of_cell? w _ hx450_1)).trans hx450_1
       replace hx450_2 := (HB.out.cell (World.block_lt_of_cell? w _ hx450_2)).trans hx450_2
       replace hx450_3 := (HB.out.cell (World.block_lt_of_cell? w _ hx450_3)).trans hx450_3
       replace p450 := eq_true p450
       replace q450 := eq_true q450
       refine start_ (n := 6) (S := fun w' => w'.cell? ⟨gb449,0,none⟩ = some (.string t444) ∧ w'.cell? ⟨gb449,1,none⟩ = some (.string t445) ∧ w'.cell? ⟨gb449,2,none⟩ = some (.int .i64 t446) ∧ w'.cell? ⟨gb449,3,none⟩ = some (.int .i64 t447) ∧ w'.cell? (ad442.add ((x6_1).toNat * 4)) = some (.string ((q0e l0 x6_1).f0)) ∧ w'.cell? ⟨(ad442.add ((x6_1).toNat * 4)).block,(ad442.add ((x6_1).toNat * 4)).off + 1,none⟩ = some (.string ((q0e l0 x6_1).f1)) ∧ w'.cell? ⟨(ad442.add ((x6_1).toNat * 4)).block,(ad442.add ((x6_1).toNat * 4)).off + 2,none⟩ = some (.int .i64 ((q0e l0 x6_1).f2)) ∧ w'.cell? ⟨(ad442.add ((x6_1).toNat * 4)).block,(ad442.add ((x6_1).toNat * 4)).off + 3,none⟩ = some (.int .i64 ((q0e l0 x6_1).f3))) (ds := []) #[false,false,false,false,false,false] (by kernel_rfl) rfl rfl ⟨(q0i BK449.out 0).trans rfl,(q0i BK449.out 1).trans rfl,(q0i BK449.out 2).trans rfl,(q0i BK449.out 3).trans rfl,((HB.out.cell (World.block_lt_of_cell? w _ hw450_0)).trans hw450_0),((HB.out.cell (World.block_lt_of_cell? w _ hw450_1)).trans hw450_1),((HB.out.cell (World.block_lt_of_cell? w _ hw450_2)).trans hw450_2),((HB.out.cell (World.block_lt_of_cell? w _ hw450_3)).trans hw450_3)⟩ (fun hHeld => ?_)
       generalize w19.drew = w20 at HO_5 BK449 HB hx450_0 hx450_1 hx450_2 hx450_3 hHeld ⊢
       refine pure_ (i := 1) (N := some 37) (v := ?_) (a' := ?_) #[false,true,false,false,false,false] rfl rfl (by kernel_rfl) (fun _ _ _ h => h) (Or.inl ⟨by rfl,?_⟩) ?_ ?_
       rotate_left
       ·intro w'
        go_simp
        with_reducible rfl
       rotate_left
       ·simp only [Act.put,zA,zB,zC,i64_w,i32_w]
        rfl
       refine pure_ (i := 2) (N := some 38) (v := ?_) (a' := ?_) #[false,true,true,false,false,false] rfl rfl (by kernel_rfl) (fun _ _ _ h => h) (Or.inl ⟨by rfl,?_⟩) ?_ ?_
       rotate_left
       ·intro w'
        go_simp
        with_reducible rfl
       rotate_left
       ·simp only [Act.put,zA,zB,zC,i64_w,i32_w]
        rfl
       refine pure_ (i := 3) (N := some 39) (v := ?_) (a' := ?_) #[false,true,true,true,false,false] rfl rfl (by kernel_rfl) (fun _ _ _ h => h) (Or.inl ⟨by rfl,?_⟩) ?_ ?_
       rotate_left
       ·intro w'
        go_simp
        with_reducible rfl
       rotate_left
       ·simp only [Act.put,zA,zB,zC,i64_w,i32_w]
        rfl
       refine take_ (i := 0) (N := some 36) (v := ?_) (a' := ?_) #[true,true,true,true,false,false] rfl rfl (by kernel_rfl) (fun _ _ _ h => h) (Or.inl ⟨by rfl,?_⟩) hHeld ?_ ?_
       rotate_left
       ·rintro w' ⟨s0,s1,s2,s3,s4,s5,s6,s7⟩
        go_simp
        with_reducible rfl
       rotate_left
       ·simp only [Act.put,zA,zB,zC,i64_w,i32_w]
        rfl
       refine take_ (i := 4) (N := some 40) (v := ?_) (a' := ?_) #[true,true,true,true,true,false] rfl rfl (by kernel_rfl) (fun _ _ _ h => h) (Or.inl ⟨by rfl,?_⟩) hHeld ?_ ?_
       rotate_left
       ·rintro w' ⟨s0,s1,s2,s3,s4,s5,s6,s7⟩
        go_simp
        with_reducible rfl
       rotate_left
       ·simp only [Act.put,zA,zB,zC,i64_w,i32_w]
        rfl
       refine pure_ (i := 5) (N := some 41) (v := ?_) (a' := ?_) #[true,true,true,true,true,true] rfl rfl (by kernel_rfl) (fun _ _ _ h => h) (Or.inl ⟨by rfl,?_⟩) ?_ ?_
       rotate_left
       ·intro w'
        go_simp
        with_reducible rfl
       rotate_left
       ·simp only [Act.put,zA,zB,zC,i64_w,i32_w]
        rfl
       refine done_ (by kernel_rfl) ?_
       try go_wp2_with (first | ((with_reducible refine q00 (f := 44) rfl ?_);refine goesL_ (some 42) rfl rfl Try.func44 (by kernel_rfl) rfl #[] rfl (by (try simp only [List.map_toArray,List.map_cons,List.map_nil]);first | done | rfl | (simp only [List.length_drop,List.length_take];rfl)) ?_;(with_reducible refine (verdererlaw28_known.calls k1  t451 _ A10.out).mono ?_);rintro e w21 ⟨rfl,hb⟩;refine ⟨_,rfl,?_⟩;have n0_ := Aside0.mk (Kd.q0v (by (with_reducible repeat (first | apply Kd.q0m | apply Kd.q0n | apply Kd.q0o));exact HO_5.out) hb);have n1_ := Aside0.mk (q0q (g := gb449) (o := .cells #[.string t444,.string t445,.int .i64 t446,.int .i64 t447] 45 (0,0)) (by (with_reducible repeat (first | refine q0b ?_ _ | refine q0c ?_ | refine q0a ?_ _));exact BK449.out) hb);have n2_ := Aside0.mk (q0s (by repeat (first | (with_reducible first | exact HB.out | apply q0h | apply q0d | apply q0f | refine q0g ?_ GE449.out) | exact HB.out)) hb);clear HO_5;clear BK449;clear HB;have HO_5 := n0_;have BK449 := n1_;have HB := n2_;clear n0_ n1_ n2_;(try clear hb);(try clear hb2);(try clear hk);(try clear hi)))
       go_ret
       exact ⟨by first | rfl | (simp [q0w,q0x] <;> rfl) | (simp [*,q0w,q0x] <;> rfl),by repeat (first | (with_reducible first | exact HB.out | apply q0h | apply q0d | apply q0f | refine q0g ?_ GE449.out) | exact HB.out)⟩
      ·rw [if_neg c9] at H
       have c9b0 : (!(t444.toList == (((q0e l0 x6_1).f0).toList)) || (!(t445.toList == (((q0e l0 x6_1).f1).toList)) || (!(t446 == ((q0e l0 x6_1).f2)) || (!(t447 == ((q0e l0 x6_1).f3)))))) = false := by simpa using c9
       clear c9
       by_cases c22 : x6_1 < (l1.length : Int)
       ·rw [if_pos c22] at H
        have c22b0 : decide (x6_1 < (l1.length : Int)) = true := decide_eq_true c22
        clear c22
        by_cases c23 : (rd l1 x6_1) < t446
        ·rw [if_pos c23] at H
         have c23b0 : decide ((rd l1 x6_1) < t446) = true := decide_eq_true c23
         clear c23
         by_cases c24 : x5_1.length < 2932031007402
         ·rw [if_pos c24] at H
          have LMc24 := Aside0.mk c24
          clear c24
          obtain ⟨y454,hy454⟩ : ∃ y_ : List (S45),y_ = (x5_1 ++ [(⟨t444,t445,rd l1 x6_1,t447⟩ : S45)]) := ⟨_,rfl⟩
          replace H : (verdererlaw28_QuotaLess.l0 k1 l0 l1 y454 (wrap64 (x6_1 + 1))) = some r := by first | (rw [hy454];with_reducible exact H) | (have H2_ := (Option.bind_some _ _).symm.trans H;rw [hy454];with_reducible exact H2_) | (have H2_ := (Option.bind_some _ _).symm.trans H;with_reducible exact H2_) | with_reducible exact H | (rw [hy454];exact H) | exact H
          have Ny454 := Aside0.mk hy454
          clear hy454
          have H' := Aside0.mk H
          clear H
          try go_wp2
          have n0_ := Aside0.mk (Kd.q0o HO_5.out)
          have n1_ := Aside0.mk (q0f HB.out)
          clear HO_5
          clear HB
          have HO_5 := n0_
          have HB := n1_
          clear n0_ n1_
          have p442 : 0 ≤ (x6_1 : Int) := of_decide_eq_true (by first | (with_reducible assumption) | assumption)
          have q442 : x6_1 < (l0.length : Int) := of_decide_eq_true (by first | (with_reducible assumption) | assumption)
          obtain ⟨ad442,e442,hx442_0,hx442_1,hx442_2,hx442_3⟩ := at_T45 HR0.out x6_1 p442 q442
          have hw442_3 := hx442_3
          have hw442_2 := hx442_2
          have hw442_1 := hx442_1
          have hw442_0 := hx442_0
          cases e442
          replace hx442_0 := (HB.out.cell (World.block_lt_of_cell? w _ hx442_0)).trans hx442_0
          replace hx442_1 := (HB.out.cell (World.block_lt_of_cell? w _ hx442_1)).trans hx442_1
          replace hx442_2 := (HB.out.cell (World.block_lt_of_cell? w _ hx442_2)).trans hx442_2
          replace hx442_3 := (HB.out.cell (World.block_lt_of_cell? w _ hx442_3)).trans hx442_3
          replace p442 := eq_true p442
          replace q442 := eq_true q442
          have p443 : 0 ≤ (x6_1 : Int) := of_decide_eq_true (by first | (with_reducible assumption) | assumption)
          have q443 : x6_1 < (l0.length : Int) := of_decide_eq_true (by first | (with_reducible assumption) | assumption)
          obtain ⟨ad443,e443,hx443_0,hx443_1,hx443_2,hx443_3⟩ := at_T45 HR0.out x6_1 p443 q443
          have hw443_3 := hx443_3
          have hw443_2 := hx443_2
          have hw443_1 := hx443_1
          have hw443_0 := hx443_0
          obtain rfl : ad442 = ad443 := (by injection e443)
          replace hx443_0 := (HB.out.cell (World.block_lt_of_cell? w _ hx443_0)).trans hx443_0
          replace hx443_1 := (HB.out.cell (World.block_lt_of_cell? w _ hx443_1)).trans hx443_1
          replace hx443_2 := (HB.out.cell (World.block_lt_of_cell? w _ hx443_2)).trans hx443_2
          replace hx443_3 := (HB.out.cell (World.block_lt_of_cell? w _ hx443_3)).trans hx443_3
          replace p443 := eq_true p443
          replace q443 := eq_true q443
          refine start_ (n := 18) (S := fun w' => w'.cell? (ad442.add ((x6_1).toNat * 4)) = some (.string ((q0e l0 x6_1).f0)) ∧ w'.cell? ⟨(ad442.add ((x6_1).toNat * 4)).block,(ad442.add ((x6_1).toNat * 4)).off + 1,none⟩ = some (.string ((q0e l0 x6_1).f1)) ∧ w'.cell? ⟨(ad442.add ((x6_1).toNat * 4)).block,(ad442.add ((x6_1).toNat * 4)).off + 2,none⟩ = some (.int .i64 ((q0e l0 x6_1).f2)) ∧ w'.cell? ⟨(ad442.add ((x6_1).toNat * 4)).block,(ad442.add ((x6_1).toNat * 4)).off + 3,none⟩ = some (.int .i64 ((q0e l0 x6_1).f3)) ∧ w'.cell? (ad442.add ((x6_1).toNat * 4)) = some (.string ((q0e l0 x6_1).f0)) ∧ w'.cell? ⟨(ad442.add ((x6_1).toNat * 4)).block,(ad442.add ((x6_1).toNat * 4)).off + 1,none⟩ = some (.string ((q0e l0 x6_1).f1)) ∧ w'.cell? ⟨(ad442.add ((x6_1).toNat * 4)).block,(ad442.add ((x6_1).toNat * 4)).off + 2,none⟩ = some (.int .i64 ((q0e l0 x6_1).f2)) ∧ w'.cell? ⟨(ad442.add ((x6_1).toNat * 4)).block,(ad442.add ((x6_1).toNat * 4)).off + 3,none⟩ = some (.int .i64 ((q0e l0 x6_1).f3))) (ds := []) #[false,false,false,false,false,false,false,false,false,false,false,false,false,false,false,false,false,false] (by kernel_rfl) rfl rfl ⟨((HB.out.cell (World.block_lt_of_cell? w _ hw442_0)).trans hw442_0),((HB.out.cell (World.block_lt_of_cell? w _ hw442_1)).trans hw442_1),((HB.out.cell (World.block_lt_of_cell? w _ hw442_2)).trans hw442_2),((HB.out.cell (World.block_lt_of_cell? w _ hw442_3)).trans hw442_3),((HB.out.cell (World.block_lt_of_cell? w _ hw443_0)).trans hw443_0),((HB.out.cell (World.block_lt_of_cell? w _ hw443_1)).trans hw443_1),((HB.out.cell (World.block_lt_of_cell? w _ hw443_2)).trans hw443_2),((HB.out.cell (World.block_lt_of_cell? w _ hw443_3)).trans hw443_3)⟩ (fun hHeld => ?_);refine with_tabW verdererlaw28_QuotaLess.tab7 verdererlaw28_QuotaLess.bits7 (fun HT_ HW_ => ?_)
          generalize wr.drew = w25 at HO_5 HB hx442_0 hx442_1 hx442_2 hx442_3 hx443_0 hx443_1 hx443_2 hx443_3 hHeld ⊢
          refine pure_ (i := 0) (N := some 22) (v := ?_) (a' := ?_) #[true,false,false,false,false,false,false,false,false,false,false,false,false,false,false,false,false,false] rfl rfl (q0r HT_.out (by kernel_rfl)) (fun _ _ _ h => h) (Or.inl ⟨by rfl,?_⟩) ?_ ?_
          rotate_left
          ·intro w'
           go_simp
           with_reducible rfl
          rotate_left
          ·simp only [Act.put,zA,zB,zC,i64_w,i32_w]
           rfl
          refine pure_ (i := 1) (N := some 23) (v := ?_) (a' := ?_) #[true,true,false,false,false,false,false,false,false,false,false,false,false,false,false,false,false,false] rfl rfl (q0r HT_.out (by kernel_rfl)) (fun _ _ _ h => h) (Or.inl ⟨by rfl,?_⟩) ?_ ?_
          rotate_left
          ·intro w'
           go_simp
           with_reducible rfl
          rotate_left
          ·simp only [Act.put,zA,zB,zC,i64_w,i32_w]
           rfl
          refine pure_ (i := 2) (N := some 24) (v := ?_) (a' := ?_) #[true,true,true,false,false,false,false,false,false,false,false,false,false,false,false,false,false,false] rfl rfl (q0r HT_.out (by kernel_rfl)) (fun _ _ _ h => h) (Or.inl ⟨by rfl,?_⟩) ?_ ?_
          rotate_left
          ·intro w'
           go_simp
           with_reducible rfl
          rotate_left
          ·simp only [Act.put,zA,zB,zC,i64_w,i32_w]
           rfl
          refine pure_ (i := 3) (N := some 25) (v := ?_) (a' := ?_) #[true,true,true,true,false,false,false,false,false,false,false,false,false,false,false,false,false,false] rfl rfl (q0r HT_.out (by kernel_rfl)) (fun _ _ _ h => h) (Or.inl ⟨by rfl,?_⟩) ?_ ?_
          rotate_left
          ·intro w'
           go_simp
           with_reducible rfl
          rotate_left
          ·simp only [Act.put,zA,zB,zC,i64_w,i32_w]
           rfl
          refine pure_ (i := 5) (N := some 27) (v := ?_) (a' := ?_) #[true,true,true,true,false,true,false,false,false,false,false,false,false,false,false,false,false,false] rfl rfl (q0r HT_.out (by kernel_rfl)) (fun _ _ _ h => h) (Or.inl ⟨by rfl,?_⟩) ?_ ?_
          rotate_left
          ·intro w'
           go_simp
           with_reducible rfl
          rotate_left
          ·simp only [Act.put,zA,zB,zC,i64_w,i32_w]
           rfl
          refine pure_ (i := 6) (N := some 28) (v := ?_) (a' := ?_) #[true,true,true,true,false,true,true,false,false,false,false,false,false,false,false,false,false,false] rfl rfl (q0r HT_.out (by kernel_rfl)) (fun _ _ _ h => h) (Or.inl ⟨by rfl,?_⟩) ?_ ?_
          rotate_left
          ·intro w'
           go_simp
           with_reducible rfl
          rotate_left
          ·simp only [Act.put,zA,zB,zC,i64_w,i32_w]
           rfl
          refine pure_ (i := 7) (N := some 29) (v := ?_) (a' := ?_) #[true,true,true,true,false,true,true,true,false,false,false,false,false,false,false,false,false,false] rfl rfl (q0r HT_.out (by kernel_rfl)) (fun _ _ _ h => h) (Or.inl ⟨by rfl,?_⟩) ?_ ?_
          rotate_left
          ·intro w'
           go_simp
           with_reducible rfl
          rotate_left
          ·simp only [Act.put,zA,zB,zC,i64_w,i32_w]
           rfl
          refine pure_ (i := 8) (N := some 30) (v := ?_) (a' := ?_) #[true,true,true,true,false,true,true,true,true,false,false,false,false,false,false,false,false,false] rfl rfl (q0r HT_.out (by kernel_rfl)) (fun _ _ _ h => h) (Or.inl ⟨by rfl,?_⟩) ?_ ?_
          rotate_left
          ·intro w'
           go_simp
           with_reducible rfl
          rotate_left
          ·simp only [Act.put,zA,zB,zC,i64_w,i32_w]
           rfl
          refine pure_ (i := 10) (N := some 32) (v := ?_) (a' := ?_) #[true,true,true,true,false,true,true,true,true,false,true,false,false,false,false,false,false,false] rfl rfl (q0r HT_.out (by kernel_rfl)) (fun _ _ _ h => h) (Or.inl ⟨by rfl,?_⟩) ?_ ?_
          rotate_left
          ·intro w'
           go_simp
           with_reducible rfl
          rotate_left
          ·simp only [Act.put,zA,zB,zC,i64_w,i32_w]
           rfl
          refine take_ (i := 4) (N := some 26) (v := ?_) (a' := ?_) #[true,true,true,true,true,true,true,true,true,false,true,false,false,false,false,false,false,false] rfl rfl (take_ofW HT_.out HW_.out (by kernel_rfl)) (fun _ _ _ h => h) (Or.inl ⟨by rfl,?_⟩) hHeld ?_ ?_
          rotate_left
          ·rintro w' ⟨s0,s1,s2,s3,s4,s5,s6,s7⟩
           go_simp
           with_reducible rfl
          rotate_left
          ·simp only [Act.put,zA,zB,zC,i64_w,i32_w]
           rfl
          refine take_ (i := 9) (N := some 31) (v := ?_) (a' := ?_) #[true,true,true,true,true,true,true,true,true,true,true,false,false,false,false,false,false,false] rfl rfl (take_ofW HT_.out HW_.out (by kernel_rfl)) (fun _ _ _ h => h) (Or.inl ⟨by rfl,?_⟩) hHeld ?_ ?_
          rotate_left
          ·rintro w' ⟨s0,s1,s2,s3,s4,s5,s6,s7⟩
           go_simp
           with_reducible rfl
          rotate_left
          ·simp only [Act.put,zA,zB,zC,i64_w,i32_w]
           rfl
          refine join_ (σ := Nat) 2 #[true,true,true,true,true,true,true,true,true,true,true,true,true,true,true,true,false,false] (fun s_ => [(33,.tuple #[.agg #[.string t444,.string t445,.int .i64 t446,.int .i64 t447],.bool t448]),(7,.pointer (some ⟨s_,0,none⟩)),(21,.tuple #[.agg #[.string t444,.string t445,.int .i64 t446,.int .i64 t447],.bool t448]),(34,.agg #[.string t444,.string t445,.int .i64 t446,.int .i64 t447]),(35,.bool t448)]) (fun s_ w' => (w'.cell? (ad442.add ((x6_1).toNat * 4)) = some (.string ((q0e l0 x6_1).f0)) ∧ w'.cell? ⟨(ad442.add ((x6_1).toNat * 4)).block,(ad442.add ((x6_1).toNat * 4)).off + 1,none⟩ = some (.string ((q0e l0 x6_1).f1)) ∧ w'.cell? ⟨(ad442.add ((x6_1).toNat * 4)).block,(ad442.add ((x6_1).toNat * 4)).off + 2,none⟩ = some (.int .i64 ((q0e l0 x6_1).f2)) ∧ w'.cell? ⟨(ad442.add ((x6_1).toNat * 4)).block,(ad442.add ((x6_1).toNat * 4)).off + 3,none⟩ = some (.int .i64 ((q0e l0 x6_1).f3)) ∧ w'.cell? (ad442.add ((x6_1).toNat * 4)) = some (.string ((q0e l0 x6_1).f0)) ∧ w'.cell? ⟨(ad442.add ((x6_1).toNat * 4)).block,(ad442.add ((x6_1).toNat * 4)).off + 1,none⟩ = some (.string ((q0e l0 x6_1).f1)) ∧ w'.cell? ⟨(ad442.add ((x6_1).toNat * 4)).block,(ad442.add ((x6_1).toNat * 4)).off + 2,none⟩ = some (.int .i64 ((q0e l0 x6_1).f2)) ∧ w'.cell? ⟨(ad442.add ((x6_1).toNat * 4)).block,(ad442.add ((x6_1).toNat * 4)).off + 3,none⟩ = some (.int .i64 ((q0e l0 x6_1).f3))) ∧ (Kd.R k45 45 w' w.heap.size (fun k_ => k_ ≠ s_) u5 x5_1) ∧ (w'.heap[s_]? = some (.cells #[.string (⟨#[]⟩ : ByteArray),.string (⟨#[]⟩ : ByteArray),.int .i64 0,.int .i64 0] 45 (0,0))) ∧ (w.heap.size ≤ s_) ∧ (w.heap.size ≤ s_) ∧ (Below w.heap.size w w')) ?_ ?_
          rotate_left
          ·intro hCont
           refine two_ (i := 11) (j := 15) (Ni := some 33) (Nj := some 7) #[true,true,true,true,true,true,true,true,true,true,true,true,false,false,false,false,false,false] #[true,true,true,true,true,true,true,true,true,true,true,false,false,false,false,true,false,false] rfl rfl rfl rfl (two_of HT_.out (by kernel_rfl)) (by decide) (by decide) (fun K hK => ?_) (fun K hK => ?_)
           ·skip
            refine goes_ Try.func53 (by kernel_rfl) rfl #[.string ((q0e l0 x6_1).f0),.string ((q0e l0 x6_1).f1),.slice (some ad442) l0.length c0] (by rfl) rfl rfl (by (try simp only [List.map_toArray,List.map_cons,List.map_nil]);first | done | rfl | (simp only [List.length_drop,List.length_take];rfl)) ?_
            with_reducible refine (verdererref27_Find.calls k1 ((q0e l0 x6_1).f0) ((q0e l0 x6_1).f1) _ _ l0 t444 t445 t446 t447 t448 _ ?side1 ?side2 A8.out).mono ?_
            (case side1 => repeat (first | exact (Kd.C_below HR0.out HB.out) | (with_reducible refine Kd.C_alloc ?_ _) | (with_reducible refine Kd.C_drewN ?_ _) | (with_reducible refine Kd.C_drew ?_)))
            (case side2 => exact HC0.out)
            rintro e w26 ⟨rfl,hb⟩
            refine ⟨_,rfl,?_⟩
            have n0_ := Aside0.mk (Kd.q0v (by (with_reducible repeat (first | apply Kd.q0m | apply Kd.q0n | apply Kd.q0o));exact HO_5.out) hb)
            have n1_ := Aside0.mk (q0s (by repeat (first | (with_reducible first | exact HB.out | apply q0h | apply q0d | apply q0f) | exact HB.out)) hb)
            clear HO_5
            clear HB
            have HO_5 := n0_
            have HB := n1_
            clear n0_ n1_
            (try clear hb)
            (try clear hb2)
            (try clear hk)
            (try clear hi)
            refine hK.out _ _ ⟨((HB.out.cell (World.block_lt_of_cell? w _ hw442_0)).trans hw442_0),((HB.out.cell (World.block_lt_of_cell? w _ hw442_1)).trans hw442_1),((HB.out.cell (World.block_lt_of_cell? w _ hw442_2)).trans hw442_2),((HB.out.cell (World.block_lt_of_cell? w _ hw442_3)).trans hw442_3),((HB.out.cell (World.block_lt_of_cell? w _ hw443_0)).trans hw443_0),((HB.out.cell (World.block_lt_of_cell? w _ hw443_1)).trans hw443_1),((HB.out.cell (World.block_lt_of_cell? w _ hw443_2)).trans hw443_2),((HB.out.cell (World.block_lt_of_cell? w _ hw443_3)).trans hw443_3)⟩ (fun hHeld => ?_)
            clear hK K
            refine norm_ (a' := ?_) ?_ ?_
            rotate_left
            ·show Act.put _ (some 33) _ = _
             simp only [Act.put,zA,zB,zC,i64_w,i32_w]
             rfl
            refine pure_ (i := 12) (N := some 21) (v := ?_) (a' := ?_) #[true,true,true,true,true,true,true,true,true,true,true,true,true,false,false,false,false,false] rfl rfl (q0r HT_.out (by kernel_rfl)) (fun _ _ _ h => h) (Or.inl ⟨by rfl,?_⟩) ?_ ?_
            rotate_left
            ·intro w'
             go_simp
             with_reducible rfl
            rotate_left
            ·simp only [Act.put,zA,zB,zC,i64_w,i32_w]
             rfl
            refine pure_ (i := 13) (N := some 34) (v := ?_) (a' := ?_) #[true,true,true,true,true,true,true,true,true,true,true,true,true,true,false,false,false,false] rfl rfl (q0r HT_.out (by kernel_rfl)) (fun _ _ _ h => h) (Or.inl ⟨by rfl,?_⟩) ?_ ?_
            rotate_left
            ·intro w'
             go_simp
             with_reducible rfl
            rotate_left
            ·simp only [Act.put,zA,zB,zC,i64_w,i32_w]
             rfl
            refine pure_ (i := 14) (N := some 35) (v := ?_) (a' := ?_) #[true,true,true,true,true,true,true,true,true,true,true,true,true,true,true,false,false,false] rfl rfl (q0r HT_.out (by kernel_rfl)) (fun _ _ _ h => h) (Or.inl ⟨by rfl,?_⟩) ?_ ?_
            rotate_left
            ·intro w'
             go_simp
             with_reducible rfl
            rotate_left
            ·simp only [Act.put,zA,zB,zC,i64_w,i32_w]
             rfl
            refine one_ (i := 15) (N := some 7) #[true,true,true,true,true,true,true,true,true,true,true,true,true,true,true,true,false,false] rfl rfl (one_of HT_.out (by kernel_rfl)) (by decide) (fun K hK => ?_)
            refine box_step ?hg (N := 7) ?hd (cs := #[.string (⟨#[]⟩ : ByteArray),.string (⟨#[]⟩ : ByteArray),.int .i64 0,.int .i64 0]) (t := 45) ?hr ?_;(case hd => rfl);(case hg => rfl);(case hr => first | (go_simp;done) | (go_simp;rfl))
            intro gb449 hg w27 hbox hb
            have n0_ := Aside0.mk (Kd.q0v (Kd.R_elderB (by (with_reducible repeat (first | apply Kd.q0m | apply Kd.q0n | apply Kd.q0o));exact HO_5.out) gb449 (Nat.le_of_eq hg.symm)) hb)
            have n1_ := Aside0.mk (q0s (by repeat (first | (with_reducible first | exact HB.out | apply q0h | apply q0d | apply q0f) | exact HB.out)) hb)
            have n2_ := Aside0.mk (hbox)
            have n3_ := Aside0.mk ((by rw [hg];exact (q0p (by repeat (first | (with_reducible first | exact HB.out | apply q0h | apply q0d | apply q0f) | exact HB.out))) : w.heap.size ≤ gb449))
            have n4_ := Aside0.mk ((by rw [hg];exact (q0p (by repeat (first | (with_reducible first | exact HB.out | apply q0h | apply q0d | apply q0f) | exact HB.out))) : w.heap.size ≤ gb449))
            clear HO_5
            clear HB
            have HO_5 := n0_
            have HB := n1_
            have BK449 := n2_
            have GW449 := n3_
            have GE449 := n4_
            clear n0_ n1_ n2_ n3_ n4_
            clear hb hbox hg
            refine hK.out _ _ ⟨((HB.out.cell (World.block_lt_of_cell? w _ hw442_0)).trans hw442_0),((HB.out.cell (World.block_lt_of_cell? w _ hw442_1)).trans hw442_1),((HB.out.cell (World.block_lt_of_cell? w _ hw442_2)).trans hw442_2),((HB.out.cell (World.block_lt_of_cell? w _ hw442_3)).trans hw442_3),((HB.out.cell (World.block_lt_of_cell? w _ hw443_0)).trans hw443_0),((HB.out.cell (World.block_lt_of_cell? w _ hw443_1)).trans hw443_1),((HB.out.cell (World.block_lt_of_cell? w _ hw443_2)).trans hw443_2),((HB.out.cell (World.block_lt_of_cell? w _ hw443_3)).trans hw443_3)⟩ (fun hHeld => ?_)
            clear hK K
            refine norm_ (a' := ?_) ?_ ?_
            rotate_left
            ·show Act.put _ (some 7) _ = _
             simp only [Act.put,zA,zB,zC,i64_w,i32_w]
             rfl
            exact norm_ (by simp only [putAll,Act.put,zA,zB,zC]) (hCont (gb449) _ ⟨hHeld,(by (with_reducible repeat (first | apply Kd.q0m | apply Kd.q0n | apply Kd.q0o));exact Kd.R_mono HO_5.out (fun _ hk => hk.2)),(by (with_reducible repeat (first | refine q0b ?_ _ | refine q0c ?_ | refine q0a ?_ _));exact BK449.out),GW449.out,GE449.out,(by repeat (first | (with_reducible first | exact HB.out | apply q0h | apply q0d | apply q0f | refine q0g ?_ GE449.out) | exact HB.out))⟩)
           ·skip
            refine box_step ?hg (N := 7) ?hd (cs := #[.string (⟨#[]⟩ : ByteArray),.string (⟨#[]⟩ : ByteArray),.int .i64 0,.int .i64 0]) (t := 45) ?hr ?_;(case hd => rfl);(case hg => rfl);(case hr => first | (go_simp;done) | (go_simp;rfl))
            intro gb449 hg w26 hbox hb
            have n0_ := Aside0.mk (Kd.q0v (Kd.R_elderB (by (with_reducible repeat (first | apply Kd.q0m | apply Kd.q0n | apply Kd.q0o));exact HO_5.out) gb449 (Nat.le_of_eq hg.symm)) hb)
            have n1_ := Aside0.mk (q0s (by repeat (first | (with_reducible first | exact HB.out | apply q0h | apply q0d | apply q0f) | exact HB.out)) hb)
            have n2_ := Aside0.mk (hbox)
            have n3_ := Aside0.mk ((by rw [hg];exact (q0p (by repeat (first | (with_reducible first | exact HB.out | apply q0h | apply q0d | apply q0f) | exact HB.out))) : w.heap.size ≤ gb449))
            have n4_ := Aside0.mk ((by rw [hg];exact (q0p (by repeat (first | (with_reducible first | exact HB.out | apply q0h | apply q0d | apply q0f) | exact HB.out))) : w.heap.size ≤ gb449))
            clear HO_5
            clear HB
            have HO_5 := n0_
            have HB := n1_
            have BK449 := n2_
            have GW449 := n3_
            have GE449 := n4_
            clear n0_ n1_ n2_ n3_ n4_
            clear hb hbox hg
            refine hK.out _ _ ⟨((HB.out.cell (World.block_lt_of_cell? w _ hw442_0)).trans hw442_0),((HB.out.cell (World.block_lt_of_cell? w _ hw442_1)).trans hw442_1),((HB.out.cell (World.block_lt_of_cell? w _ hw442_2)).trans hw442_2),((HB.out.cell (World.block_lt_of_cell? w _ hw442_3)).trans hw442_3),((HB.out.cell (World.block_lt_of_cell? w _ hw443_0)).trans hw443_0),((HB.out.cell (World.block_lt_of_cell? w _ hw443_1)).trans hw443_1),((HB.out.cell (World.block_lt_of_cell? w _ hw443_2)).trans hw443_2),((HB.out.cell (World.block_lt_of_cell? w _ hw443_3)).trans hw443_3)⟩ (fun hHeld => ?_)
            clear hK K
            refine norm_ (a' := ?_) ?_ ?_
            rotate_left
            ·show Act.put _ (some 7) _ = _
             simp only [Act.put,zA,zB,zC,i64_w,i32_w]
             rfl
            refine one_ (i := 11) (N := some 33) #[true,true,true,true,true,true,true,true,true,true,true,true,false,false,false,true,false,false] rfl rfl (one_of HT_.out (by kernel_rfl)) (by decide) (fun K hK => ?_)
            refine goes_ Try.func53 (by kernel_rfl) rfl #[.string ((q0e l0 x6_1).f0),.string ((q0e l0 x6_1).f1),.slice (some ad442) l0.length c0] (by rfl) rfl rfl (by (try simp only [List.map_toArray,List.map_cons,List.map_nil]);first | done | rfl | (simp only [List.length_drop,List.length_take];rfl)) ?_
            with_reducible refine (verdererref27_Find.calls k1 ((q0e l0 x6_1).f0) ((q0e l0 x6_1).f1) _ _ l0 t444 t445 t446 t447 t448 _ ?side1 ?side2 A8.out).mono ?_
            (case side1 => repeat (first | exact (Kd.C_below HR0.out HB.out) | (with_reducible refine Kd.C_alloc ?_ _) | (with_reducible refine Kd.C_drewN ?_ _) | (with_reducible refine Kd.C_drew ?_)))
            (case side2 => exact HC0.out)
            rintro e w27 ⟨rfl,hb⟩
            refine ⟨_,rfl,?_⟩
            have n0_ := Aside0.mk (Kd.q0v (by (with_reducible repeat (first | apply Kd.q0m | apply Kd.q0n | apply Kd.q0o));exact HO_5.out) hb)
            have n1_ := Aside0.mk (q0q (g := gb449) (o := .cells #[.string (⟨#[]⟩ : ByteArray),.string (⟨#[]⟩ : ByteArray),.int .i64 0,.int .i64 0] 45 (0,0)) (by (with_reducible repeat (first | refine q0b ?_ _ | refine q0c ?_ | refine q0a ?_ _));exact BK449.out) hb)
            have n2_ := Aside0.mk (q0s (by repeat (first | (with_reducible first | exact HB.out | apply q0h | apply q0d | apply q0f | refine q0g ?_ GE449.out) | exact HB.out)) hb)
            clear HO_5
            clear BK449
            clear HB
            have HO_5 := n0_
            have BK449 := n1_
            have HB := n2_
            clear n0_ n1_ n2_
            (try clear hb)
            (try clear hb2)
            (try clear hk)
            (try clear hi)
            refine hK.out _ _ ⟨((HB.out.cell (World.block_lt_of_cell? w _ hw442_0)).trans hw442_0),((HB.out.cell (World.block_lt_of_cell? w _ hw442_1)).trans hw442_1),((HB.out.cell (World.block_lt_of_cell? w _ hw442_2)).trans hw442_2),((HB.out.cell (World.block_lt_of_cell? w _ hw442_3)).trans hw442_3),((HB.out.cell (World.block_lt_of_cell? w _ hw443_0)).trans hw443_0),((HB.out.cell (World.block_lt_of_cell? w _ hw443_1)).trans hw443_1),((HB.out.cell (World.block_lt_of_cell? w _ hw443_2)).trans hw443_2),((HB.out.cell (World.block_lt_of_cell? w _ hw443_3)).trans hw443_3)⟩ (fun hHeld => ?_)
            clear hK K
            refine norm_ (a' := ?_) ?_ ?_
            rotate_left
            ·show Act.put _ (some 33) _ = _
             simp only [Act.put,zA,zB,zC,i64_w,i32_w]
             rfl
            refine pure_ (i := 12) (N := some 21) (v := ?_) (a' := ?_) #[true,true,true,true,true,true,true,true,true,true,true,true,true,false,false,true,false,false] rfl rfl (q0r HT_.out (by kernel_rfl)) (fun _ _ _ h => h) (Or.inl ⟨by rfl,?_⟩) ?_ ?_
            rotate_left
            ·intro w'
             go_simp
             with_reducible rfl
            rotate_left
            ·simp only [Act.put,zA,zB,zC,i64_w,i32_w]
             rfl
            refine pure_ (i := 13) (N := some 34) (v := ?_) (a' := ?_) #[true,true,true,true,true,true,true,true,true,true,true,true,true,true,false,true,false,false] rfl rfl (q0r HT_.out (by kernel_rfl)) (fun _ _ _ h => h) (Or.inl ⟨by rfl,?_⟩) ?_ ?_
            rotate_left
            ·intro w'
             go_simp
             with_reducible rfl
            rotate_left
            ·simp only [Act.put,zA,zB,zC,i64_w,i32_w]
             rfl
            refine pure_ (i := 14) (N := some 35) (v := ?_) (a' := ?_) #[true,true,true,true,true,true,true,true,true,true,true,true,true,true,true,true,false,false] rfl rfl (q0r HT_.out (by kernel_rfl)) (fun _ _ _ h => h) (Or.inl ⟨by rfl,?_⟩) ?_ ?_
            rotate_left
            ·intro w'
             go_simp
             with_reducible rfl
            rotate_left
            ·simp only [Act.put,zA,zB,zC,i64_w,i32_w]
             rfl
            exact norm_ (by simp only [putAll,Act.put,zA,zB,zC]) (hCont (gb449) _ ⟨hHeld,(by (with_reducible repeat (first | apply Kd.q0m | apply Kd.q0n | apply Kd.q0o));exact Kd.R_mono HO_5.out (fun _ hk => hk.2)),(by (with_reducible repeat (first | refine q0b ?_ _ | refine q0c ?_ | refine q0a ?_ _));exact BK449.out),GW449.out,GE449.out,(by repeat (first | (with_reducible first | exact HB.out | apply q0h | apply q0d | apply q0f | refine q0g ?_ GE449.out) | exact HB.out))⟩)
          rintro gb449 w28 ⟨hS_,h0_,h1_,h2_,h3_,h4_⟩
          have n0_ : Aside0 (Kd.R k45 45 w28 w.heap.size (fun k_ => k_ ≠ gb449) u5 x5_1) := ⟨h0_⟩
          have n1_ : Aside0 (w28.heap[gb449]? = some (.cells #[.string (⟨#[]⟩ : ByteArray),.string (⟨#[]⟩ : ByteArray),.int .i64 0,.int .i64 0] 45 (0,0))) := ⟨h1_⟩
          have n2_ : Aside0 (w.heap.size ≤ gb449) := ⟨h2_⟩
          have n3_ : Aside0 (w.heap.size ≤ gb449) := ⟨h3_⟩
          have n4_ : Aside0 (Below w.heap.size w w28) := ⟨h4_⟩
          clear HO_5
          clear HB
          clear h0_ h1_ h2_ h3_ h4_
          have HO_5 := n0_
          have BK449 := n1_
          have GW449 := n2_
          have GE449 := n3_
          have HB := n4_
          clear n0_ n1_ n2_ n3_ n4_
          have hHeld : w28.cell? (ad442.add ((x6_1).toNat * 4)) = some (.string ((q0e l0 x6_1).f0)) ∧ w28.cell? ⟨(ad442.add ((x6_1).toNat * 4)).block,(ad442.add ((x6_1).toNat * 4)).off + 1,none⟩ = some (.string ((q0e l0 x6_1).f1)) ∧ w28.cell? ⟨(ad442.add ((x6_1).toNat * 4)).block,(ad442.add ((x6_1).toNat * 4)).off + 2,none⟩ = some (.int .i64 ((q0e l0 x6_1).f2)) ∧ w28.cell? ⟨(ad442.add ((x6_1).toNat * 4)).block,(ad442.add ((x6_1).toNat * 4)).off + 3,none⟩ = some (.int .i64 ((q0e l0 x6_1).f3)) ∧ w28.cell? (ad442.add ((x6_1).toNat * 4)) = some (.string ((q0e l0 x6_1).f0)) ∧ w28.cell? ⟨(ad442.add ((x6_1).toNat * 4)).block,(ad442.add ((x6_1).toNat * 4)).off + 1,none⟩ = some (.string ((q0e l0 x6_1).f1)) ∧ w28.cell? ⟨(ad442.add ((x6_1).toNat * 4)).block,(ad442.add ((x6_1).toNat * 4)).off + 2,none⟩ = some (.int .i64 ((q0e l0 x6_1).f2)) ∧ w28.cell? ⟨(ad442.add ((x6_1).toNat * 4)).block,(ad442.add ((x6_1).toNat * 4)).off + 3,none⟩ = some (.int .i64 ((q0e l0 x6_1).f3)) := hS_
          refine norm_ (a' := ?_) ?_ ?_
          rotate_left
          ·simp only [putAll,Act.put,zA,zB,zC]
           rfl
          refine one_ (i := 16) (N := none) #[true,true,true,true,true,true,true,true,true,true,true,true,true,true,true,true,true,false] rfl rfl (one_of HT_.out (by kernel_rfl)) (by decide) (fun K hK => ?_)
          have hs29 : w28.cell? ⟨gb449,0,none⟩ = some (.string (⟨#[]⟩ : ByteArray)) := (q0i BK449.out 0).trans rfl
          have hfs29 := q0k BK449.out 0
          have hs30 : w28.cell? ⟨gb449,1,none⟩ = some (.string (⟨#[]⟩ : ByteArray)) := (q0i BK449.out 1).trans rfl
          have hfs30 := q0k BK449.out 1
          have hs31 : w28.cell? ⟨gb449,2,none⟩ = some (.int .i64 0) := (q0i BK449.out 2).trans rfl
          have hfs31 := q0k BK449.out 2
          have hs32 : w28.cell? ⟨gb449,3,none⟩ = some (.int .i64 0) := (q0i BK449.out 3).trans rfl
          have hfs32 := q0k BK449.out 3
          refine skip_ (w1 := ?_) (by rfl) rfl ?_ ?_
          rotate_left
          ·go_simp
           rfl
          refine hK.out _ _ ⟨((cell_far (p := ⟨gb449,_,none⟩) (by first | exact Nat.ne_of_lt (Nat.lt_of_lt_of_le (by have := World.block_lt_of_cell? _ _ hw442_0;first | rwa [add_block] at this | exact this) GW449.out) | (rw [add_block];exact Nat.ne_of_lt (Nat.lt_of_lt_of_le (by have := World.block_lt_of_cell? _ _ hw442_0;first | rwa [add_block] at this | exact this) GW449.out)) | (show (Addr.add _ _).block ≠ _;rw [add_block];exact Nat.ne_of_lt (Nat.lt_of_lt_of_le (by have := World.block_lt_of_cell? _ _ hw442_0;first | rwa [add_block] at this | exact this) GW449.out)) | (dsimp only;exact Nat.ne_of_lt (Nat.lt_of_lt_of_le (by have := World.block_lt_of_cell? _ _ hw442_0;first | rwa [add_block] at this | exact this) GW449.out))) _).trans (((cell_far (p := ⟨gb449,_,none⟩) (by first | exact Nat.ne_of_lt (Nat.lt_of_lt_of_le (by have := World.block_lt_of_cell? _ _ hw442_0;first | rwa [add_block] at this | exact this) GW449.out) | (rw [add_block];exact Nat.ne_of_lt (Nat.lt_of_lt_of_le (by have := World.block_lt_of_cell? _ _ hw442_0;first | rwa [add_block] at this | exact this) GW449.out)) | (show (Addr.add _ _).block ≠ _;rw [add_block];exact Nat.ne_of_lt (Nat.lt_of_lt_of_le (by have := World.block_lt_of_cell? _ _ hw442_0;first | rwa [add_block] at this | exact this) GW449.out)) | (dsimp only;exact Nat.ne_of_lt (Nat.lt_of_lt_of_le (by have := World.block_lt_of_cell? _ _ hw442_0;first | rwa [add_block] at this | exact this) GW449.out))) _).trans (((cell_far (p := ⟨gb449,_,none⟩) (by first | exact Nat.ne_of_lt (Nat.lt_of_lt_of_le (by have := World.block_lt_of_cell? _ _ hw442_0;first | rwa [add_block] at this | exact this) GW449.out) | (rw [add_block];exact Nat.ne_of_lt (Nat.lt_of_lt_of_le (by have := World.block_lt_of_cell? _ _ hw442_0;first | rwa [add_block] at this | exact this) GW449.out)) | (show (Addr.add _ _).block ≠ _;rw [add_block];exact Nat.ne_of_lt (Nat.lt_of_lt_of_le (by have := World.block_lt_of_cell? _ _ hw442_0;first | rwa [add_block] at this | exact this) GW449.out)) | (dsimp only;exact Nat.ne_of_lt (Nat.lt_of_lt_of_le (by have := World.block_lt_of_cell? _ _ hw442_0;first | rwa [add_block] at this | exact this) GW449.out))) _).trans (((cell_far (p := ⟨gb449,_,none⟩) (by first | exact Nat.ne_of_lt (Nat.lt_of_lt_of_le (by have := World.block_lt_of_cell? _ _ hw442_0;first | rwa [add_block] at this | exact this) GW449.out) | (rw [add_block];exact Nat.ne_of_lt (Nat.lt_of_lt_of_le (by have := World.block_lt_of_cell? _ _ hw442_0;first | rwa [add_block] at this | exact this) GW449.out)) | (show (Addr.add _ _).block ≠ _;rw [add_block];exact Nat.ne_of_lt (Nat.lt_of_lt_of_le (by have := World.block_lt_of_cell? _ _ hw442_0;first | rwa [add_block] at this | exact this) GW449.out)) | (dsimp only;exact Nat.ne_of_lt (Nat.lt_of_lt_of_le (by have := World.block_lt_of_cell? _ _ hw442_0;first | rwa [add_block] at this | exact this) GW449.out))) _).trans (hHeld.1)))))))),((cell_far (p := ⟨gb449,_,none⟩) (by first | exact Nat.ne_of_lt (Nat.lt_of_lt_of_le (by have := World.block_lt_of_cell? _ _ hw442_1;first | rwa [add_block] at this | exact this) GW449.out) | (rw [add_block];exact Nat.ne_of_lt (Nat.lt_of_lt_of_le (by have := World.block_lt_of_cell? _ _ hw442_1;first | rwa [add_block] at this | exact this) GW449.out)) | (show (Addr.add _ _).block ≠ _;rw [add_block];exact Nat.ne_of_lt (Nat.lt_of_lt_of_le (by have := World.block_lt_of_cell? _ _ hw442_1;first | rwa [add_block] at this | exact this) GW449.out)) | (dsimp only;exact Nat.ne_of_lt (Nat.lt_of_lt_of_le (by have := World.block_lt_of_cell? _ _ hw442_1;first | rwa [add_block] at this | exact this) GW449.out))) _).trans (((cell_far (p := ⟨gb449,_,none⟩) (by first | exact Nat.ne_of_lt (Nat.lt_of_lt_of_le (by have := World.block_lt_of_cell? _ _ hw442_1;first | rwa [add_block] at this | exact this) GW449.out) | (rw [add_block];exact Nat.ne_of_lt (Nat.lt_of_lt_of_le (by have := World.block_lt_of_cell? _ _ hw442_1;first | rwa [add_block] at this | exact this) GW449.out)) | (show (Addr.add _ _).block ≠ _;rw [add_block];exact Nat.ne_of_lt (Nat.lt_of_lt_of_le (by have := World.block_lt_of_cell? _ _ hw442_1;first | rwa [add_block] at this | exact this) GW449.out)) | (dsimp only;exact Nat.ne_of_lt (Nat.lt_of_lt_of_le (by have := World.block_lt_of_cell? _ _ hw442_1;first | rwa [add_block] at this | exact this) GW449.out))) _).trans (((cell_far (p := ⟨gb449,_,none⟩) (by first | exact Nat.ne_of_lt (Nat.lt_of_lt_of_le (by have := World.block_lt_of_cell? _ _ hw442_1;first | rwa [add_block] at this | exact this) GW449.out) | (rw [add_block];exact Nat.ne_of_lt (Nat.lt_of_lt_of_le (by have := World.block_lt_of_cell? _ _ hw442_1;first | rwa [add_block] at this | exact this) GW449.out)) | (show (Addr.add _ _).block ≠ _;rw [add_block];exact Nat.ne_of_lt (Nat.lt_of_lt_of_le (by have := World.block_lt_of_cell? _ _ hw442_1;first | rwa [add_block] at this | exact this) GW449.out)) | (dsimp only;exact Nat.ne_of_lt (Nat.lt_of_lt_of_le (by have := World.block_lt_of_cell? _ _ hw442_1;first | rwa [add_block] at this | exact this) GW449.out))) _).trans (((cell_far (p := ⟨gb449,_,none⟩) (by first | exact Nat.ne_of_lt (Nat.lt_of_lt_of_le (by have := World.block_lt_of_cell? _ _ hw442_1;first | rwa [add_block] at this | exact this) GW449.out) | (rw [add_block];exact Nat.ne_of_lt (Nat.lt_of_lt_of_le (by have := World.block_lt_of_cell? _ _ hw442_1;first | rwa [add_block] at this | exact this) GW449.out)) | (show (Addr.add _ _).block ≠ _;rw [add_block];exact Nat.ne_of_lt (Nat.lt_of_lt_of_le (by have := World.block_lt_of_cell? _ _ hw442_1;first | rwa [add_block] at this | exact this) GW449.out)) | (dsimp only;exact Nat.ne_of_lt (Nat.lt_of_lt_of_le (by have := World.block_lt_of_cell? _ _ hw442_1;first | rwa [add_block] at this | exact this) GW449.out))) _).trans (hHeld.2.1)))))))),((cell_far (p := ⟨gb449,_,none⟩) (by first | exact Nat.ne_of_lt (Nat.lt_of_lt_of_le (by have := World.block_lt_of_cell? _ _ hw442_2;first | rwa [add_block] at this | exact this) GW449.out) | (rw [add_block];exact Nat.ne_of_lt (Nat.lt_of_lt_of_le (by have := World.block_lt_of_cell? _ _ hw442_2;first | rwa [add_block] at this | exact this) GW449.out)) | (show (Addr.add _ _).block ≠ _;rw [add_block];exact Nat.ne_of_lt (Nat.lt_of_lt_of_le (by have := World.block_lt_of_cell? _ _ hw442_2;first | rwa [add_block] at this | exact this) GW449.out)) | (dsimp only;exact Nat.ne_of_lt (Nat.lt_of_lt_of_le (by have := World.block_lt_of_cell? _ _ hw442_2;first | rwa [add_block] at this | exact this) GW449.out))) _).trans (((cell_far (p := ⟨gb449,_,none⟩) (by first | exact Nat.ne_of_lt (Nat.lt_of_lt_of_le (by have := World.block_lt_of_cell? _ _ hw442_2;first | rwa [add_block] at this | exact this) GW449.out) | (rw [add_block];exact Nat.ne_of_lt (Nat.lt_of_lt_of_le (by have := World.block_lt_of_cell? _ _ hw442_2;first | rwa [add_block] at this | exact this) GW449.out)) | (show (Addr.add _ _).block ≠ _;rw [add_block];exact Nat.ne_of_lt (Nat.lt_of_lt_of_le (by have := World.block_lt_of_cell? _ _ hw442_2;first | rwa [add_block] at this | exact this) GW449.out)) | (dsimp only;exact Nat.ne_of_lt (Nat.lt_of_lt_of_le (by have := World.block_lt_of_cell? _ _ hw442_2;first | rwa [add_block] at this | exact this) GW449.out))) _).trans (((cell_far (p := ⟨gb449,_,none⟩) (by first | exact Nat.ne_of_lt (Nat.lt_of_lt_of_le (by have := World.block_lt_of_cell? _ _ hw442_2;first | rwa [add_block] at this | exact this) GW449.out) | (rw [add_block];exact Nat.ne_of_lt (Nat.lt_of_lt_of_le (by have := World.block_lt_of_cell? _ _ hw442_2;first | rwa [add_block] at this | exact this) GW449.out)) | (show (Addr.add _ _).block ≠ _;rw [add_block];exact Nat.ne_of_lt (Nat.lt_of_lt_of_le (by have := World.block_lt_of_cell? _ _ hw442_2;first | rwa [add_block] at this | exact this) GW449.out)) | (dsimp only;exact Nat.ne_of_lt (Nat.lt_of_lt_of_le (by have := World.block_lt_of_cell? _ _ hw442_2;first | rwa [add_block] at this | exact this) GW449.out))) _).trans (((cell_far (p := ⟨gb449,_,none⟩) (by first | exact Nat.ne_of_lt (Nat.lt_of_lt_of_le (by have := World.block_lt_of_cell? _ _ hw442_2;first | rwa [add_block] at this | exact this) GW449.out) | (rw [add_block];exact Nat.ne_of_lt (Nat.lt_of_lt_of_le (by have := World.block_lt_of_cell? _ _ hw442_2;first | rwa [add_block] at this | exact this) GW449.out)) | (show (Addr.add _ _).block ≠ _;rw [add_block];exact Nat.ne_of_lt (Nat.lt_of_lt_of_le (by have := World.block_lt_of_cell? _ _ hw442_2;first | rwa [add_block] at this | exact this) GW449.out)) | (dsimp only;exact Nat.ne_of_lt (Nat.lt_of_lt_of_le (by have := World.block_lt_of_cell? _ _ hw442_2;first | rwa [add_block] at this | exact this) GW449.out))) _).trans (hHeld.2.2.1)))))))),((cell_far (p := ⟨gb449,_,none⟩) (by first | exact Nat.ne_of_lt (Nat.lt_of_lt_of_le (by have := World.block_lt_of_cell? _ _ hw442_3;first | rwa [add_block] at this | exact this) GW449.out) | (rw [add_block];exact Nat.ne_of_lt (Nat.lt_of_lt_of_le (by have := World.block_lt_of_cell? _ _ hw442_3;first | rwa [add_block] at this | exact this) GW449.out)) | (show (Addr.add _ _).block ≠ _;rw [add_block];exact Nat.ne_of_lt (Nat.lt_of_lt_of_le (by have := World.block_lt_of_cell? _ _ hw442_3;first | rwa [add_block] at this | exact this) GW449.out)) | (dsimp only;exact Nat.ne_of_lt (Nat.lt_of_lt_of_le (by have := World.block_lt_of_cell? _ _ hw442_3;first | rwa [add_block] at this | exact this) GW449.out))) _).trans (((cell_far (p := ⟨gb449,_,none⟩) (by first | exact Nat.ne_of_lt (Nat.lt_of_lt_of_le (by have := World.block_lt_of_cell? _ _ hw442_3;first | rwa [add_block] at this | exact this) GW449.out) | (rw [add_block];exact Nat.ne_of_lt (Nat.lt_of_lt_of_le (by have := World.block_lt_of_cell? _ _ hw442_3;first | rwa [add_block] at this | exact this) GW449.out)) | (show (Addr.add _ _).block ≠ _;rw [add_block];exact Nat.ne_of_lt (Nat.lt_of_lt_of_le (by have := World.block_lt_of_cell? _ _ hw442_3;first | rwa [add_block] at this | exact this) GW449.out)) | (dsimp only;exact Nat.ne_of_lt (Nat.lt_of_lt_of_le (by have := World.block_lt_of_cell? _ _ hw442_3;first | rwa [add_block] at this | exact this) GW449.out))) _).trans (((cell_far (p := ⟨gb449,_,none⟩) (by first | exact Nat.ne_of_lt (Nat.lt_of_lt_of_le (by have := World.block_lt_of_cell? _ _ hw442_3;first | rwa [add_block] at this | exact this) GW449.out) | (rw [add_block];exact Nat.ne_of_lt (Nat.lt_of_lt_of_le (by have := World.block_lt_of_cell? _ _ hw442_3;first | rwa [add_block] at this | exact this) GW449.out)) | (show (Addr.add _ _).block ≠ _;rw [add_block];exact Nat.ne_of_lt (Nat.lt_of_lt_of_le (by have := World.block_lt_of_cell? _ _ hw442_3;first | rwa [add_block] at this | exact this) GW449.out)) | (dsimp only;exact Nat.ne_of_lt (Nat.lt_of_lt_of_le (by have := World.block_lt_of_cell? _ _ hw442_3;first | rwa [add_block] at this | exact this) GW449.out))) _).trans (((cell_far (p := ⟨gb449,_,none⟩) (by first | exact Nat.ne_of_lt (Nat.lt_of_lt_of_le (by have := World.block_lt_of_cell? _ _ hw442_3;first | rwa [add_block] at this | exact this) GW449.out) | (rw [add_block];exact Nat.ne_of_lt (Nat.lt_of_lt_of_le (by have := World.block_lt_of_cell? _ _ hw442_3;first | rwa [add_block] at this | exact this) GW449.out)) | (show (Addr.add _ _).block ≠ _;rw [add_block];exact Nat.ne_of_lt (Nat.lt_of_lt_of_le (by have := World.block_lt_of_cell? _ _ hw442_3;first | rwa [add_block] at this | exact this) GW449.out)) | (dsimp only;exact Nat.ne_of_lt (Nat.lt_of_lt_of_le (by have := World.block_lt_of_cell? _ _ hw442_3;first | rwa [add_block] at this | exact this) GW449.out))) _).trans (hHeld.2.2.2.1)))))))),((cell_far (p := ⟨gb449,_,none⟩) (by first | exact Nat.ne_of_lt (Nat.lt_of_lt_of_le (by have := World.block_lt_of_cell? _ _ hw443_0;first | rwa [add_block] at this | exact this) GW449.out) | (rw [add_block];exact Nat.ne_of_lt (Nat.lt_of_lt_of_le (by have := World.block_lt_of_cell? _ _ hw443_0;first | rwa [add_block] at this | exact this) GW449.out)) | (show (Addr.add _ _).block ≠ _;rw [add_block];exact Nat.ne_of_lt (Nat.lt_of_lt_of_le (by have := World.block_lt_of_cell? _ _ hw443_0;first | rwa [add_block] at this | exact this) GW449.out)) | (dsimp only;exact Nat.ne_of_lt (Nat.lt_of_lt_of_le (by have := World.block_lt_of_cell? _ _ hw443_0;first | rwa [add_block] at this | exact this) GW449.out))) _).trans (((cell_far (p := ⟨gb449,_,none⟩) (by first | exact Nat.ne_of_lt (Nat.lt_of_lt_of_le (by have := World.block_lt_of_cell? _ _ hw443_0;first | rwa [add_block] at this | exact this) GW449.out) | (rw [add_block];exact Nat.ne_of_lt (Nat.lt_of_lt_of_le (by have := World.block_lt_of_cell? _ _ hw443_0;first | rwa [add_block] at this | exact this) GW449.out)) | (show (Addr.add _ _).block ≠ _;rw [add_block];exact Nat.ne_of_lt (Nat.lt_of_lt_of_le (by have := World.block_lt_of_cell? _ _ hw443_0;first | rwa [add_block] at this | exact this) GW449.out)) | (dsimp only;exact Nat.ne_of_lt (Nat.lt_of_lt_of_le (by have := World.block_lt_of_cell? _ _ hw443_0;first | rwa [add_block] at this | exact this) GW449.out))) _).trans (((cell_far (p := ⟨gb449,_,none⟩) (by first | exact Nat.ne_of_lt (Nat.lt_of_lt_of_le (by have := World.block_lt_of_cell? _ _ hw443_0;first | rwa [add_block] at this | exact this) GW449.out) | (rw [add_block];exact Nat.ne_of_lt (Nat.lt_of_lt_of_le (by have := World.block_lt_of_cell? _ _ hw443_0;first | rwa [add_block] at this | exact this) GW449.out)) | (show (Addr.add _ _).block ≠ _;rw [add_block];exact Nat.ne_of_lt (Nat.lt_of_lt_of_le (by have := World.block_lt_of_cell? _ _ hw443_0;first | rwa [add_block] at this | exact this) GW449.out)) | (dsimp only;exact Nat.ne_of_lt (Nat.lt_of_lt_of_le (by have := World.block_lt_of_cell? _ _ hw443_0;first | rwa [add_block] at this | exact this) GW449.out))) _).trans (((cell_far (p := ⟨gb449,_,none⟩) (by first | exact Nat.ne_of_lt (Nat.lt_of_lt_of_le (by have := World.block_lt_of_cell? _ _ hw443_0;first | rwa [add_block] at this | exact this) GW449.out) | (rw [add_block];exact Nat.ne_of_lt (Nat.lt_of_lt_of_le (by have := World.block_lt_of_cell? _ _ hw443_0;first | rwa [add_block] at this | exact this) GW449.out)) | (show (Addr.add _ _).block ≠ _;rw [add_block];exact Nat.ne_of_lt (Nat.lt_of_lt_of_le (by have := World.block_lt_of_cell? _ _ hw443_0;first | rwa [add_block] at this | exact this) GW449.out)) | (dsimp only;exact Nat.ne_of_lt (Nat.lt_of_lt_of_le (by have := World.block_lt_of_cell? _ _ hw443_0;first | rwa [add_block] at this | exact this) GW449.out))) _).trans (hHeld.2.2.2.2.1)))))))),((cell_far (p := ⟨gb449,_,none⟩) (by first | exact Nat.ne_of_lt (Nat.lt_of_lt_of_le (by have := World.block_lt_of_cell? _ _ hw443_1;first | rwa [add_block] at this | exact this) GW449.out) | (rw [add_block];exact Nat.ne_of_lt (Nat.lt_of_lt_of_le (by have := World.block_lt_of_cell? _ _ hw443_1;first | rwa [add_block] at this | exact this) GW449.out)) | (show (Addr.add _ _).block ≠ _;rw [add_block];exact Nat.ne_of_lt (Nat.lt_of_lt_of_le (by have := World.block_lt_of_cell? _ _ hw443_1;first | rwa [add_block] at this | exact this) GW449.out)) | (dsimp only;exact Nat.ne_of_lt (Nat.lt_of_lt_of_le (by have := World.block_lt_of_cell? _ _ hw443_1;first | rwa [add_block] at this | exact this) GW449.out))) _).trans (((cell_far (p := ⟨gb449,_,none⟩) (by first | exact Nat.ne_of_lt (Nat.lt_of_lt_of_le (by have := World.block_lt_of_cell? _ _ hw443_1;first | rwa [add_block] at this | exact this) GW449.out) | (rw [add_block];exact Nat.ne_of_lt (Nat.lt_of_lt_of_le (by have := World.block_lt_of_cell? _ _ hw443_1;first | rwa [add_block] at this | exact this) GW449.out)) | (show (Addr.add _ _).block ≠ _;rw [add_block];exact Nat.ne_of_lt (Nat.lt_of_lt_of_le (by have := World.block_lt_of_cell? _ _ hw443_1;first | rwa [add_block] at this | exact this) GW449.out)) | (dsimp only;exact Nat.ne_of_lt (Nat.lt_of_lt_of_le (by have := World.block_lt_of_cell? _ _ hw443_1;first | rwa [add_block] at this | exact this) GW449.out))) _).trans (((cell_far (p := ⟨gb449,_,none⟩) (by first | exact Nat.ne_of_lt (Nat.lt_of_lt_of_le (by have := World.block_lt_of_cell? _ _ hw443_1;first | rwa [add_block] at this | exact this) GW449.out) | (rw [add_block];exact Nat.ne_of_lt (Nat.lt_of_lt_of_le (by have := World.block_lt_of_cell? _ _ hw443_1;first | rwa [add_block] at this | exact this) GW449.out)) | (show (Addr.add _ _).block ≠ _;rw [add_block];exact Nat.ne_of_lt (Nat.lt_of_lt_of_le (by have := World.block_lt_of_cell? _ _ hw443_1;first | rwa [add_block] at this | exact this) GW449.out)) | (dsimp only;exact Nat.ne_of_lt (Nat.lt_of_lt_of_le (by have := World.block_lt_of_cell? _ _ hw443_1;first | rwa [add_block] at this | exact this) GW449.out))) _).trans (((cell_far (p := ⟨gb449,_,none⟩) (by first | exact Nat.ne_of_lt (Nat.lt_of_lt_of_le (by have := World.block_lt_of_cell? _ _ hw443_1;first | rwa [add_block] at this | exact this) GW449.out) | (rw [add_block];exact Nat.ne_of_lt (Nat.lt_of_lt_of_le (by have := World.block_lt_of_cell? _ _ hw443_1;first | rwa [add_block] at this | exact this) GW449.out)) | (show (Addr.add _ _).block ≠ _;rw [add_block];exact Nat.ne_of_lt (Nat.lt_of_lt_of_le (by have := World.block_lt_of_cell? _ _ hw443_1;first | rwa [add_block] at this | exact this) GW449.out)) | (dsimp only;exact Nat.ne_of_lt (Nat.lt_of_lt_of_le (by have := World.block_lt_of_cell? _ _ hw443_1;first | rwa [add_block] at this | exact this) GW449.out))) _).trans (hHeld.2.2.2.2.2.1)))))))),((cell_far (p := ⟨gb449,_,none⟩) (by first | exact Nat.ne_of_lt (Nat.lt_of_lt_of_le (by have := World.block_lt_of_cell? _ _ hw443_2;first | rwa [add_block] at this | exact this) GW449.out) | (rw [add_block];exact Nat.ne_of_lt (Nat.lt_of_lt_of_le (by have := World.block_lt_of_cell? _ _ hw443_2;first | rwa [add_block] at this | exact this) GW449.out)) | (show (Addr.add _ _).block ≠ _;rw [add_block];exact Nat.ne_of_lt (Nat.lt_of_lt_of_le (by have := World.block_lt_of_cell? _ _ hw443_2;first | rwa [add_block] at this | exact this) GW449.out)) | (dsimp only;exact Nat.ne_of_lt (Nat.lt_of_lt_of_le (by have := World.block_lt_of_cell? _ _ hw443_2;first | rwa [add_block] at this | exact this) GW449.out))) _).trans (((cell_far (p := ⟨gb449,_,none⟩) (by first | exact Nat.ne_of_lt (Nat.lt_of_lt_of_le (by have := World.block_lt_of_cell? _ _ hw443_2;first | rwa [add_block] at this | exact this) GW449.out) | (rw [add_block];exact Nat.ne_of_lt (Nat.lt_of_lt_of_le (by have := World.block_lt_of_cell? _ _ hw443_2;first | rwa [add_block] at this | exact this) GW449.out)) | (show (Addr.add _ _).block ≠ _;rw [add_block];exact Nat.ne_of_lt (Nat.lt_of_lt_of_le (by have := World.block_lt_of_cell? _ _ hw443_2;first | rwa [add_block] at this | exact this) GW449.out)) | (dsimp only;exact Nat.ne_of_lt (Nat.lt_of_lt_of_le (by have := World.block_lt_of_cell? _ _ hw443_2;first | rwa [add_block] at this | exact this) GW449.out))) _).trans (((cell_far (p := ⟨gb449,_,none⟩) (by first | exact Nat.ne_of_lt (Nat.lt_of_lt_of_le (by have := World.block_lt_of_cell? _ _ hw443_2;first | rwa [add_block] at this | exact this) GW449.out) | (rw [add_block];exact Nat.ne_of_lt (Nat.lt_of_lt_of_le (by have := World.block_lt_of_cell? _ _ hw443_2;first | rwa [add_block] at this | exact this) GW449.out)) | (show (Addr.add _ _).block ≠ _;rw [add_block];exact Nat.ne_of_lt (Nat.lt_of_lt_of_le (by have := World.block_lt_of_cell? _ _ hw443_2;first | rwa [add_block] at this | exact this) GW449.out)) | (dsimp only;exact Nat.ne_of_lt (Nat.lt_of_lt_of_le (by have := World.block_lt_of_cell? _ _ hw443_2;first | rwa [add_block] at this | exact this) GW449.out))) _).trans (((cell_far (p := ⟨gb449,_,none⟩) (by first | exact Nat.ne_of_lt (Nat.lt_of_lt_of_le (by have := World.block_lt_of_cell? _ _ hw443_2;first | rwa [add_block] at this | exact this) GW449.out) | (rw [add_block];exact Nat.ne_of_lt (Nat.lt_of_lt_of_le (by have := World.block_lt_of_cell? _ _ hw443_2;first | rwa [add_block] at this | exact this) GW449.out)) | (show (Addr.add _ _).block ≠ _;rw [add_block];exact Nat.ne_of_lt (Nat.lt_of_lt_of_le (by have := World.block_lt_of_cell? _ _ hw443_2;first | rwa [add_block] at this | exact this) GW449.out)) | (dsimp only;exact Nat.ne_of_lt (Nat.lt_of_lt_of_le (by have := World.block_lt_of_cell? _ _ hw443_2;first | rwa [add_block] at this | exact this) GW449.out))) _).trans (hHeld.2.2.2.2.2.2.1)))))))),((cell_far (p := ⟨gb449,_,none⟩) (by first | exact Nat.ne_of_lt (Nat.lt_of_lt_of_le (by have := World.block_lt_of_cell? _ _ hw443_3;first | rwa [add_block] at this | exact this) GW449.out) | (rw [add_block];exact Nat.ne_of_lt (Nat.lt_of_lt_of_le (by have := World.block_lt_of_cell? _ _ hw443_3;first | rwa [add_block] at this | exact this) GW449.out)) | (show (Addr.add _ _).block ≠ _;rw [add_block];exact Nat.ne_of_lt (Nat.lt_of_lt_of_le (by have := World.block_lt_of_cell? _ _ hw443_3;first | rwa [add_block] at this | exact this) GW449.out)) | (dsimp only;exact Nat.ne_of_lt (Nat.lt_of_lt_of_le (by have := World.block_lt_of_cell? _ _ hw443_3;first | rwa [add_block] at this | exact this) GW449.out))) _).trans (((cell_far (p := ⟨gb449,_,none⟩) (by first | exact Nat.ne_of_lt (Nat.lt_of_lt_of_le (by have := World.block_lt_of_cell? _ _ hw443_3;first | rwa [add_block] at this | exact this) GW449.out) | (rw [add_block];exact Nat.ne_of_lt (Nat.lt_of_lt_of_le (by have := World.block_lt_of_cell? _ _ hw443_3;first | rwa [add_block] at this | exact this) GW449.out)) | (show (Addr.add _ _).block ≠ _;rw [add_block];exact Nat.ne_of_lt (Nat.lt_of_lt_of_le (by have := World.block_lt_of_cell? _ _ hw443_3;first | rwa [add_block] at this | exact this) GW449.out)) | (dsimp only;exact Nat.ne_of_lt (Nat.lt_of_lt_of_le (by have := World.block_lt_of_cell? _ _ hw443_3;first | rwa [add_block] at this | exact this) GW449.out))) _).trans (((cell_far (p := ⟨gb449,_,none⟩) (by first | exact Nat.ne_of_lt (Nat.lt_of_lt_of_le (by have := World.block_lt_of_cell? _ _ hw443_3;first | rwa [add_block] at this | exact this) GW449.out) | (rw [add_block];exact Nat.ne_of_lt (Nat.lt_of_lt_of_le (by have := World.block_lt_of_cell? _ _ hw443_3;first | rwa [add_block] at this | exact this) GW449.out)) | (show (Addr.add _ _).block ≠ _;rw [add_block];exact Nat.ne_of_lt (Nat.lt_of_lt_of_le (by have := World.block_lt_of_cell? _ _ hw443_3;first | rwa [add_block] at this | exact this) GW449.out)) | (dsimp only;exact Nat.ne_of_lt (Nat.lt_of_lt_of_le (by have := World.block_lt_of_cell? _ _ hw443_3;first | rwa [add_block] at this | exact this) GW449.out))) _).trans (((cell_far (p := ⟨gb449,_,none⟩) (by first | exact Nat.ne_of_lt (Nat.lt_of_lt_of_le (by have := World.block_lt_of_cell? _ _ hw443_3;first | rwa [add_block] at this | exact this) GW449.out) | (rw [add_block];exact Nat.ne_of_lt (Nat.lt_of_lt_of_le (by have := World.block_lt_of_cell? _ _ hw443_3;first | rwa [add_block] at this | exact this) GW449.out)) | (show (Addr.add _ _).block ≠ _;rw [add_block];exact Nat.ne_of_lt (Nat.lt_of_lt_of_le (by have := World.block_lt_of_cell? _ _ hw443_3;first | rwa [add_block] at this | exact this) GW449.out)) | (dsimp only;exact Nat.ne_of_lt (Nat.lt_of_lt_of_le (by have := World.block_lt_of_cell? _ _ hw443_3;first | rwa [add_block] at this | exact this) GW449.out))) _).trans (hHeld.2.2.2.2.2.2.2))))))))⟩ (fun hHeld => ?_)
          clear hK K
          refine pure_ (i := 17) (N := some 8) (v := ?_) (a' := ?_) #[true,true,true,true,true,true,true,true,true,true,true,true,true,true,true,true,true,true] rfl rfl (q0r HT_.out (by kernel_rfl)) (fun _ _ _ h => h) (Or.inl ⟨by rfl,?_⟩) ?_ ?_
          rotate_left
          ·intro w'
           go_simp
           with_reducible rfl
          rotate_left
          ·simp only [Act.put,zA,zB,zC,i64_w,i32_w]
           rfl
          refine done_ (done_of HT_.out (by kernel_rfl)) ?_
          try go_wp2
          have n0_ : Aside0 (Kd.R k45 45 ((((w28.setCell ⟨gb449,0,none⟩ (.string t444)).setCell ⟨gb449,1,none⟩ (.string t445)).setCell ⟨gb449,2,none⟩ (.int .i64 t446)).setCell ⟨gb449,3,none⟩ (.int .i64 t447)) w.heap.size (fun k_ => k_ ≠ gb449) u5 x5_1) := ⟨by (with_reducible repeat (first | apply Kd.q0m | apply Kd.q0n | apply Kd.q0o));exact Kd.R_mono (Kd.R_far (p := ⟨gb449,3,none⟩) (Kd.R_far (p := ⟨gb449,2,none⟩) (Kd.R_far (p := ⟨gb449,1,none⟩) (Kd.R_far (p := ⟨gb449,0,none⟩) (Kd.R_mono HO_5.out (fun k_ hk => (⟨hk,hk⟩ : _ ∧ k_ ≠ gb449))) (fun _ hk => hk.2) (.string t444)) (fun _ hk => hk.2) (.string t445)) (fun _ hk => hk.2) (.int .i64 t446)) (fun _ hk => hk.2) (.int .i64 t447)) (fun _ hk => hk.1)⟩
          have n1_ : Aside0 (((((w28.setCell ⟨gb449,0,none⟩ (.string t444)).setCell ⟨gb449,1,none⟩ (.string t445)).setCell ⟨gb449,2,none⟩ (.int .i64 t446)).setCell ⟨gb449,3,none⟩ (.int .i64 t447)).heap[gb449]? = some (.cells #[.string t444,.string t445,.int .i64 t446,.int .i64 t447] 45 (0,0))) := ⟨by (with_reducible repeat (first | refine q0b ?_ _ | refine q0c ?_ | refine q0a ?_ _));refine q0t (cs := #[.string t444,.string t445,.int .i64 t446,.int .i64 0]) ?_ 3 _ rfl;(with_reducible repeat (first | refine q0b ?_ _ | refine q0c ?_ | refine q0a ?_ _));refine q0t (cs := #[.string t444,.string t445,.int .i64 0,.int .i64 0]) ?_ 2 _ rfl;(with_reducible repeat (first | refine q0b ?_ _ | refine q0c ?_ | refine q0a ?_ _));refine q0t (cs := #[.string t444,.string (⟨#[]⟩ : ByteArray),.int .i64 0,.int .i64 0]) ?_ 1 _ rfl;(with_reducible repeat (first | refine q0b ?_ _ | refine q0c ?_ | refine q0a ?_ _));refine q0t (cs := #[.string (⟨#[]⟩ : ByteArray),.string (⟨#[]⟩ : ByteArray),.int .i64 0,.int .i64 0]) ?_ 0 _ rfl;(with_reducible repeat (first | refine q0b ?_ _ | refine q0c ?_ | refine q0a ?_ _));exact BK449.out⟩
          have n2_ : Aside0 (Below w.heap.size w ((((w28.setCell ⟨gb449,0,none⟩ (.string t444)).setCell ⟨gb449,1,none⟩ (.string t445)).setCell ⟨gb449,2,none⟩ (.int .i64 t446)).setCell ⟨gb449,3,none⟩ (.int .i64 t447))) := ⟨by repeat (first | (with_reducible first | exact HB.out | apply q0h | apply q0d | apply q0f | refine q0g ?_ GE449.out) | exact HB.out)⟩
          (try clear HO_5)
          (try clear BK449)
          (try clear HB)
          generalize ((((w28.setCell ⟨gb449,0,none⟩ (.string t444)).setCell ⟨gb449,1,none⟩ (.string t445)).setCell ⟨gb449,2,none⟩ (.int .i64 t446)).setCell ⟨gb449,3,none⟩ (.int .i64 t447)) = w33 at n0_ n1_ n2_ ⊢
          have HO_5 := n0_
          have BK449 := n1_
          have HB := n2_
          clear n0_ n1_ n2_
          have n0_ := Aside0.mk (Kd.q0o HO_5.out)
          have n1_ := Aside0.mk (q0c BK449.out)
          have n2_ := Aside0.mk (q0f HB.out)
          clear HO_5
          clear BK449
          clear HB
          have HO_5 := n0_
          have BK449 := n1_
          have HB := n2_
          clear n0_ n1_ n2_
          have p450 : 0 ≤ (x6_1 : Int) := of_decide_eq_true (by first | (with_reducible assumption) | assumption)
          have q450 : x6_1 < (l0.length : Int) := of_decide_eq_true (by first | (with_reducible assumption) | assumption)
          obtain ⟨ad450,e450,hx450_0,hx450_1,hx450_2,hx450_3⟩ := at_T45 HR0.out x6_1 p450 q450
          have hw450_3 := hx450_3
          have hw450_2 := hx450_2
          have hw450_1 := hx450_1
          have hw450_0 := hx450_0
          obtain rfl : ad442 = ad450 := (by injection e450)
          replace hx450_0 := (HB.out.cell (World.block_lt_of_cell? w _ hx450_0)).trans hx450_0
          replace hx450_1 := (HB.out.cell (World.block_lt_of_cell? w _ hx450_1)).trans hx450_1
          replace hx450_2 := (HB.out.cell (World.block_lt_of_cell? w _ hx450_2)).trans hx450_2
          replace hx450_3 := (HB.out.cell (World.block_lt_of_cell? w _ hx450_3)).trans hx450_3
          replace p450 := eq_true p450
          replace q450 := eq_true q450
          refine start_ (n := 6) (S := fun w' => w'.cell? ⟨gb449,0,none⟩ = some (.string t444) ∧ w'.cell? ⟨gb449,1,none⟩ = some (.string t445) ∧ w'.cell? ⟨gb449,2,none⟩ = some (.int .i64 t446) ∧ w'.cell? ⟨gb449,3,none⟩ = some (.int .i64 t447) ∧ w'.cell? (ad442.add ((x6_1).toNat * 4)) = some (.string ((q0e l0 x6_1).f0)) ∧ w'.cell? ⟨(ad442.add ((x6_1).toNat * 4)).block,(ad442.add ((x6_1).toNat * 4)).off + 1,none⟩ = some (.string ((q0e l0 x6_1).f1)) ∧ w'.cell? ⟨(ad442.add ((x6_1).toNat * 4)).block,(ad442.add ((x6_1).toNat * 4)).off + 2,none⟩ = some (.int .i64 ((q0e l0 x6_1).f2)) ∧ w'.cell? ⟨(ad442.add ((x6_1).toNat * 4)).block,(ad442.add ((x6_1).toNat * 4)).off + 3,none⟩ = some (.int .i64 ((q0e l0 x6_1).f3))) (ds := []) #[false,false,false,false,false,false] (by kernel_rfl) rfl rfl ⟨(q0i BK449.out 0).trans rfl,(q0i BK449.out 1).trans rfl,(q0i BK449.out 2).trans rfl,(q0i BK449.out 3).trans rfl,((HB.out.cell (World.block_lt_of_cell? w _ hw450_0)).trans hw450_0),((HB.out.cell (World.block_lt_of_cell? w _ hw450_1)).trans hw450_1),((HB.out.cell (World.block_lt_of_cell? w _ hw450_2)).trans hw450_2),((HB.out.cell (World.block_lt_of_cell? w _ hw450_3)).trans hw450_3)⟩ (fun hHeld => ?_)
          generalize w33.drew = w34 at HO_5 BK449 HB hx450_0 hx450_1 hx450_2 hx450_3 hHeld ⊢
          refine pure_ (i := 1) (N := some 37) (v := ?_) (a' := ?_) #[false,true,false,false,false,false] rfl rfl (by kernel_rfl) (fun _ _ _ h => h) (Or.inl ⟨by rfl,?_⟩) ?_ ?_
          rotate_left
          ·intro w'
           go_simp
           with_reducible rfl
          rotate_left
          ·simp only [Act.put,zA,zB,zC,i64_w,i32_w]
           rfl
          refine pure_ (i := 2) (N := some 38) (v := ?_) (a' := ?_) #[false,true,true,false,false,false] rfl rfl (by kernel_rfl) (fun _ _ _ h => h) (Or.inl ⟨by rfl,?_⟩) ?_ ?_
          rotate_left
          ·intro w'
           go_simp
           with_reducible rfl
          rotate_left
          ·simp only [Act.put,zA,zB,zC,i64_w,i32_w]
           rfl
          refine pure_ (i := 3) (N := some 39) (v := ?_) (a' := ?_) #[false,true,true,true,false,false] rfl rfl (by kernel_rfl) (fun _ _ _ h => h) (Or.inl ⟨by rfl,?_⟩) ?_ ?_
          rotate_left
          ·intro w'
           go_simp
           with_reducible rfl
          rotate_left
          ·simp only [Act.put,zA,zB,zC,i64_w,i32_w]
           rfl
          refine take_ (i := 0) (N := some 36) (v := ?_) (a' := ?_) #[true,true,true,true,false,false] rfl rfl (by kernel_rfl) (fun _ _ _ h => h) (Or.inl ⟨by rfl,?_⟩) hHeld ?_ ?_
          rotate_left
          ·rintro w' ⟨s0,s1,s2,s3,s4,s5,s6,s7⟩
           go_simp
           with_reducible rfl
          rotate_left
          ·simp only [Act.put,zA,zB,zC,i64_w,i32_w]
           rfl
          refine take_ (i := 4) (N := some 40) (v := ?_) (a' := ?_) #[true,true,true,true,true,false] rfl rfl (by kernel_rfl) (fun _ _ _ h => h) (Or.inl ⟨by rfl,?_⟩) hHeld ?_ ?_
          rotate_left
          ·rintro w' ⟨s0,s1,s2,s3,s4,s5,s6,s7⟩
           go_simp
           with_reducible rfl
          rotate_left
          ·simp only [Act.put,zA,zB,zC,i64_w,i32_w]
           rfl
          refine pure_ (i := 5) (N := some 41) (v := ?_) (a' := ?_) #[true,true,true,true,true,true] rfl rfl (by kernel_rfl) (fun _ _ _ h => h) (Or.inl ⟨by rfl,?_⟩) ?_ ?_
          rotate_left
          ·intro w'
           go_simp
           with_reducible rfl
          rotate_left
          ·simp only [Act.put,zA,zB,zC,i64_w,i32_w]
           rfl
          refine done_ (by kernel_rfl) ?_
          try go_wp2
          have n0_ := Aside0.mk (Kd.q0o HO_5.out)
          have n1_ := Aside0.mk (q0c BK449.out)
          have n2_ := Aside0.mk (q0f HB.out)
          clear HO_5
          clear BK449
          clear HB
          have HO_5 := n0_
          have BK449 := n1_
          have HB := n2_
          clear n0_ n1_ n2_
          have p452 : 0 ≤ (x6_1 : Int) := of_decide_eq_true (by first | (with_reducible assumption) | assumption)
          have q452 : x6_1 < (l1.length : Int) := of_decide_eq_true (by first | (with_reducible assumption) | assumption)
          obtain ⟨ad452,e452,hx452_0⟩ := Kd.at_int HR1.out x6_1 p452 q452
          have hw452_0 := hx452_0
          cases e452
          replace hx452_0 := (HB.out.cell (World.block_lt_of_cell? w _ hx452_0)).trans hx452_0
          replace p452 := eq_true p452
          replace q452 := eq_true q452
          refine start_ (n := 13) (S := fun w' => w'.cell? ⟨gb449,0,none⟩ = some (.string t444) ∧ w'.cell? ⟨gb449,1,none⟩ = some (.string t445) ∧ w'.cell? ⟨gb449,2,none⟩ = some (.int .i64 t446) ∧ w'.cell? ⟨gb449,3,none⟩ = some (.int .i64 t447) ∧ w'.cell? (ad452.add (x6_1).toNat) = some (.int .i64 (rd l1 x6_1))) (ds := []) #[false,false,false,false,false,false,false,false,false,false,false,false,false] (by kernel_rfl) rfl rfl ⟨(q0i BK449.out 0).trans rfl,(q0i BK449.out 1).trans rfl,(q0i BK449.out 2).trans rfl,(q0i BK449.out 3).trans rfl,((HB.out.cell (World.block_lt_of_cell? w _ hw452_0)).trans hw452_0)⟩ (fun hHeld => ?_);refine with_tabW verdererlaw28_QuotaLess.tab10 verdererlaw28_QuotaLess.bits10 (fun HT_ HW_ => ?_)
          generalize w34.drew = w35 at HO_5 BK449 HB hx452_0 hHeld ⊢
          refine pure_ (i := 0) (N := some 43) (v := ?_) (a' := ?_) #[true,false,false,false,false,false,false,false,false,false,false,false,false] rfl rfl (q0r HT_.out (by kernel_rfl)) (fun _ _ _ h => h) (Or.inl ⟨by rfl,?_⟩) ?_ ?_
          rotate_left
          ·intro w'
           go_simp
           with_reducible rfl
          rotate_left
          ·simp only [Act.put,zA,zB,zC,i64_w,i32_w]
           rfl
          refine pure_ (i := 1) (N := some 44) (v := ?_) (a' := ?_) #[true,true,false,false,false,false,false,false,false,false,false,false,false] rfl rfl (q0r HT_.out (by kernel_rfl)) (fun _ _ _ h => h) (Or.inl ⟨by rfl,?_⟩) ?_ ?_
          rotate_left
          ·intro w'
           go_simp
           with_reducible rfl
          rotate_left
          ·simp only [Act.put,zA,zB,zC,i64_w,i32_w]
           rfl
          refine pure_ (i := 2) (N := some 45) (v := ?_) (a' := ?_) #[true,true,true,false,false,false,false,false,false,false,false,false,false] rfl rfl (q0r HT_.out (by kernel_rfl)) (fun _ _ _ h => h) (Or.inl ⟨by rfl,?_⟩) ?_ ?_
          rotate_left
          ·intro w'
           go_simp
           with_reducible rfl
          rotate_left
          ·simp only [Act.put,zA,zB,zC,i64_w,i32_w]
           rfl
          refine pure_ (i := 3) (N := some 46) (v := ?_) (a' := ?_) #[true,true,true,true,false,false,false,false,false,false,false,false,false] rfl rfl (q0r HT_.out (by kernel_rfl)) (fun _ _ _ h => h) (Or.inl ⟨by rfl,?_⟩) ?_ ?_
          rotate_left
          ·intro w'
           go_simp
           with_reducible rfl
          rotate_left
          ·simp only [Act.put,zA,zB,zC,i64_w,i32_w]
           rfl
          refine pure_ (i := 4) (N := some 47) (v := ?_) (a' := ?_) #[true,true,true,true,true,false,false,false,false,false,false,false,false] rfl rfl (q0r HT_.out (by kernel_rfl)) (fun _ _ _ h => h) (Or.inl ⟨by rfl,?_⟩) ?_ ?_
          rotate_left
          ·intro w'
           go_simp
           with_reducible rfl
          rotate_left
          ·simp only [Act.put,zA,zB,zC,i64_w,i32_w]
           rfl
          refine pure_ (i := 5) (N := some 48) (v := ?_) (a' := ?_) #[true,true,true,true,true,true,false,false,false,false,false,false,false] rfl rfl (q0r HT_.out (by kernel_rfl)) (fun _ _ _ h => h) (Or.inl ⟨by rfl,?_⟩) ?_ ?_
          rotate_left
          ·intro w'
           go_simp
           with_reducible rfl
          rotate_left
          ·simp only [Act.put,zA,zB,zC,i64_w,i32_w]
           rfl
          refine pure_ (i := 6) (N := some 49) (v := ?_) (a' := ?_) #[true,true,true,true,true,true,true,false,false,false,false,false,false] rfl rfl (q0r HT_.out (by kernel_rfl)) (fun _ _ _ h => h) (Or.inl ⟨by rfl,?_⟩) ?_ ?_
          rotate_left
          ·intro w'
           go_simp
           with_reducible rfl
          rotate_left
          ·simp only [Act.put,zA,zB,zC,i64_w,i32_w]
           rfl
          refine pure_ (i := 7) (N := some 50) (v := ?_) (a' := ?_) #[true,true,true,true,true,true,true,true,false,false,false,false,false] rfl rfl (q0r HT_.out (by kernel_rfl)) (fun _ _ _ h => h) (Or.inl ⟨by rfl,?_⟩) ?_ ?_
          rotate_left
          ·intro w'
           go_simp
           with_reducible rfl
          rotate_left
          ·simp only [Act.put,zA,zB,zC,i64_w,i32_w]
           rfl
          refine pure_ (i := 9) (N := some 52) (v := ?_) (a' := ?_) #[true,true,true,true,true,true,true,true,false,true,false,false,false] rfl rfl (q0r HT_.out (by kernel_rfl)) (fun _ _ _ h => h) (Or.inl ⟨by rfl,?_⟩) ?_ ?_
          rotate_left
          ·intro w'
           go_simp
           with_reducible rfl
          rotate_left
          ·simp only [Act.put,zA,zB,zC,i64_w,i32_w]
           rfl
          refine take_ (i := 8) (N := some 51) (v := ?_) (a' := ?_) #[true,true,true,true,true,true,true,true,true,true,false,false,false] rfl rfl (take_ofW HT_.out HW_.out (by kernel_rfl)) (fun _ _ _ h => h) (Or.inl ⟨by rfl,?_⟩) hHeld ?_ ?_
          rotate_left
          ·rintro w' ⟨s0,s1,s2,s3,s4⟩
           go_simp
           with_reducible rfl
          rotate_left
          ·simp only [Act.put,zA,zB,zC,i64_w,i32_w]
           rfl
          refine take_ (i := 10) (N := some 53) (v := ?_) (a' := ?_) #[true,true,true,true,true,true,true,true,true,true,true,false,false] rfl rfl (take_ofW HT_.out HW_.out (by kernel_rfl)) (fun _ _ _ h => h) (Or.inl ⟨by rfl,?_⟩) hHeld ?_ ?_
          rotate_left
          ·rintro w' ⟨s0,s1,s2,s3,s4⟩
           go_simp
           with_reducible rfl
          rotate_left
          ·simp only [Act.put,zA,zB,zC,i64_w,i32_w]
           rfl
          refine pure_ (i := 11) (N := some 54) (v := ?_) (a' := ?_) #[true,true,true,true,true,true,true,true,true,true,true,true,false] rfl rfl (q0r HT_.out (by kernel_rfl)) (fun _ _ _ h => h) (Or.inl ⟨by rfl,?_⟩) ?_ ?_
          rotate_left
          ·intro w'
           go_simp
           with_reducible rfl
          rotate_left
          ·simp only [Act.put,zA,zB,zC,i64_w,i32_w]
           rfl
          refine pure_ (i := 12) (N := some 55) (v := ?_) (a' := ?_) #[true,true,true,true,true,true,true,true,true,true,true,true,true] rfl rfl (q0r HT_.out (by kernel_rfl)) (fun _ _ _ h => h) (Or.inl ⟨by rfl,?_⟩) ?_ ?_
          rotate_left
          ·intro w'
           go_simp
           with_reducible rfl
          rotate_left
          ·simp only [Act.put,zA,zB,zC,i64_w,i32_w]
           rfl
          refine done_ (done_of HT_.out (by kernel_rfl)) ?_
          have p453 : 0 ≤ (x6_1 : Int) := of_decide_eq_true (by first | (with_reducible assumption) | assumption)
          have q453 : x6_1 < (l1.length : Int) := of_decide_eq_true (by first | (with_reducible assumption) | assumption)
          obtain ⟨ad453,e453,hx453_0⟩ := Kd.at_int HR1.out x6_1 p453 q453
          obtain rfl : ad452 = ad453 := (by injection e453)
          replace hx453_0 := (HB.out.cell (World.block_lt_of_cell? w _ hx453_0)).trans hx453_0
          replace p453 := eq_true p453
          replace q453 := eq_true q453
          have hcz36_0 : w35.cell? ⟨gb449,0,none⟩ = some (.string t444) := (q0i BK449.out 0).trans rfl
          have hcz36_1 : w35.cell? ⟨gb449,1,none⟩ = some (.string t445) := (q0i BK449.out 1).trans rfl
          have hcz36_2 : w35.cell? ⟨gb449,2,none⟩ = some (.int .i64 t446) := (q0i BK449.out 2).trans rfl
          have hcz36_3 : w35.cell? ⟨gb449,3,none⟩ = some (.int .i64 t447) := (q0i BK449.out 3).trans rfl
          have hfz36_0 := q0k BK449.out 0
          have hfz36_1 := q0k BK449.out 1
          have hfz36_2 := q0k BK449.out 2
          have hfz36_3 := q0k BK449.out 3
          try go_wp2_with (first | ((with_reducible refine gate_builtin (b := .append) (xs := #[.tmp 61,.tmp 63]) rfl ?_);at_builtin;refine Kd.R_append k45 (w0 := w) w.heap.size rfl (.tmp 61) (.tmp 63) 53 45 (.agg #[(.string ⟨#[]⟩),(.string ⟨#[]⟩),(.int .i64 0),(.int .i64 0)]) 48 rfl Try.underlying53 info45 rfl (by decide) (by omega) u5 x5_1 (⟨t444,t445,rd l1 x6_1,t447⟩ : S45) [.string t444,.string t445,.int .i64 (rd l1 x6_1),.int .i64 t447] (fun k_ => k_ ≠ gb449) (fun _ => False) rfl (by first | (go_simp;done) | (go_simp;rfl)) ?aP (fun _ hk => hk.elim) ?aF ?aO ?aB ?aS ?aL ?_;(case aP => exact k45_mkM _ _ _ (⟨t444,t445,rd l1 x6_1,t447⟩ : S45));(case aB => exact (by repeat (first | (with_reducible first | exact HB.out | apply q0h | apply q0d | apply q0f | refine q0g ?_ GE449.out) | exact HB.out)));(case aF => exact (fun k_ hk => Kd.freshB (g := gb449) (o := .cells #[.string t444,.string t445,.int .i64 (rd l1 x6_1),.int .i64 t447] 45 (0,0)) (by (with_reducible repeat (first | refine q0b ?_ _ | refine q0c ?_ | refine q0a ?_ _));refine q0t (cs := #[.string t444,.string t445,.int .i64 t446,.int .i64 t447]) ?_ 2 _ rfl;(with_reducible repeat (first | refine q0b ?_ _ | refine q0c ?_ | refine q0a ?_ _));exact BK449.out) k_ hk));(case aO => exact (by (with_reducible repeat (first | apply Kd.q0m | apply Kd.q0n | apply Kd.q0o));exact Kd.R_mono (Kd.R_far (p := ⟨gb449,2,none⟩) (Kd.R_mono HO_5.out (fun k_ hk => (⟨hk,hk⟩ : _ ∧ k_ ≠ gb449))) (fun _ hk => hk.2) (.int .i64 (rd l1 x6_1))) (fun _ hk => hk.1)));(case aS => exact (q0p (by repeat (first | (with_reducible first | exact HB.out | apply q0h | apply q0d | apply q0f | refine q0g ?_ GE449.out) | exact HB.out))));(case aL => have := LMc24.out;omega);intro v455 w37 ho hb hg hat;rw [← Ny454.out] at ho;have n0_ := Aside0.mk (blk_grown (g := gb449) (o := .cells #[.string t444,.string t445,.int .i64 (rd l1 x6_1),.int .i64 t447] 45 (0,0)) (by (with_reducible repeat (first | refine q0b ?_ _ | refine q0c ?_ | refine q0a ?_ _));refine q0t (cs := #[.string t444,.string t445,.int .i64 t446,.int .i64 t447]) ?_ 2 _ rfl;(with_reducible repeat (first | refine q0b ?_ _ | refine q0c ?_ | refine q0a ?_ _));exact BK449.out) hg (Kd.q0l HO_5.out (fun _ hk => hk)));have n1_ := Aside0.mk (hb);have n2_ := Aside0.mk (ho);clear BK449;clear HB;clear HO_5;have BK449 := n0_;have HB := n1_;have HO456 := n2_;clear n0_ n1_ n2_;clear ho hb hg hat))
          go_roundg k1
          case measure => have := HK1.out;omega
          case rel => exact ⟨(y454),(wrap64 (x6_1 + 1)),(by first | rfl | (simp;done) | (simp [*];done)),H',⟨by have := HK1.out;omega⟩,⟨by (with_reducible repeat (first | apply Kd.q0m | apply Kd.q0n | apply Kd.q0o));exact Kd.R_mono HO456.out (fun _ hk => trivial)⟩,⟨by repeat (first | (with_reducible first | exact HB.out | apply q0h | apply q0d | apply q0f | refine q0g ?_ GE449.out) | exact HB.out)⟩⟩
         ·rw [if_neg c24] at H
          exact absurd H (by simp)
        ·rw [if_neg c23] at H
         have c23b0 : decide ((rd l1 x6_1) < t446) = false := decide_eq_false c23
         clear c23
         by_cases c38 : x5_1.length < 2932031007402
         ·rw [if_pos c38] at H
          have LMc38 := Aside0.mk c38
          clear c38
          obtain ⟨y457,hy457⟩ : ∃ y_ : List (S45),y_ = (x5_1 ++ [(⟨t444,t445,t446,t447⟩ : S45)]) := ⟨_,rfl⟩
          replace H : (verdererlaw28_QuotaLess.l0 k1 l0 l1 y457 (wrap64 (x6_1 + 1))) = some r := by first | (rw [hy457];with_reducible exact H) | (have H2_ := (Option.bind_some _ _).symm.trans H;rw [hy457];with_reducible exact H2_) | (have H2_ := (Option.bind_some _ _).symm.trans H;with_reducible exact H2_) | with_reducible exact H | (rw [hy457];exact H) | exact H
          have Ny457 := Aside0.mk hy457
          clear hy457
          have H' := Aside0.mk H
          clear H
          try go_wp2
          have n0_ := Aside0.mk (Kd.q0o HO_5.out)
          have n1_ := Aside0.mk (q0f HB.out)
          clear HO_5
          clear HB
          have HO_5 := n0_
          have HB := n1_
          clear n0_ n1_
          have p442 : 0 ≤ (x6_1 : Int) := of_decide_eq_true (by first | (with_reducible assumption) | assumption)
          have q442 : x6_1 < (l0.length : Int) := of_decide_eq_true (by first | (with_reducible assumption) | assumption)
          obtain ⟨ad442,e442,hx442_0,hx442_1,hx442_2,hx442_3⟩ := at_T45 HR0.out x6_1 p442 q442
          have hw442_3 := hx442_3
          have hw442_2 := hx442_2
          have hw442_1 := hx442_1
          have hw442_0 := hx442_0
          cases e442
          replace hx442_0 := (HB.out.cell (World.block_lt_of_cell? w _ hx442_0)).trans hx442_0
          replace hx442_1 := (HB.out.cell (World.block_lt_of_cell? w _ hx442_1)).trans hx442_1
          replace hx442_2 := (HB.out.cell (World.block_lt_of_cell? w _ hx442_2)).trans hx442_2
          replace hx442_3 := (HB.out.cell (World.block_lt_of_cell? w _ hx442_3)).trans hx442_3
          replace p442 := eq_true p442
          replace q442 := eq_true q442
          have p443 : 0 ≤ (x6_1 : Int) := of_decide_eq_true (by first | (with_reducible assumption) | assumption)
          have q443 : x6_1 < (l0.length : Int) := of_decide_eq_true (by first | (with_reducible assumption) | assumption)
          obtain ⟨ad443,e443,hx443_0,hx443_1,hx443_2,hx443_3⟩ := at_T45 HR0.out x6_1 p443 q443
          have hw443_3 := hx443_3
          have hw443_2 := hx443_2
          have hw443_1 := hx443_1
          have hw443_0 := hx443_0
          obtain rfl : ad442 = ad443 := (by injection e443)
          replace hx443_0 := (HB.out.cell (World.block_lt_of_cell? w _ hx443_0)).trans hx443_0
          replace hx443_1 := (HB.out.cell (World.block_lt_of_cell? w _ hx443_1)).trans hx443_1
          replace hx443_2 := (HB.out.cell (World.block_lt_of_cell? w _ hx443_2)).trans hx443_2
          replace hx443_3 := (HB.out.cell (World.block_lt_of_cell? w _ hx443_3)).trans hx443_3
          replace p443 := eq_true p443
          replace q443 := eq_true q443
          refine start_ (n := 18) (S := fun w' => w'.cell? (ad442.add ((x6_1).toNat * 4)) = some (.string ((q0e l0 x6_1).f0)) ∧ w'.cell? ⟨(ad442.add ((x6_1).toNat * 4)).block,(ad442.add ((x6_1).toNat * 4)).off + 1,none⟩ = some (.string ((q0e l0 x6_1).f1)) ∧ w'.cell? ⟨(ad442.add ((x6_1).toNat * 4)).block,(ad442.add ((x6_1).toNat * 4)).off + 2,none⟩ = some (.int .i64 ((q0e l0 x6_1).f2)) ∧ w'.cell? ⟨(ad442.add ((x6_1).toNat * 4)).block,(ad442.add ((x6_1).toNat * 4)).off + 3,none⟩ = some (.int .i64 ((q0e l0 x6_1).f3)) ∧ w'.cell? (ad442.add ((x6_1).toNat * 4)) = some (.string ((q0e l0 x6_1).f0)) ∧ w'.cell? ⟨(ad442.add ((x6_1).toNat * 4)).block,(ad442.add ((x6_1).toNat * 4)).off + 1,none⟩ = some (.string ((q0e l0 x6_1).f1)) ∧ w'.cell? ⟨(ad442.add ((x6_1).toNat * 4)).block,(ad442.add ((x6_1).toNat * 4)).off + 2,none⟩ = some (.int .i64 ((q0e l0 x6_1).f2)) ∧ w'.cell? ⟨(ad442.add ((x6_1).toNat * 4)).block,(ad442.add ((x6_1).toNat * 4)).off + 3,none⟩ = some (.int .i64 ((q0e l0 x6_1).f3))) (ds := []) #[false,false,false,false,false,false,false,false,false,false,false,false,false,false,false,false,false,false] (by kernel_rfl) rfl rfl ⟨((HB.out.cell (World.block_lt_of_cell? w _ hw442_0)).trans hw442_0),((HB.out.cell (World.block_lt_of_cell? w _ hw442_1)).trans hw442_1),((HB.out.cell (World.block_lt_of_cell? w _ hw442_2)).trans hw442_2),((HB.out.cell (World.block_lt_of_cell? w _ hw442_3)).trans hw442_3),((HB.out.cell (World.block_lt_of_cell? w _ hw443_0)).trans hw443_0),((HB.out.cell (World.block_lt_of_cell? w _ hw443_1)).trans hw443_1),((HB.out.cell (World.block_lt_of_cell? w _ hw443_2)).trans hw443_2),((HB.out.cell (World.block_lt_of_cell? w _ hw443_3)).trans hw443_3)⟩ (fun hHeld => ?_);refine with_tabW verdererlaw28_QuotaLess.tab7 verdererlaw28_QuotaLess.bits7 (fun HT_ HW_ => ?_)
          generalize wr.drew = w39 at HO_5 HB hx442_0 hx442_1 hx442_2 hx442_3 hx443_0 hx443_1 hx443_2 hx443_3 hHeld ⊢
          refine pure_ (i := 0) (N := some 22) (v := ?_) (a' := ?_) #[true,false,false,false,false,false,false,false,false,false,false,false,false,false,false,false,false,false] rfl rfl (q0r HT_.out (by kernel_rfl)) (fun _ _ _ h => h) (Or.inl ⟨by rfl,?_⟩) ?_ ?_
          rotate_left
          ·intro w'
           go_simp
           with_reducible rfl
          rotate_left
          ·simp only [Act.put,zA,zB,zC,i64_w,i32_w]
           rfl
          refine pure_ (i := 1) (N := some 23) (v := ?_) (a' := ?_) #[true,true,false,false,false,false,false,false,false,false,false,false,false,false,false,false,false,false] rfl rfl (q0r HT_.out (by kernel_rfl)) (fun _ _ _ h => h) (Or.inl ⟨by rfl,?_⟩) ?_ ?_
          rotate_left
          ·intro w'
           go_simp
           with_reducible rfl
          rotate_left
          ·simp only [Act.put,zA,zB,zC,i64_w,i32_w]
           rfl
          refine pure_ (i := 2) (N := some 24) (v := ?_) (a' := ?_) #[true,true,true,false,false,false,false,false,false,false,false,false,false,false,false,false,false,false] rfl rfl (q0r HT_.out (by kernel_rfl)) (fun _ _ _ h => h) (Or.inl ⟨by rfl,?_⟩) ?_ ?_
          rotate_left
          ·intro w'
           go_simp
           with_reducible rfl
          rotate_left
          ·simp only [Act.put,zA,zB,zC,i64_w,i32_w]
           rfl
          refine pure_ (i := 3) (N := some 25) (v := ?_) (a' := ?_) #[true,true,true,true,false,false,false,false,false,false,false,false,false,false,false,false,false,false] rfl rfl (q0r HT_.out (by kernel_rfl)) (fun _ _ _ h => h) (Or.inl ⟨by rfl,?_⟩) ?_ ?_
          rotate_left
          ·intro w'
           go_simp
           with_reducible rfl
          rotate_left
          ·simp only [Act.put,zA,zB,zC,i64_w,i32_w]
           rfl
          refine pure_ (i := 5) (N := some 27) (v := ?_) (a' := ?_) #[true,true,true,true,false,true,false,false,false,false,false,false,false,false,false,false,false,false] rfl rfl (q0r HT_.out (by kernel_rfl)) (fun _ _ _ h => h) (Or.inl ⟨by rfl,?_⟩) ?_ ?_
          rotate_left
          ·intro w'
           go_simp
           with_reducible rfl
          rotate_left
          ·simp only [Act.put,zA,zB,zC,i64_w,i32_w]
           rfl
          refine pure_ (i := 6) (N := some 28) (v := ?_) (a' := ?_) #[true,true,true,true,false,true,true,false,false,false,false,false,false,false,false,false,false,false] rfl rfl (q0r HT_.out (by kernel_rfl)) (fun _ _ _ h => h) (Or.inl ⟨by rfl,?_⟩) ?_ ?_
          rotate_left
          ·intro w'
           go_simp
           with_reducible rfl
          rotate_left
          ·simp only [Act.put,zA,zB,zC,i64_w,i32_w]
           rfl
          refine pure_ (i := 7) (N := some 29) (v := ?_) (a' := ?_) #[true,true,true,true,false,true,true,true,false,false,false,false,false,false,false,false,false,false] rfl rfl (q0r HT_.out (by kernel_rfl)) (fun _ _ _ h => h) (Or.inl ⟨by rfl,?_⟩) ?_ ?_
          rotate_left
          ·intro w'
           go_simp
           with_reducible rfl
          rotate_left
          ·simp only [Act.put,zA,zB,zC,i64_w,i32_w]
           rfl
          refine pure_ (i := 8) (N := some 30) (v := ?_) (a' := ?_) #[true,true,true,true,false,true,true,true,true,false,false,false,false,false,false,false,false,false] rfl rfl (q0r HT_.out (by kernel_rfl)) (fun _ _ _ h => h) (Or.inl ⟨by rfl,?_⟩) ?_ ?_
          rotate_left
          ·intro w'
           go_simp
           with_reducible rfl
          rotate_left
          ·simp only [Act.put,zA,zB,zC,i64_w,i32_w]
           rfl
          refine pure_ (i := 10) (N := some 32) (v := ?_) (a' := ?_) #[true,true,true,true,false,true,true,true,true,false,true,false,false,false,false,false,false,false] rfl rfl (q0r HT_.out (by kernel_rfl)) (fun _ _ _ h => h) (Or.inl ⟨by rfl,?_⟩) ?_ ?_
          rotate_left
          ·intro w'
           go_simp
           with_reducible rfl
          rotate_left
          ·simp only [Act.put,zA,zB,zC,i64_w,i32_w]
           rfl
          refine take_ (i := 4) (N := some 26) (v := ?_) (a' := ?_) #[true,true,true,true,true,true,true,true,true,false,true,false,false,false,false,false,false,false] rfl rfl (take_ofW HT_.out HW_.out (by kernel_rfl)) (fun _ _ _ h => h) (Or.inl ⟨by rfl,?_⟩) hHeld ?_ ?_
          rotate_left
          ·rintro w' ⟨s0,s1,s2,s3,s4,s5,s6,s7⟩
           go_simp
           with_reducible rfl
          rotate_left
          ·simp only [Act.put,zA,zB,zC,i64_w,i32_w]
           rfl
          refine take_ (i := 9) (N := some 31) (v := ?_) (a' := ?_) #[true,true,true,true,true,true,true,true,true,true,true,false,false,false,false,false,false,false] rfl rfl (take_ofW HT_.out HW_.out (by kernel_rfl)) (fun _ _ _ h => h) (Or.inl ⟨by rfl,?_⟩) hHeld ?_ ?_
          rotate_left
          ·rintro w' ⟨s0,s1,s2,s3,s4,s5,s6,s7⟩
           go_simp
           with_reducible rfl
          rotate_left
          ·simp only [Act.put,zA,zB,zC,i64_w,i32_w]
           rfl
          refine join_ (σ := Nat) 2 #[true,true,true,true,true,true,true,true,true,true,true,true,true,true,true,true,false,false] (fun s_ => [(33,.tuple #[.agg #[.string t444,.string t445,.int .i64 t446,.int .i64 t447],.bool t448]),(7,.pointer (some ⟨s_,0,none⟩)),(21,.tuple #[.agg #[.string t444,.string t445,.int .i64 t446,.int .i64 t447],.bool t448]),(34,.agg #[.string t444,.string t445,.int .i64 t446,.int .i64 t447]),(35,.bool t448)]) (fun s_ w' => (w'.cell? (ad442.add ((x6_1).toNat * 4)) = some (.string ((q0e l0 x6_1).f0)) ∧ w'.cell? ⟨(ad442.add ((x6_1).toNat * 4)).block,(ad442.add ((x6_1).toNat * 4)).off + 1,none⟩ = some (.string ((q0e l0 x6_1).f1)) ∧ w'.cell? ⟨(ad442.add ((x6_1).toNat * 4)).block,(ad442.add ((x6_1).toNat * 4)).off + 2,none⟩ = some (.int .i64 ((q0e l0 x6_1).f2)) ∧ w'.cell? ⟨(ad442.add ((x6_1).toNat * 4)).block,(ad442.add ((x6_1).toNat * 4)).off + 3,none⟩ = some (.int .i64 ((q0e l0 x6_1).f3)) ∧ w'.cell? (ad442.add ((x6_1).toNat * 4)) = some (.string ((q0e l0 x6_1).f0)) ∧ w'.cell? ⟨(ad442.add ((x6_1).toNat * 4)).block,(ad442.add ((x6_1).toNat * 4)).off + 1,none⟩ = some (.string ((q0e l0 x6_1).f1)) ∧ w'.cell? ⟨(ad442.add ((x6_1).toNat * 4)).block,(ad442.add ((x6_1).toNat * 4)).off + 2,none⟩ = some (.int .i64 ((q0e l0 x6_1).f2)) ∧ w'.cell? ⟨(ad442.add ((x6_1).toNat * 4)).block,(ad442.add ((x6_1).toNat * 4)).off + 3,none⟩ = some (.int .i64 ((q0e l0 x6_1).f3))) ∧ (Kd.R k45 45 w' w.heap.size (fun k_ => k_ ≠ s_) u5 x5_1) ∧ (w'.heap[s_]? = some (.cells #[.string (⟨#[]⟩ : ByteArray),.string (⟨#[]⟩ : ByteArray),.int .i64 0,.int .i64 0] 45 (0,0))) ∧ (w.heap.size ≤ s_) ∧ (w.heap.size ≤ s_) ∧ (Below w.heap.size w w')) ?_ ?_
          rotate_left
          ·intro hCont
           refine two_ (i := 11) (j := 15) (Ni := some 33) (Nj := some 7) #[true,true,true,true,true,true,true,true,true,true,true,true,false,false,false,false,false,false] #[true,true,true,true,true,true,true,true,true,true,true,false,false,false,false,true,false,false] rfl rfl rfl rfl (two_of HT_.out (by kernel_rfl)) (by decide) (by decide) (fun K hK => ?_) (fun K hK => ?_)
           ·skip
            refine goes_ Try.func53 (by kernel_rfl) rfl #[.string ((q0e l0 x6_1).f0),.string ((q0e l0 x6_1).f1),.slice (some ad442) l0.length c0] (by rfl) rfl rfl (by (try simp only [List.map_toArray,List.map_cons,List.map_nil]);first | done | rfl | (simp only [List.length_drop,List.length_take];rfl)) ?_
            with_reducible refine (verdererref27_Find.calls k1 ((q0e l0 x6_1).f0) ((q0e l0 x6_1).f1) _ _ l0 t444 t445 t446 t447 t448 _ ?side1 ?side2 A8.out).mono ?_
            (case side1 => repeat (first | exact (Kd.C_below HR0.out HB.out) | (with_reducible refine Kd.C_alloc ?_ _) | (with_reducible refine Kd.C_drewN ?_ _) | (with_reducible refine Kd.C_drew ?_)))
            (case side2 => exact HC0.out)
            rintro e w40 ⟨rfl,hb⟩
            refine ⟨_,rfl,?_⟩
            have n0_ := Aside0.mk (Kd.q0v (by (with_reducible repeat (first | apply Kd.q0m | apply Kd.q0n | apply Kd.q0o));exact HO_5.out) hb)
            have n1_ := Aside0.mk (q0s (by repeat (first | (with_reducible first | exact HB.out | apply q0h | apply q0d | apply q0f) | exact HB.out)) hb)
            clear HO_5
            clear HB
            have HO_5 := n0_
            have HB := n1_
            clear n0_ n1_
            (try clear hb)
            (try clear hb2)
            (try clear hk)
            (try clear hi)
            refine hK.out _ _ ⟨((HB.out.cell (World.block_lt_of_cell? w _ hw442_0)).trans hw442_0),((HB.out.cell (World.block_lt_of_cell? w _ hw442_1)).trans hw442_1),((HB.out.cell (World.block_lt_of_cell? w _ hw442_2)).trans hw442_2),((HB.out.cell (World.block_lt_of_cell? w _ hw442_3)).trans hw442_3),((HB.out.cell (World.block_lt_of_cell? w _ hw443_0)).trans hw443_0),((HB.out.cell (World.block_lt_of_cell? w _ hw443_1)).trans hw443_1),((HB.out.cell (World.block_lt_of_cell? w _ hw443_2)).trans hw443_2),((HB.out.cell (World.block_lt_of_cell? w _ hw443_3)).trans hw443_3)⟩ (fun hHeld => ?_)
            clear hK K
            refine norm_ (a' := ?_) ?_ ?_
            rotate_left
            ·show Act.put _ (some 33) _ = _
             simp only [Act.put,zA,zB,zC,i64_w,i32_w]
             rfl
            refine pure_ (i := 12) (N := some 21) (v := ?_) (a' := ?_) #[true,true,true,true,true,true,true,true,true,true,true,true,true,false,false,false,false,false] rfl rfl (q0r HT_.out (by kernel_rfl)) (fun _ _ _ h => h) (Or.inl ⟨by rfl,?_⟩) ?_ ?_
            rotate_left
            ·intro w'
             go_simp
             with_reducible rfl
            rotate_left
            ·simp only [Act.put,zA,zB,zC,i64_w,i32_w]
             rfl
            refine pure_ (i := 13) (N := some 34) (v := ?_) (a' := ?_) #[true,true,true,true,true,true,true,true,true,true,true,true,true,true,false,false,false,false] rfl rfl (q0r HT_.out (by kernel_rfl)) (fun _ _ _ h => h) (Or.inl ⟨by rfl,?_⟩) ?_ ?_
            rotate_left
            ·intro w'
             go_simp
             with_reducible rfl
            rotate_left
            ·simp only [Act.put,zA,zB,zC,i64_w,i32_w]
             rfl
            refine pure_ (i := 14) (N := some 35) (v := ?_) (a' := ?_) #[true,true,true,true,true,true,true,true,true,true,true,true,true,true,true,false,false,false] rfl rfl (q0r HT_.out (by kernel_rfl)) (fun _ _ _ h => h) (Or.inl ⟨by rfl,?_⟩) ?_ ?_
            rotate_left
            ·intro w'
             go_simp
             with_reducible rfl
            rotate_left
            ·simp only [Act.put,zA,zB,zC,i64_w,i32_w]
             rfl
            refine one_ (i := 15) (N := some 7) #[true,true,true,true,true,true,true,true,true,true,true,true,true,true,true,true,false,false] rfl rfl (one_of HT_.out (by kernel_rfl)) (by decide) (fun K hK => ?_)
            refine box_step ?hg (N := 7) ?hd (cs := #[.string (⟨#[]⟩ : ByteArray),.string (⟨#[]⟩ : ByteArray),.int .i64 0,.int .i64 0]) (t := 45) ?hr ?_;(case hd => rfl);(case hg => rfl);(case hr => first | (go_simp;done) | (go_simp;rfl))
            intro gb449 hg w41 hbox hb
            have n0_ := Aside0.mk (Kd.q0v (Kd.R_elderB (by (with_reducible repeat (first | apply Kd.q0m | apply Kd.q0n | apply Kd.q0o));exact HO_5.out) gb449 (Nat.le_of_eq hg.symm)) hb)
            have n1_ := Aside0.mk (q0s (by repeat (first | (with_reducible first | exact HB.out | apply q0h | apply q0d | apply q0f) | exact HB.out)) hb)
            have n2_ := Aside0.mk (hbox)
            have n3_ := Aside0.mk ((by rw [hg];exact (q0p (by repeat (first | (with_reducible first | exact HB.out | apply q0h | apply q0d | apply q0f) | exact HB.out))) : w.heap.size ≤ gb449))
            have n4_ := Aside0.mk ((by rw [hg];exact (q0p (by repeat (first | (with_reducible first | exact HB.out | apply q0h | apply q0d | apply q0f) | exact HB.out))) : w.heap.size ≤ gb449))
            clear HO_5
            clear HB
            have HO_5 := n0_
            have HB := n1_
            have BK449 := n2_
            have GW449 := n3_
            have GE449 := n4_
            clear n0_ n1_ n2_ n3_ n4_
            clear hb hbox hg
            refine hK.out _ _ ⟨((HB.out.cell (World.block_lt_of_cell? w _ hw442_0)).trans hw442_0),((HB.out.cell (World.block_lt_of_cell? w _ hw442_1)).trans hw442_1),((HB.out.cell (World.block_lt_of_cell? w _ hw442_2)).trans hw442_2),((HB.out.cell (World.block_lt_of_cell? w _ hw442_3)).trans hw442_3),((HB.out.cell (World.block_lt_of_cell? w _ hw443_0)).trans hw443_0),((HB.out.cell (World.block_lt_of_cell? w _ hw443_1)).trans hw443_1),((HB.out.cell (World.block_lt_of_cell? w _ hw443_2)).trans hw443_2),((HB.out.cell (World.block_lt_of_cell? w _ hw443_3)).trans hw443_3)⟩ (fun hHeld => ?_)
            clear hK K
            refine norm_ (a' := ?_) ?_ ?_
            rotate_left
            ·show Act.put _ (some 7) _ = _
             simp only [Act.put,zA,zB,zC,i64_w,i32_w]
             rfl
            exact norm_ (by simp only [putAll,Act.put,zA,zB,zC]) (hCont (gb449) _ ⟨hHeld,(by (with_reducible repeat (first | apply Kd.q0m | apply Kd.q0n | apply Kd.q0o));exact Kd.R_mono HO_5.out (fun _ hk => hk.2)),(by (with_reducible repeat (first | refine q0b ?_ _ | refine q0c ?_ | refine q0a ?_ _));exact BK449.out),GW449.out,GE449.out,(by repeat (first | (with_reducible first | exact HB.out | apply q0h | apply q0d | apply q0f | refine q0g ?_ GE449.out) | exact HB.out))⟩)
           ·skip
            refine box_step ?hg (N := 7) ?hd (cs := #[.string (⟨#[]⟩ : ByteArray),.string (⟨#[]⟩ : ByteArray),.int .i64 0,.int .i64 0]) (t := 45) ?hr ?_;(case hd => rfl);(case hg => rfl);(case hr => first | (go_simp;done) | (go_simp;rfl))
            intro gb449 hg w40 hbox hb
            have n0_ := Aside0.mk (Kd.q0v (Kd.R_elderB (by (with_reducible repeat (first | apply Kd.q0m | apply Kd.q0n | apply Kd.q0o));exact HO_5.out) gb449 (Nat.le_of_eq hg.symm)) hb)
            have n1_ := Aside0.mk (q0s (by repeat (first | (with_reducible first | exact HB.out | apply q0h | apply q0d | apply q0f) | exact HB.out)) hb)
            have n2_ := Aside0.mk (hbox)
            have n3_ := Aside0.mk ((by rw [hg];exact (q0p (by repeat (first | (with_reducible first | exact HB.out | apply q0h | apply q0d | apply q0f) | exact HB.out))) : w.heap.size ≤ gb449))
            have n4_ := Aside0.mk ((by rw [hg];exact (q0p (by repeat (first | (with_reducible first | exact HB.out | apply q0h | apply q0d | apply q0f) | exact HB.out))) : w.heap.size ≤ gb449))
            clear HO_5
            clear HB
            have HO_5 := n0_
            have HB := n1_
            have BK449 := n2_
            have GW449 := n3_
            have GE449 := n4_
            clear n0_ n1_ n2_ n3_ n4_
            clear hb hbox hg
            refine hK.out _ _ ⟨((HB.out.cell (World.block_lt_of_cell? w _ hw442_0)).trans hw442_0),((HB.out.cell (World.block_lt_of_cell? w _ hw442_1)).trans hw442_1),((HB.out.cell (World.block_lt_of_cell? w _ hw442_2)).trans hw442_2),((HB.out.cell (World.block_lt_of_cell? w _ hw442_3)).trans hw442_3),((HB.out.cell (World.block_lt_of_cell? w _ hw443_0)).trans hw443_0),((HB.out.cell (World.block_lt_of_cell? w _ hw443_1)).trans hw443_1),((HB.out.cell (World.block_lt_of_cell? w _ hw443_2)).trans hw443_2),((HB.out.cell (World.block_lt_of_cell? w _ hw443_3)).trans hw443_3)⟩ (fun hHeld => ?_)
            clear hK K
            refine norm_ (a' := ?_) ?_ ?_
            rotate_left
            ·show Act.put _ (some 7) _ = _
             simp only [Act.put,zA,zB,zC,i64_w,i32_w]
             rfl
            refine one_ (i := 11) (N := some 33) #[true,true,true,true,true,true,true,true,true,true,true,true,false,false,false,true,false,false] rfl rfl (one_of HT_.out (by kernel_rfl)) (by decide) (fun K hK => ?_)
            refine goes_ Try.func53 (by kernel_rfl) rfl #[.string ((q0e l0 x6_1).f0),.string ((q0e l0 x6_1).f1),.slice (some ad442) l0.length c0] (by rfl) rfl rfl (by (try simp only [List.map_toArray,List.map_cons,List.map_nil]);first | done | rfl | (simp only [List.length_drop,List.length_take];rfl)) ?_
            with_reducible refine (verdererref27_Find.calls k1 ((q0e l0 x6_1).f0) ((q0e l0 x6_1).f1) _ _ l0 t444 t445 t446 t447 t448 _ ?side1 ?side2 A8.out).mono ?_
            (case side1 => repeat (first | exact (Kd.C_below HR0.out HB.out) | (with_reducible refine Kd.C_alloc ?_ _) | (with_reducible refine Kd.C_drewN ?_ _) | (with_reducible refine Kd.C_drew ?_)))
            (case side2 => exact HC0.out)
            rintro e w41 ⟨rfl,hb⟩
            refine ⟨_,rfl,?_⟩
            have n0_ := Aside0.mk (Kd.q0v (by (with_reducible repeat (first | apply Kd.q0m | apply Kd.q0n | apply Kd.q0o));exact HO_5.out) hb)
            have n1_ := Aside0.mk (q0q (g := gb449) (o := .cells #[.string (⟨#[]⟩ : ByteArray),.string (⟨#[]⟩ : ByteArray),.int .i64 0,.int .i64 0] 45 (0,0)) (by (with_reducible repeat (first | refine q0b ?_ _ | refine q0c ?_ | refine q0a ?_ _));exact BK449.out) hb)
            have n2_ := Aside0.mk (q0s (by repeat (first | (with_reducible first | exact HB.out | apply q0h | apply q0d | apply q0f | refine q0g ?_ GE449.out) | exact HB.out)) hb)
            clear HO_5
            clear BK449
            clear HB
            have HO_5 := n0_
            have BK449 := n1_
            have HB := n2_
            clear n0_ n1_ n2_
            (try clear hb)
            (try clear hb2)
            (try clear hk)
            (try clear hi)
            refine hK.out _ _ ⟨((HB.out.cell (World.block_lt_of_cell? w _ hw442_0)).trans hw442_0),((HB.out.cell (World.block_lt_of_cell? w _ hw442_1)).trans hw442_1),((HB.out.cell (World.block_lt_of_cell? w _ hw442_2)).trans hw442_2),((HB.out.cell (World.block_lt_of_cell? w _ hw442_3)).trans hw442_3),((HB.out.cell (World.block_lt_of_cell? w _ hw443_0)).trans hw443_0),((HB.out.cell (World.block_lt_of_cell? w _ hw443_1)).trans hw443_1),((HB.out.cell (World.block_lt_of_cell? w _ hw443_2)).trans hw443_2),((HB.out.cell (World.block_lt_of_cell? w _ hw443_3)).trans hw443_3)⟩ (fun hHeld => ?_)
            clear hK K
            refine norm_ (a' := ?_) ?_ ?_
            rotate_left
            ·show Act.put _ (some 33) _ = _
             simp only [Act.put,zA,zB,zC,i64_w,i32_w]
             rfl
            refine pure_ (i := 12) (N := some 21) (v := ?_) (a' := ?_) #[true,true,true,true,true,true,true,true,true,true,true,true,true,false,false,true,false,false] rfl rfl (q0r HT_.out (by kernel_rfl)) (fun _ _ _ h => h) (Or.inl ⟨by rfl,?_⟩) ?_ ?_
            rotate_left
            ·intro w'
             go_simp
             with_reducible rfl
            rotate_left
            ·simp only [Act.put,zA,zB,zC,i64_w,i32_w]
             rfl
            refine pure_ (i := 13) (N := some 34) (v := ?_) (a' := ?_) #[true,true,true,true,true,true,true,true,true,true,true,true,true,true,false,true,false,false] rfl rfl (q0r HT_.out (by kernel_rfl)) (fun _ _ _ h => h) (Or.inl ⟨by rfl,?_⟩) ?_ ?_
            rotate_left
            ·intro w'
             go_simp
             with_reducible rfl
            rotate_left
            ·simp only [Act.put,zA,zB,zC,i64_w,i32_w]
             rfl
            refine pure_ (i := 14) (N := some 35) (v := ?_) (a' := ?_) #[true,true,true,true,true,true,true,true,true,true,true,true,true,true,true,true,false,false] rfl rfl (q0r HT_.out (by kernel_rfl)) (fun _ _ _ h => h) (Or.inl ⟨by rfl,?_⟩) ?_ ?_
            rotate_left
            ·intro w'
             go_simp
             with_reducible rfl
            rotate_left
            ·simp only [Act.put,zA,zB,zC,i64_w,i32_w]
             rfl
            exact norm_ (by simp only [putAll,Act.put,zA,zB,zC]) (hCont (gb449) _ ⟨hHeld,(by (with_reducible repeat (first | apply Kd.q0m | apply Kd.q0n | apply Kd.q0o));exact Kd.R_mono HO_5.out (fun _ hk => hk.2)),(by (with_reducible repeat (first | refine q0b ?_ _ | refine q0c ?_ | refine q0a ?_ _));exact BK449.out),GW449.out,GE449.out,(by repeat (first | (with_reducible first | exact HB.out | apply q0h | apply q0d | apply q0f | refine q0g ?_ GE449.out) | exact HB.out))⟩)
          rintro gb449 w42 ⟨hS_,h0_,h1_,h2_,h3_,h4_⟩
          have n0_ : Aside0 (Kd.R k45 45 w42 w.heap.size (fun k_ => k_ ≠ gb449) u5 x5_1) := ⟨h0_⟩
          have n1_ : Aside0 (w42.heap[gb449]? = some (.cells #[.string (⟨#[]⟩ : ByteArray),.string (⟨#[]⟩ : ByteArray),.int .i64 0,.int .i64 0] 45 (0,0))) := ⟨h1_⟩
          have n2_ : Aside0 (w.heap.size ≤ gb449) := ⟨h2_⟩
          have n3_ : Aside0 (w.heap.size ≤ gb449) := ⟨h3_⟩
          have n4_ : Aside0 (Below w.heap.size w w42) := ⟨h4_⟩
          clear HO_5
          clear HB
          clear h0_ h1_ h2_ h3_ h4_
          have HO_5 := n0_
          have BK449 := n1_
          have GW449 := n2_
          have GE449 := n3_
          have HB := n4_
          clear n0_ n1_ n2_ n3_ n4_
          have hHeld : w42.cell? (ad442.add ((x6_1).toNat * 4)) = some (.string ((q0e l0 x6_1).f0)) ∧ w42.cell? ⟨(ad442.add ((x6_1).toNat * 4)).block,(ad442.add ((x6_1).toNat * 4)).off + 1,none⟩ = some (.string ((q0e l0 x6_1).f1)) ∧ w42.cell? ⟨(ad442.add ((x6_1).toNat * 4)).block,(ad442.add ((x6_1).toNat * 4)).off + 2,none⟩ = some (.int .i64 ((q0e l0 x6_1).f2)) ∧ w42.cell? ⟨(ad442.add ((x6_1).toNat * 4)).block,(ad442.add ((x6_1).toNat * 4)).off + 3,none⟩ = some (.int .i64 ((q0e l0 x6_1).f3)) ∧ w42.cell? (ad442.add ((x6_1).toNat * 4)) = some (.string ((q0e l0 x6_1).f0)) ∧ w42.cell? ⟨(ad442.add ((x6_1).toNat * 4)).block,(ad442.add ((x6_1).toNat * 4)).off + 1,none⟩ = some (.string ((q0e l0 x6_1).f1)) ∧ w42.cell? ⟨(ad442.add ((x6_1).toNat * 4)).block,(ad442.add ((x6_1).toNat * 4)).off + 2,none⟩ = some (.int .i64 ((q0e l0 x6_1).f2)) ∧ w42.cell? ⟨(ad442.add ((x6_1).toNat * 4)).block,(ad442.add ((x6_1).toNat * 4)).off + 3,none⟩ = some (.int .i64 ((q0e l0 x6_1).f3)) := hS_
          refine norm_ (a' := ?_) ?_ ?_
          rotate_left
          ·simp only [putAll,Act.put,zA,zB,zC]
           rfl
          refine one_ (i := 16) (N := none) #[true,true,true,true,true,true,true,true,true,true,true,true,true,true,true,true,true,false] rfl rfl (one_of HT_.out (by kernel_rfl)) (by decide) (fun K hK => ?_)
          have hs43 : w42.cell? ⟨gb449,0,none⟩ = some (.string (⟨#[]⟩ : ByteArray)) := (q0i BK449.out 0).trans rfl
          have hfs43 := q0k BK449.out 0
          have hs44 : w42.cell? ⟨gb449,1,none⟩ = some (.string (⟨#[]⟩ : ByteArray)) := (q0i BK449.out 1).trans rfl
          have hfs44 := q0k BK449.out 1
          have hs45 : w42.cell? ⟨gb449,2,none⟩ = some (.int .i64 0) := (q0i BK449.out 2).trans rfl
          have hfs45 := q0k BK449.out 2
          have hs46 : w42.cell? ⟨gb449,3,none⟩ = some (.int .i64 0) := (q0i BK449.out 3).trans rfl
          have hfs46 := q0k BK449.out 3
          refine skip_ (w1 := ?_) (by rfl) rfl ?_ ?_
          rotate_left
          ·go_simp
           rfl
          refine hK.out _ _ ⟨((cell_far (p := ⟨gb449,_,none⟩) (by first | exact Nat.ne_of_lt (Nat.lt_of_lt_of_le (by have := World.block_lt_of_cell? _ _ hw442_0;first | rwa [add_block] at this | exact this) GW449.out) | (rw [add_block];exact Nat.ne_of_lt (Nat.lt_of_lt_of_le (by have := World.block_lt_of_cell? _ _ hw442_0;first | rwa [add_block] at this | exact this) GW449.out)) | (show (Addr.add _ _).block ≠ _;rw [add_block];exact Nat.ne_of_lt (Nat.lt_of_lt_of_le (by have := World.block_lt_of_cell? _ _ hw442_0;first | rwa [add_block] at this | exact this) GW449.out)) | (dsimp only;exact Nat.ne_of_lt (Nat.lt_of_lt_of_le (by have := World.block_lt_of_cell? _ _ hw442_0;first | rwa [add_block] at this | exact this) GW449.out))) _).trans (((cell_far (p := ⟨gb449,_,none⟩) (by first | exact Nat.ne_of_lt (Nat.lt_of_lt_of_le (by have := World.block_lt_of_cell? _ _ hw442_0;first | rwa [add_block] at this | exact this) GW449.out) | (rw [add_block];exact Nat.ne_of_lt (Nat.lt_of_lt_of_le (by have := World.block_lt_of_cell? _ _ hw442_0;first | rwa [add_block] at this | exact this) GW449.out)) | (show (Addr.add _ _).block ≠ _;rw [add_block];exact Nat.ne_of_lt (Nat.lt_of_lt_of_le (by have := World.block_lt_of_cell? _ _ hw442_0;first | rwa [add_block] at this | exact this) GW449.out)) | (dsimp only;exact Nat.ne_of_lt (Nat.lt_of_lt_of_le (by have := World.block_lt_of_cell? _ _ hw442_0;first | rwa [add_block] at this | exact this) GW449.out))) _).trans (((cell_far (p := ⟨gb449,_,none⟩) (by first | exact Nat.ne_of_lt (Nat.lt_of_lt_of_le (by have := World.block_lt_of_cell? _ _ hw442_0;first | rwa [add_block] at this | exact this) GW449.out) | (rw [add_block];exact Nat.ne_of_lt (Nat.lt_of_lt_of_le (by have := World.block_lt_of_cell? _ _ hw442_0;first | rwa [add_block] at this | exact this) GW449.out)) | (show (Addr.add _ _).block ≠ _;rw [add_block];exact Nat.ne_of_lt (Nat.lt_of_lt_of_le (by have := World.block_lt_of_cell? _ _ hw442_0;first | rwa [add_block] at this | exact this) GW449.out)) | (dsimp only;exact Nat.ne_of_lt (Nat.lt_of_lt_of_le (by have := World.block_lt_of_cell? _ _ hw442_0;first | rwa [add_block] at this | exact this) GW449.out))) _).trans (((cell_far (p := ⟨gb449,_,none⟩) (by first | exact Nat.ne_of_lt (Nat.lt_of_lt_of_le (by have := World.block_lt_of_cell? _ _ hw442_0;first | rwa [add_block] at this | exact this) GW449.out) | (rw [add_block];exact Nat.ne_of_lt (Nat.lt_of_lt_of_le (by have := World.block_lt_of_cell? _ _ hw442_0;first | rwa [add_block] at this | exact this) GW449.out)) | (show (Addr.add _ _).block ≠ _;rw [add_block];exact Nat.ne_of_lt (Nat.lt_of_lt_of_le (by have := World.block_lt_of_cell? _ _ hw442_0;first | rwa [add_block] at this | exact this) GW449.out)) | (dsimp only;exact Nat.ne_of_lt (Nat.lt_of_lt_of_le (by have := World.block_lt_of_cell? _ _ hw442_0;first | rwa [add_block] at this | exact this) GW449.out))) _).trans (hHeld.1)))))))),((cell_far (p := ⟨gb449,_,none⟩) (by first | exact Nat.ne_of_lt (Nat.lt_of_lt_of_le (by have := World.block_lt_of_cell? _ _ hw442_1;first | rwa [add_block] at this | exact this) GW449.out) | (rw [add_block];exact Nat.ne_of_lt (Nat.lt_of_lt_of_le (by have := World.block_lt_of_cell? _ _ hw442_1;first | rwa [add_block] at this | exact this) GW449.out)) | (show (Addr.add _ _).block ≠ _;rw [add_block];exact Nat.ne_of_lt (Nat.lt_of_lt_of_le (by have := World.block_lt_of_cell? _ _ hw442_1;first | rwa [add_block] at this | exact this) GW449.out)) | (dsimp only;exact Nat.ne_of_lt (Nat.lt_of_lt_of_le (by have := World.block_lt_of_cell? _ _ hw442_1;first | rwa [add_block] at this | exact this) GW449.out))) _).trans (((cell_far (p := ⟨gb449,_,none⟩) (by first | exact Nat.ne_of_lt (Nat.lt_of_lt_of_le (by have := World.block_lt_of_cell? _ _ hw442_1;first | rwa [add_block] at this | exact this) GW449.out) | (rw [add_block];exact Nat.ne_of_lt (Nat.lt_of_lt_of_le (by have := World.block_lt_of_cell? _ _ hw442_1;first | rwa [add_block] at this | exact this) GW449.out)) | (show (Addr.add _ _).block ≠ _;rw [add_block];exact Nat.ne_of_lt (Nat.lt_of_lt_of_le (by have := World.block_lt_of_cell? _ _ hw442_1;first | rwa [add_block] at this | exact this) GW449.out)) | (dsimp only;exact Nat.ne_of_lt (Nat.lt_of_lt_of_le (by have := World.block_lt_of_cell? _ _ hw442_1;first | rwa [add_block] at this | exact this) GW449.out))) _).trans (((cell_far (p := ⟨gb449,_,none⟩) (by first | exact Nat.ne_of_lt (Nat.lt_of_lt_of_le (by have := World.block_lt_of_cell? _ _ hw442_1;first | rwa [add_block] at this | exact this) GW449.out) | (rw [add_block];exact Nat.ne_of_lt (Nat.lt_of_lt_of_le (by have := World.block_lt_of_cell? _ _ hw442_1;first | rwa [add_block] at this | exact this) GW449.out)) | (show (Addr.add _ _).block ≠ _;rw [add_block];exact Nat.ne_of_lt (Nat.lt_of_lt_of_le (by have := World.block_lt_of_cell? _ _ hw442_1;first | rwa [add_block] at this | exact this) GW449.out)) | (dsimp only;exact Nat.ne_of_lt (Nat.lt_of_lt_of_le (by have := World.block_lt_of_cell? _ _ hw442_1;first | rwa [add_block] at this | exact this) GW449.out))) _).trans (((cell_far (p := ⟨gb449,_,none⟩) (by first | exact Nat.ne_of_lt (Nat.lt_of_lt_of_le (by have := World.block_lt_of_cell? _ _ hw442_1;first | rwa [add_block] at this | exact this) GW449.out) | (rw [add_block];exact Nat.ne_of_lt (Nat.lt_of_lt_of_le (by have := World.block_lt_of_cell? _ _ hw442_1;first | rwa [add_block] at this | exact this) GW449.out)) | (show (Addr.add _ _).block ≠ _;rw [add_block];exact Nat.ne_of_lt (Nat.lt_of_lt_of_le (by have := World.block_lt_of_cell? _ _ hw442_1;first | rwa [add_block] at this | exact this) GW449.out)) | (dsimp only;exact Nat.ne_of_lt (Nat.lt_of_lt_of_le (by have := World.block_lt_of_cell? _ _ hw442_1;first | rwa [add_block] at this | exact this) GW449.out))) _).trans (hHeld.2.1)))))))),((cell_far (p := ⟨gb449,_,none⟩) (by first | exact Nat.ne_of_lt (Nat.lt_of_lt_of_le (by have := World.block_lt_of_cell? _ _ hw442_2;first | rwa [add_block] at this | exact this) GW449.out) | (rw [add_block];exact Nat.ne_of_lt (Nat.lt_of_lt_of_le (by have := World.block_lt_of_cell? _ _ hw442_2;first | rwa [add_block] at this | exact this) GW449.out)) | (show (Addr.add _ _).block ≠ _;rw [add_block];exact Nat.ne_of_lt (Nat.lt_of_lt_of_le (by have := World.block_lt_of_cell? _ _ hw442_2;first | rwa [add_block] at this | exact this) GW449.out)) | (dsimp only;exact Nat.ne_of_lt (Nat.lt_of_lt_of_le (by have := World.block_lt_of_cell? _ _ hw442_2;first | rwa [add_block] at this | exact this) GW449.out))) _).trans (((cell_far (p := ⟨gb449,_,none⟩) (by first | exact Nat.ne_of_lt (Nat.lt_of_lt_of_le (by have := World.block_lt_of_cell? _ _ hw442_2;first | rwa [add_block] at this | exact this) GW449.out) | (rw [add_block];exact Nat.ne_of_lt (Nat.lt_of_lt_of_le (by have := World.block_lt_of_cell? _ _ hw442_2;first | rwa [add_block] at this | exact this) GW449.out)) | (show (Addr.add _ _).block ≠ _;rw [add_block];exact Nat.ne_of_lt (Nat.lt_of_lt_of_le (by have := World.block_lt_of_cell? _ _ hw442_2;first | rwa [add_block] at this | exact this) GW449.out)) | (dsimp only;exact Nat.ne_of_lt (Nat.lt_of_lt_of_le (by have := World.block_lt_of_cell? _ _ hw442_2;first | rwa [add_block] at this | exact this) GW449.out))) _).trans (((cell_far (p := ⟨gb449,_,none⟩) (by first | exact Nat.ne_of_lt (Nat.lt_of_lt_of_le (by have := World.block_lt_of_cell? _ _ hw442_2;first | rwa [add_block] at this | exact this) GW449.out) | (rw [add_block];exact Nat.ne_of_lt (Nat.lt_of_lt_of_le (by have := World.block_lt_of_cell? _ _ hw442_2;first | rwa [add_block] at this | exact this) GW449.out)) | (show (Addr.add _ _).block ≠ _;rw [add_block];exact Nat.ne_of_lt (Nat.lt_of_lt_of_le (by have := World.block_lt_of_cell? _ _ hw442_2;first | rwa [add_block] at this | exact this) GW449.out)) | (dsimp only;exact Nat.ne_of_lt (Nat.lt_of_lt_of_le (by have := World.block_lt_of_cell? _ _ hw442_2;first | rwa [add_block] at this | exact this) GW449.out))) _).trans (((cell_far (p := ⟨gb449,_,none⟩) (by first | exact Nat.ne_of_lt (Nat.lt_of_lt_of_le (by have := World.block_lt_of_cell? _ _ hw442_2;first | rwa [add_block] at this | exact this) GW449.out) | (rw [add_block];exact Nat.ne_of_lt (Nat.lt_of_lt_of_le (by have := World.block_lt_of_cell? _ _ hw442_2;first | rwa [add_block] at this | exact this) GW449.out)) | (show (Addr.add _ _).block ≠ _;rw [add_block];exact Nat.ne_of_lt (Nat.lt_of_lt_of_le (by have := World.block_lt_of_cell? _ _ hw442_2;first | rwa [add_block] at this | exact this) GW449.out)) | (dsimp only;exact Nat.ne_of_lt (Nat.lt_of_lt_of_le (by have := World.block_lt_of_cell? _ _ hw442_2;first | rwa [add_block] at this | exact this) GW449.out))) _).trans (hHeld.2.2.1)))))))),((cell_far (p := ⟨gb449,_,none⟩) (by first | exact Nat.ne_of_lt (Nat.lt_of_lt_of_le (by have := World.block_lt_of_cell? _ _ hw442_3;first | rwa [add_block] at this | exact this) GW449.out) | (rw [add_block];exact Nat.ne_of_lt (Nat.lt_of_lt_of_le (by have := World.block_lt_of_cell? _ _ hw442_3;first | rwa [add_block] at this | exact this) GW449.out)) | (show (Addr.add _ _).block ≠ _;rw [add_block];exact Nat.ne_of_lt (Nat.lt_of_lt_of_le (by have := World.block_lt_of_cell? _ _ hw442_3;first | rwa [add_block] at this | exact this) GW449.out)) | (dsimp only;exact Nat.ne_of_lt (Nat.lt_of_lt_of_le (by have := World.block_lt_of_cell? _ _ hw442_3;first | rwa [add_block] at this | exact this) GW449.out))) _).trans (((cell_far (p := ⟨gb449,_,none⟩) (by first | exact Nat.ne_of_lt (Nat.lt_of_lt_of_le (by have := World.block_lt_of_cell? _ _ hw442_3;first | rwa [add_block] at this | exact this) GW449.out) | (rw [add_block];exact Nat.ne_of_lt (Nat.lt_of_lt_of_le (by have := World.block_lt_of_cell? _ _ hw442_3;first | rwa [add_block] at this | exact this) GW449.out)) | (show (Addr.add _ _).block ≠ _;rw [add_block];exact Nat.ne_of_lt (Nat.lt_of_lt_of_le (by have := World.block_lt_of_cell? _ _ hw442_3;first | rwa [add_block] at this | exact this) GW449.out)) | (dsimp only;exact Nat.ne_of_lt (Nat.lt_of_lt_of_le (by have := World.block_lt_of_cell? _ _ hw442_3;first | rwa [add_block] at this | exact this) GW449.out))) _).trans (((cell_far (p := ⟨gb449,_,none⟩) (by first | exact Nat.ne_of_lt (Nat.lt_of_lt_of_le (by have := World.block_lt_of_cell? _ _ hw442_3;first | rwa [add_block] at this | exact this) GW449.out) | (rw [add_block];exact Nat.ne_of_lt (Nat.lt_of_lt_of_le (by have := World.block_lt_of_cell? _ _ hw442_3;first | rwa [add_block] at this | exact this) GW449.out)) | (show (Addr.add _ _).block ≠ _;rw [add_block];exact Nat.ne_of_lt (Nat.lt_of_lt_of_le (by have := World.block_lt_of_cell? _ _ hw442_3;first | rwa [add_block] at this | exact this) GW449.out)) | (dsimp only;exact Nat.ne_of_lt (Nat.lt_of_lt_of_le (by have := World.block_lt_of_cell? _ _ hw442_3;first | rwa [add_block] at this | exact this) GW449.out))) _).trans (((cell_far (p := ⟨gb449,_,none⟩) (by first | exact Nat.ne_of_lt (Nat.lt_of_lt_of_le (by have := World.block_lt_of_cell? _ _ hw442_3;first | rwa [add_block] at this | exact this) GW449.out) | (rw [add_block];exact Nat.ne_of_lt (Nat.lt_of_lt_of_le (by have := World.block_lt_of_cell? _ _ hw442_3;first | rwa [add_block] at this | exact this) GW449.out)) | (show (Addr.add _ _).block ≠ _;rw [add_block];exact Nat.ne_of_lt (Nat.lt_of_lt_of_le (by have := World.block_lt_of_cell? _ _ hw442_3;first | rwa [add_block] at this | exact this) GW449.out)) | (dsimp only;exact Nat.ne_of_lt (Nat.lt_of_lt_of_le (by have := World.block_lt_of_cell? _ _ hw442_3;first | rwa [add_block] at this | exact this) GW449.out))) _).trans (hHeld.2.2.2.1)))))))),((cell_far (p := ⟨gb449,_,none⟩) (by first | exact Nat.ne_of_lt (Nat.lt_of_lt_of_le (by have := World.block_lt_of_cell? _ _ hw443_0;first | rwa [add_block] at this | exact this) GW449.out) | (rw [add_block];exact Nat.ne_of_lt (Nat.lt_of_lt_of_le (by have := World.block_lt_of_cell? _ _ hw443_0;first | rwa [add_block] at this | exact this) GW449.out)) | (show (Addr.add _ _).block ≠ _;rw [add_block];exact Nat.ne_of_lt (Nat.lt_of_lt_of_le (by have := World.block_lt_of_cell? _ _ hw443_0;first | rwa [add_block] at this | exact this) GW449.out)) | (dsimp only;exact Nat.ne_of_lt (Nat.lt_of_lt_of_le (by have := World.block_lt_of_cell? _ _ hw443_0;first | rwa [add_block] at this | exact this) GW449.out))) _).trans (((cell_far (p := ⟨gb449,_,none⟩) (by first | exact Nat.ne_of_lt (Nat.lt_of_lt_of_le (by have := World.block_lt_of_cell? _ _ hw443_0;first | rwa [add_block] at this | exact this) GW449.out) | (rw [add_block];exact Nat.ne_of_lt (Nat.lt_of_lt_of_le (by have := World.block_lt_of_cell? _ _ hw443_0;first | rwa [add_block] at this | exact this) GW449.out)) | (show (Addr.add _ _).block ≠ _;rw [add_block];exact Nat.ne_of_lt (Nat.lt_of_lt_of_le (by have := World.block_lt_of_cell? _ _ hw443_0;first | rwa [add_block] at this | exact this) GW449.out)) | (dsimp only;exact Nat.ne_of_lt (Nat.lt_of_lt_of_le (by have := World.block_lt_of_cell? _ _ hw443_0;first | rwa [add_block] at this | exact this) GW449.out))) _).trans (((cell_far (p := ⟨gb449,_,none⟩) (by first | exact Nat.ne_of_lt (Nat.lt_of_lt_of_le (by have := World.block_lt_of_cell? _ _ hw443_0;first | rwa [add_block] at this | exact this) GW449.out) | (rw [add_block];exact Nat.ne_of_lt (Nat.lt_of_lt_of_le (by have := World.block_lt_of_cell? _ _ hw443_0;first | rwa [add_block] at this | exact this) GW449.out)) | (show (Addr.add _ _).block ≠ _;rw [add_block];exact Nat.ne_of_lt (Nat.lt_of_lt_of_le (by have := World.block_lt_of_cell? _ _ hw443_0;first | rwa [add_block] at this | exact this) GW449.out)) | (dsimp only;exact Nat.ne_of_lt (Nat.lt_of_lt_of_le (by have := World.block_lt_of_cell? _ _ hw443_0;first | rwa [add_block] at this | exact this) GW449.out))) _).trans (((cell_far (p := ⟨gb449,_,none⟩) (by first | exact Nat.ne_of_lt (Nat.lt_of_lt_of_le (by have := World.block_lt_of_cell? _ _ hw443_0;first | rwa [add_block] at this | exact this) GW449.out) | (rw [add_block];exact Nat.ne_of_lt (Nat.lt_of_lt_of_le (by have := World.block_lt_of_cell? _ _ hw443_0;first | rwa [add_block] at this | exact this) GW449.out)) | (show (Addr.add _ _).block ≠ _;rw [add_block];exact Nat.ne_of_lt (Nat.lt_of_lt_of_le (by have := World.block_lt_of_cell? _ _ hw443_0;first | rwa [add_block] at this | exact this) GW449.out)) | (dsimp only;exact Nat.ne_of_lt (Nat.lt_of_lt_of_le (by have := World.block_lt_of_cell? _ _ hw443_0;first | rwa [add_block] at this | exact this) GW449.out))) _).trans (hHeld.2.2.2.2.1)))))))),((cell_far (p := ⟨gb449,_,none⟩) (by first | exact Nat.ne_of_lt (Nat.lt_of_lt_of_le (by have := World.block_lt_of_cell? _ _ hw443_1;first | rwa [add_block] at this | exact this) GW449.out) | (rw [add_block];exact Nat.ne_of_lt (Nat.lt_of_lt_of_le (by have := World.block_lt_of_cell? _ _ hw443_1;first | rwa [add_block] at this | exact this) GW449.out)) | (show (Addr.add _ _).block ≠ _;rw [add_block];exact Nat.ne_of_lt (Nat.lt_of_lt_of_le (by have := World.block_lt_of_cell? _ _ hw443_1;first | rwa [add_block] at this | exact this) GW449.out)) | (dsimp only;exact Nat.ne_of_lt (Nat.lt_of_lt_of_le (by have := World.block_lt_of_cell? _ _ hw443_1;first | rwa [add_block] at this | exact this) GW449.out))) _).trans (((cell_far (p := ⟨gb449,_,none⟩) (by first | exact Nat.ne_of_lt (Nat.lt_of_lt_of_le (by have := World.block_lt_of_cell? _ _ hw443_1;first | rwa [add_block] at this | exact this) GW449.out) | (rw [add_block];exact Nat.ne_of_lt (Nat.lt_of_lt_of_le (by have := World.block_lt_of_cell? _ _ hw443_1;first | rwa [add_block] at this | exact this) GW449.out)) | (show (Addr.add _ _).block ≠ _;rw [add_block];exact Nat.ne_of_lt (Nat.lt_of_lt_of_le (by have := World.block_lt_of_cell? _ _ hw443_1;first | rwa [add_block] at this | exact this) GW449.out)) | (dsimp only;exact Nat.ne_of_lt (Nat.lt_of_lt_of_le (by have := World.block_lt_of_cell? _ _ hw443_1;first | rwa [add_block] at this | exact this) GW449.out))) _).trans (((cell_far (p := ⟨gb449,_,none⟩) (by first | exact Nat.ne_of_lt (Nat.lt_of_lt_of_le (by have := World.block_lt_of_cell? _ _ hw443_1;first | rwa [add_block] at this | exact this) GW449.out) | (rw [add_block];exact Nat.ne_of_lt (Nat.lt_of_lt_of_le (by have := World.block_lt_of_cell? _ _ hw443_1;first | rwa [add_block] at this | exact this) GW449.out)) | (show (Addr.add _ _).block ≠ _;rw [add_block];exact Nat.ne_of_lt (Nat.lt_of_lt_of_le (by have := World.block_lt_of_cell? _ _ hw443_1;first | rwa [add_block] at this | exact this) GW449.out)) | (dsimp only;exact Nat.ne_of_lt (Nat.lt_of_lt_of_le (by have := World.block_lt_of_cell? _ _ hw443_1;first | rwa [add_block] at this | exact this) GW449.out))) _).trans (((cell_far (p := ⟨gb449,_,none⟩) (by first | exact Nat.ne_of_lt (Nat.lt_of_lt_of_le (by have := World.block_lt_of_cell? _ _ hw443_1;first | rwa [add_block] at this | exact this) GW449.out) | (rw [add_block];exact Nat.ne_of_lt (Nat.lt_of_lt_of_le (by have := World.block_lt_of_cell? _ _ hw443_1;first | rwa [add_block] at this | exact this) GW449.out)) | (show (Addr.add _ _).block ≠ _;rw [add_block];exact Nat.ne_of_lt (Nat.lt_of_lt_of_le (by have := World.block_lt_of_cell? _ _ hw443_1;first | rwa [add_block] at this | exact this) GW449.out)) | (dsimp only;exact Nat.ne_of_lt (Nat.lt_of_lt_of_le (by have := World.block_lt_of_cell? _ _ hw443_1;first | rwa [add_block] at this | exact this) GW449.out))) _).trans (hHeld.2.2.2.2.2.1)))))))),((cell_far (p := ⟨gb449,_,none⟩) (by first | exact Nat.ne_of_lt (Nat.lt_of_lt_of_le (by have := World.block_lt_of_cell? _ _ hw443_2;first | rwa [add_block] at this | exact this) GW449.out) | (rw [add_block];exact Nat.ne_of_lt (Nat.lt_of_lt_of_le (by have := World.block_lt_of_cell? _ _ hw443_2;first | rwa [add_block] at this | exact this) GW449.out)) | (show (Addr.add _ _).block ≠ _;rw [add_block];exact Nat.ne_of_lt (Nat.lt_of_lt_of_le (by have := World.block_lt_of_cell? _ _ hw443_2;first | rwa [add_block] at this | exact this) GW449.out)) | (dsimp only;exact Nat.ne_of_lt (Nat.lt_of_lt_of_le (by have := World.block_lt_of_cell? _ _ hw443_2;first | rwa [add_block] at this | exact this) GW449.out))) _).trans (((cell_far (p := ⟨gb449,_,none⟩) (by first | exact Nat.ne_of_lt (Nat.lt_of_lt_of_le (by have := World.block_lt_of_cell? _ _ hw443_2;first | rwa [add_block] at this | exact this) GW449.out) | (rw [add_block];exact Nat.ne_of_lt (Nat.lt_of_lt_of_le (by have := World.block_lt_of_cell? _ _ hw443_2;first | rwa [add_block] at this | exact this) GW449.out)) | (show (Addr.add _ _).block ≠ _;rw [add_block];exact Nat.ne_of_lt (Nat.lt_of_lt_of_le (by have := World.block_lt_of_cell? _ _ hw443_2;first | rwa [add_block] at this | exact this) GW449.out)) | (dsimp only;exact Nat.ne_of_lt (Nat.lt_of_lt_of_le (by have := World.block_lt_of_cell? _ _ hw443_2;first | rwa [add_block] at this | exact this) GW449.out))) _).trans (((cell_far (p := ⟨gb449,_,none⟩) (by first | exact Nat.ne_of_lt (Nat.lt_of_lt_of_le (by have := World.block_lt_of_cell? _ _ hw443_2;first | rwa [add_block] at this | exact this) GW449.out) | (rw [add_block];exact Nat.ne_of_lt (Nat.lt_of_lt_of_le (by have := World.block_lt_of_cell? _ _ hw443_2;first | rwa [add_block] at this | exact this) GW449.out)) | (show (Addr.add _ _).block ≠ _;rw [add_block];exact Nat.ne_of_lt (Nat.lt_of_lt_of_le (by have := World.block_lt_of_cell? _ _ hw443_2;first | rwa [add_block] at this | exact this) GW449.out)) | (dsimp only;exact Nat.ne_of_lt (Nat.lt_of_lt_of_le (by have := World.block_lt_of_cell? _ _ hw443_2;first | rwa [add_block] at this | exact this) GW449.out))) _).trans (((cell_far (p := ⟨gb449,_,none⟩) (by first | exact Nat.ne_of_lt (Nat.lt_of_lt_of_le (by have := World.block_lt_of_cell? _ _ hw443_2;first | rwa [add_block] at this | exact this) GW449.out) | (rw [add_block];exact Nat.ne_of_lt (Nat.lt_of_lt_of_le (by have := World.block_lt_of_cell? _ _ hw443_2;first | rwa [add_block] at this | exact this) GW449.out)) | (show (Addr.add _ _).block ≠ _;rw [add_block];exact Nat.ne_of_lt (Nat.lt_of_lt_of_le (by have := World.block_lt_of_cell? _ _ hw443_2;first | rwa [add_block] at this | exact this) GW449.out)) | (dsimp only;exact Nat.ne_of_lt (Nat.lt_of_lt_of_le (by have := World.block_lt_of_cell? _ _ hw443_2;first | rwa [add_block] at this | exact this) GW449.out))) _).trans (hHeld.2.2.2.2.2.2.1)))))))),((cell_far (p := ⟨gb449,_,none⟩) (by first | exact Nat.ne_of_lt (Nat.lt_of_lt_of_le (by have := World.block_lt_of_cell? _ _ hw443_3;first | rwa [add_block] at this | exact this) GW449.out) | (rw [add_block];exact Nat.ne_of_lt (Nat.lt_of_lt_of_le (by have := World.block_lt_of_cell? _ _ hw443_3;first | rwa [add_block] at this | exact this) GW449.out)) | (show (Addr.add _ _).block ≠ _;rw [add_block];exact Nat.ne_of_lt (Nat.lt_of_lt_of_le (by have := World.block_lt_of_cell? _ _ hw443_3;first | rwa [add_block] at this | exact this) GW449.out)) | (dsimp only;exact Nat.ne_of_lt (Nat.lt_of_lt_of_le (by have := World.block_lt_of_cell? _ _ hw443_3;first | rwa [add_block] at this | exact this) GW449.out))) _).trans (((cell_far (p := ⟨gb449,_,none⟩) (by first | exact Nat.ne_of_lt (Nat.lt_of_lt_of_le (by have := World.block_lt_of_cell? _ _ hw443_3;first | rwa [add_block] at this | exact this) GW449.out) | (rw [add_block];exact Nat.ne_of_lt (Nat.lt_of_lt_of_le (by have := World.block_lt_of_cell? _ _ hw443_3;first | rwa [add_block] at this | exact this) GW449.out)) | (show (Addr.add _ _).block ≠ _;rw [add_block];exact Nat.ne_of_lt (Nat.lt_of_lt_of_le (by have := World.block_lt_of_cell? _ _ hw443_3;first | rwa [add_block] at this | exact this) GW449.out)) | (dsimp only;exact Nat.ne_of_lt (Nat.lt_of_lt_of_le (by have := World.block_lt_of_cell? _ _ hw443_3;first | rwa [add_block] at this | exact this) GW449.out))) _).trans (((cell_far (p := ⟨gb449,_,none⟩) (by first | exact Nat.ne_of_lt (Nat.lt_of_lt_of_le (by have := World.block_lt_of_cell? _ _ hw443_3;first | rwa [add_block] at this | exact this) GW449.out) | (rw [add_block];exact Nat.ne_of_lt (Nat.lt_of_lt_of_le (by have := World.block_lt_of_cell? _ _ hw443_3;first | rwa [add_block] at this | exact this) GW449.out)) | (show (Addr.add _ _).block ≠ _;rw [add_block];exact Nat.ne_of_lt (Nat.lt_of_lt_of_le (by have := World.block_lt_of_cell? _ _ hw443_3;first | rwa [add_block] at this | exact this) GW449.out)) | (dsimp only;exact Nat.ne_of_lt (Nat.lt_of_lt_of_le (by have := World.block_lt_of_cell? _ _ hw443_3;first | rwa [add_block] at this | exact this) GW449.out))) _).trans (((cell_far (p := ⟨gb449,_,none⟩) (by first | exact Nat.ne_of_lt (Nat.lt_of_lt_of_le (by have := World.block_lt_of_cell? _ _ hw443_3;first | rwa [add_block] at this | exact this) GW449.out) | (rw [add_block];exact Nat.ne_of_lt (Nat.lt_of_lt_of_le (by have := World.block_lt_of_cell? _ _ hw443_3;first | rwa [add_block] at this | exact this) GW449.out)) | (show (Addr.add _ _).block ≠ _;rw [add_block];exact Nat.ne_of_lt (Nat.lt_of_lt_of_le (by have := World.block_lt_of_cell? _ _ hw443_3;first | rwa [add_block] at this | exact this) GW449.out)) | (dsimp only;exact Nat.ne_of_lt (Nat.lt_of_lt_of_le (by have := World.block_lt_of_cell? _ _ hw443_3;first | rwa [add_block] at this | exact this) GW449.out))) _).trans (hHeld.2.2.2.2.2.2.2))))))))⟩ (fun hHeld => ?_)
          clear hK K
          refine pure_ (i := 17) (N := some 8) (v := ?_) (a' := ?_) #[true,true,true,true,true,true,true,true,true,true,true,true,true,true,true,true,true,true] rfl rfl (q0r HT_.out (by kernel_rfl)) (fun _ _ _ h => h) (Or.inl ⟨by rfl,?_⟩) ?_ ?_
          rotate_left
          ·intro w'
           go_simp
           with_reducible rfl
          rotate_left
          ·simp only [Act.put,zA,zB,zC,i64_w,i32_w]
           rfl
          refine done_ (done_of HT_.out (by kernel_rfl)) ?_
          try go_wp2
          have n0_ : Aside0 (Kd.R k45 45 ((((w42.setCell ⟨gb449,0,none⟩ (.string t444)).setCell ⟨gb449,1,none⟩ (.string t445)).setCell ⟨gb449,2,none⟩ (.int .i64 t446)).setCell ⟨gb449,3,none⟩ (.int .i64 t447)) w.heap.size (fun k_ => k_ ≠ gb449) u5 x5_1) := ⟨by (with_reducible repeat (first | apply Kd.q0m | apply Kd.q0n | apply Kd.q0o));exact Kd.R_mono (Kd.R_far (p := ⟨gb449,3,none⟩) (Kd.R_far (p := ⟨gb449,2,none⟩) (Kd.R_far (p := ⟨gb449,1,none⟩) (Kd.R_far (p := ⟨gb449,0,none⟩) (Kd.R_mono HO_5.out (fun k_ hk => (⟨hk,hk⟩ : _ ∧ k_ ≠ gb449))) (fun _ hk => hk.2) (.string t444)) (fun _ hk => hk.2) (.string t445)) (fun _ hk => hk.2) (.int .i64 t446)) (fun _ hk => hk.2) (.int .i64 t447)) (fun _ hk => hk.1)⟩
          have n1_ : Aside0 (((((w42.setCell ⟨gb449,0,none⟩ (.string t444)).setCell ⟨gb449,1,none⟩ (.string t445)).setCell ⟨gb449,2,none⟩ (.int .i64 t446)).setCell ⟨gb449,3,none⟩ (.int .i64 t447)).heap[gb449]? = some (.cells #[.string t444,.string t445,.int .i64 t446,.int .i64 t447] 45 (0,0))) := ⟨by (with_reducible repeat (first | refine q0b ?_ _ | refine q0c ?_ | refine q0a ?_ _));refine q0t (cs := #[.string t444,.string t445,.int .i64 t446,.int .i64 0]) ?_ 3 _ rfl;(with_reducible repeat (first | refine q0b ?_ _ | refine q0c ?_ | refine q0a ?_ _));refine q0t (cs := #[.string t444,.string t445,.int .i64 0,.int .i64 0]) ?_ 2 _ rfl;(with_reducible repeat (first | refine q0b ?_ _ | refine q0c ?_ | refine q0a ?_ _));refine q0t (cs := #[.string t444,.string (⟨#[]⟩ : ByteArray),.int .i64 0,.int .i64 0]) ?_ 1 _ rfl;(with_reducible repeat (first | refine q0b ?_ _ | refine q0c ?_ | refine q0a ?_ _));refine q0t (cs := #[.string (⟨#[]⟩ : ByteArray),.string (⟨#[]⟩ : ByteArray),.int .i64 0,.int .i64 0]) ?_ 0 _ rfl;(with_reducible repeat (first | refine q0b ?_ _ | refine q0c ?_ | refine q0a ?_ _));exact BK449.out⟩
          have n2_ : Aside0 (Below w.heap.size w ((((w42.setCell ⟨gb449,0,none⟩ (.string t444)).setCell ⟨gb449,1,none⟩ (.string t445)).setCell ⟨gb449,2,none⟩ (.int .i64 t446)).setCell ⟨gb449,3,none⟩ (.int .i64 t447))) := ⟨by repeat (first | (with_reducible first | exact HB.out | apply q0h | apply q0d | apply q0f | refine q0g ?_ GE449.out) | exact HB.out)⟩
          (try clear HO_5)
          (try clear BK449)
          (try clear HB)
          generalize ((((w42.setCell ⟨gb449,0,none⟩ (.string t444)).setCell ⟨gb449,1,none⟩ (.string t445)).setCell ⟨gb449,2,none⟩ (.int .i64 t446)).setCell ⟨gb449,3,none⟩ (.int .i64 t447)) = w47 at n0_ n1_ n2_ ⊢
          have HO_5 := n0_
          have BK449 := n1_
          have HB := n2_
          clear n0_ n1_ n2_
          have n0_ := Aside0.mk (Kd.q0o HO_5.out)
          have n1_ := Aside0.mk (q0c BK449.out)
          have n2_ := Aside0.mk (q0f HB.out)
          clear HO_5
          clear BK449
          clear HB
          have HO_5 := n0_
          have BK449 := n1_
          have HB := n2_
          clear n0_ n1_ n2_
          have p450 : 0 ≤ (x6_1 : Int) := of_decide_eq_true (by first | (with_reducible assumption) | assumption)
          have q450 : x6_1 < (l0.length : Int) := of_decide_eq_true (by first | (with_reducible assumption) | assumption)
          obtain ⟨ad450,e450,hx450_0,hx450_1,hx450_2,hx450_3⟩ := at_T45 HR0.out x6_1 p450 q450
          have hw450_3 := hx450_3
          have hw450_2 := hx450_2
          have hw450_1 := hx450_1
          have hw450_0 := hx450_0
          obtain rfl : ad442 = ad450 := (by injection e450)
          replace hx450_0 := (HB.out.cell (World.block_lt_of_cell? w _ hx450_0)).trans hx450_0
          replace hx450_1 := (HB.out.cell (World.block_lt_of_cell? w _ hx450_1)).trans hx450_1
          replace hx450_2 := (HB.out.cell (World.block_lt_of_cell? w _ hx450_2)).trans hx450_2
          replace hx450_3 := (HB.out.cell (World.block_lt_of_cell? w _ hx450_3)).trans hx450_3
          replace p450 := eq_true p450
          replace q450 := eq_true q450
          refine start_ (n := 6) (S := fun w' => w'.cell? ⟨gb449,0,none⟩ = some (.string t444) ∧ w'.cell? ⟨gb449,1,none⟩ = some (.string t445) ∧ w'.cell? ⟨gb449,2,none⟩ = some (.int .i64 t446) ∧ w'.cell? ⟨gb449,3,none⟩ = some (.int .i64 t447) ∧ w'.cell? (ad442.add ((x6_1).toNat * 4)) = some (.string ((q0e l0 x6_1).f0)) ∧ w'.cell? ⟨(ad442.add ((x6_1).toNat * 4)).block,(ad442.add ((x6_1).toNat * 4)).off + 1,none⟩ = some (.string ((q0e l0 x6_1).f1)) ∧ w'.cell? ⟨(ad442.add ((x6_1).toNat * 4)).block,(ad442.add ((x6_1).toNat * 4)).off + 2,none⟩ = some (.int .i64 ((q0e l0 x6_1).f2)) ∧ w'.cell? ⟨(ad442.add ((x6_1).toNat * 4)).block,(ad442.add ((x6_1).toNat * 4)).off + 3,none⟩ = some (.int .i64 ((q0e l0 x6_1).f3))) (ds := []) #[false,false,false,false,false,false] (by kernel_rfl) rfl rfl ⟨(q0i BK449.out 0).trans rfl,(q0i BK449.out 1).trans rfl,(q0i BK449.out 2).trans rfl,(q0i BK449.out 3).trans rfl,((HB.out.cell (World.block_lt_of_cell? w _ hw450_0)).trans hw450_0),((HB.out.cell (World.block_lt_of_cell? w _ hw450_1)).trans hw450_1),((HB.out.cell (World.block_lt_of_cell? w _ hw450_2)).trans hw450_2),((HB.out.cell (World.block_lt_of_cell? w _ hw450_3)).trans hw450_3)⟩ (fun hHeld => ?_)
          generalize w47.drew = w48 at HO_5 BK449 HB hx450_0 hx450_1 hx450_2 hx450_3 hHeld ⊢
          refine pure_ (i := 1) (N := some 37) (v := ?_) (a' := ?_) #[false,true,false,false,false,false] rfl rfl (by kernel_rfl) (fun _ _ _ h => h) (Or.inl ⟨by rfl,?_⟩) ?_ ?_
          rotate_left
          ·intro w'
           go_simp
           with_reducible rfl
          rotate_left
          ·simp only [Act.put,zA,zB,zC,i64_w,i32_w]
           rfl
          refine pure_ (i := 2) (N := some 38) (v := ?_) (a' := ?_) #[false,true,true,false,false,false] rfl rfl (by kernel_rfl) (fun _ _ _ h => h) (Or.inl ⟨by rfl,?_⟩) ?_ ?_
          rotate_left
          ·intro w'
           go_simp
           with_reducible rfl
          rotate_left
          ·simp only [Act.put,zA,zB,zC,i64_w,i32_w]
           rfl
          refine pure_ (i := 3) (N := some 39) (v := ?_) (a' := ?_) #[false,true,true,true,false,false] rfl rfl (by kernel_rfl) (fun _ _ _ h => h) (Or.inl ⟨by rfl,?_⟩) ?_ ?_
          rotate_left
          ·intro w'
           go_simp
           with_reducible rfl
          rotate_left
          ·simp only [Act.put,zA,zB,zC,i64_w,i32_w]
           rfl
          refine take_ (i := 0) (N := some 36) (v := ?_) (a' := ?_) #[true,true,true,true,false,false] rfl rfl (by kernel_rfl) (fun _ _ _ h => h) (Or.inl ⟨by rfl,?_⟩) hHeld ?_ ?_
          rotate_left
          ·rintro w' ⟨s0,s1,s2,s3,s4,s5,s6,s7⟩
           go_simp
           with_reducible rfl
          rotate_left
          ·simp only [Act.put,zA,zB,zC,i64_w,i32_w]
           rfl
          refine take_ (i := 4) (N := some 40) (v := ?_) (a' := ?_) #[true,true,true,true,true,false] rfl rfl (by kernel_rfl) (fun _ _ _ h => h) (Or.inl ⟨by rfl,?_⟩) hHeld ?_ ?_
          rotate_left
          ·rintro w' ⟨s0,s1,s2,s3,s4,s5,s6,s7⟩
           go_simp
           with_reducible rfl
          rotate_left
          ·simp only [Act.put,zA,zB,zC,i64_w,i32_w]
           rfl
          refine pure_ (i := 5) (N := some 41) (v := ?_) (a' := ?_) #[true,true,true,true,true,true] rfl rfl (by kernel_rfl) (fun _ _ _ h => h) (Or.inl ⟨by rfl,?_⟩) ?_ ?_
          rotate_left
          ·intro w'
           go_simp
           with_reducible rfl
          rotate_left
          ·simp only [Act.put,zA,zB,zC,i64_w,i32_w]
           rfl
          refine done_ (by kernel_rfl) ?_
          try go_wp2
          have n0_ := Aside0.mk (Kd.q0o HO_5.out)
          have n1_ := Aside0.mk (q0c BK449.out)
          have n2_ := Aside0.mk (q0f HB.out)
          clear HO_5
          clear BK449
          clear HB
          have HO_5 := n0_
          have BK449 := n1_
          have HB := n2_
          clear n0_ n1_ n2_
          have p452 : 0 ≤ (x6_1 : Int) := of_decide_eq_true (by first | (with_reducible assumption) | assumption)
          have q452 : x6_1 < (l1.length : Int) := of_decide_eq_true (by first | (with_reducible assumption) | assumption)
          obtain ⟨ad452,e452,hx452_0⟩ := Kd.at_int HR1.out x6_1 p452 q452
          have hw452_0 := hx452_0
          cases e452
          replace hx452_0 := (HB.out.cell (World.block_lt_of_cell? w _ hx452_0)).trans hx452_0
          replace p452 := eq_true p452
          replace q452 := eq_true q452
          refine start_ (n := 13) (S := fun w' => w'.cell? ⟨gb449,0,none⟩ = some (.string t444) ∧ w'.cell? ⟨gb449,1,none⟩ = some (.string t445) ∧ w'.cell? ⟨gb449,2,none⟩ = some (.int .i64 t446) ∧ w'.cell? ⟨gb449,3,none⟩ = some (.int .i64 t447) ∧ w'.cell? (ad452.add (x6_1).toNat) = some (.int .i64 (rd l1 x6_1))) (ds := []) #[false,false,false,false,false,false,false,false,false,false,false,false,false] (by kernel_rfl) rfl rfl ⟨(q0i BK449.out 0).trans rfl,(q0i BK449.out 1).trans rfl,(q0i BK449.out 2).trans rfl,(q0i BK449.out 3).trans rfl,((HB.out.cell (World.block_lt_of_cell? w _ hw452_0)).trans hw452_0)⟩ (fun hHeld => ?_);refine with_tabW verdererlaw28_QuotaLess.tab10 verdererlaw28_QuotaLess.bits10 (fun HT_ HW_ => ?_)
          generalize w48.drew = w49 at HO_5 BK449 HB hx452_0 hHeld ⊢
          refine pure_ (i := 0) (N := some 43) (v := ?_) (a' := ?_) #[true,false,false,false,false,false,false,false,false,false,false,false,false] rfl rfl (q0r HT_.out (by kernel_rfl)) (fun _ _ _ h => h) (Or.inl ⟨by rfl,?_⟩) ?_ ?_
          rotate_left
          ·intro w'
           go_simp
           with_reducible rfl
          rotate_left
          ·simp only [Act.put,zA,zB,zC,i64_w,i32_w]
           rfl
          refine pure_ (i := 1) (N := some 44) (v := ?_) (a' := ?_) #[true,true,false,false,false,false,false,false,false,false,false,false,false] rfl rfl (q0r HT_.out (by kernel_rfl)) (fun _ _ _ h => h) (Or.inl ⟨by rfl,?_⟩) ?_ ?_
          rotate_left
          ·intro w'
           go_simp
           with_reducible rfl
          rotate_left
          ·simp only [Act.put,zA,zB,zC,i64_w,i32_w]
           rfl
          refine pure_ (i := 2) (N := some 45) (v := ?_) (a' := ?_) #[true,true,true,false,false,false,false,false,false,false,false,false,false] rfl rfl (q0r HT_.out (by kernel_rfl)) (fun _ _ _ h => h) (Or.inl ⟨by rfl,?_⟩) ?_ ?_
          rotate_left
          ·intro w'
           go_simp
           with_reducible rfl
          rotate_left
          ·simp only [Act.put,zA,zB,zC,i64_w,i32_w]
           rfl
          refine pure_ (i := 3) (N := some 46) (v := ?_) (a' := ?_) #[true,true,true,true,false,false,false,false,false,false,false,false,false] rfl rfl (q0r HT_.out (by kernel_rfl)) (fun _ _ _ h => h) (Or.inl ⟨by rfl,?_⟩) ?_ ?_
          rotate_left
          ·intro w'
           go_simp
           with_reducible rfl
          rotate_left
          ·simp only [Act.put,zA,zB,zC,i64_w,i32_w]
           rfl
          refine pure_ (i := 4) (N := some 47) (v := ?_) (a' := ?_) #[true,true,true,true,true,false,false,false,false,false,false,false,false] rfl rfl (q0r HT_.out (by kernel_rfl)) (fun _ _ _ h => h) (Or.inl ⟨by rfl,?_⟩) ?_ ?_
          rotate_left
          ·intro w'
           go_simp
           with_reducible rfl
          rotate_left
          ·simp only [Act.put,zA,zB,zC,i64_w,i32_w]
           rfl
          refine pure_ (i := 5) (N := some 48) (v := ?_) (a' := ?_) #[true,true,true,true,true,true,false,false,false,false,false,false,false] rfl rfl (q0r HT_.out (by kernel_rfl)) (fun _ _ _ h => h) (Or.inl ⟨by rfl,?_⟩) ?_ ?_
          rotate_left
          ·intro w'
           go_simp
           with_reducible rfl
          rotate_left
          ·simp only [Act.put,zA,zB,zC,i64_w,i32_w]
           rfl
          refine pure_ (i := 6) (N := some 49) (v := ?_) (a' := ?_) #[true,true,true,true,true,true,true,false,false,false,false,false,false] rfl rfl (q0r HT_.out (by kernel_rfl)) (fun _ _ _ h => h) (Or.inl ⟨by rfl,?_⟩) ?_ ?_
          rotate_left
          ·intro w'
           go_simp
           with_reducible rfl
          rotate_left
          ·simp only [Act.put,zA,zB,zC,i64_w,i32_w]
           rfl
          refine pure_ (i := 7) (N := some 50) (v := ?_) (a' := ?_) #[true,true,true,true,true,true,true,true,false,false,false,false,false] rfl rfl (q0r HT_.out (by kernel_rfl)) (fun _ _ _ h => h) (Or.inl ⟨by rfl,?_⟩) ?_ ?_
          rotate_left
          ·intro w'
           go_simp
           with_reducible rfl
          rotate_left
          ·simp only [Act.put,zA,zB,zC,i64_w,i32_w]
           rfl
          refine pure_ (i := 9) (N := some 52) (v := ?_) (a' := ?_) #[true,true,true,true,true,true,true,true,false,true,false,false,false] rfl rfl (q0r HT_.out (by kernel_rfl)) (fun _ _ _ h => h) (Or.inl ⟨by rfl,?_⟩) ?_ ?_
          rotate_left
          ·intro w'
           go_simp
           with_reducible rfl
          rotate_left
          ·simp only [Act.put,zA,zB,zC,i64_w,i32_w]
           rfl
          refine take_ (i := 8) (N := some 51) (v := ?_) (a' := ?_) #[true,true,true,true,true,true,true,true,true,true,false,false,false] rfl rfl (take_ofW HT_.out HW_.out (by kernel_rfl)) (fun _ _ _ h => h) (Or.inl ⟨by rfl,?_⟩) hHeld ?_ ?_
          rotate_left
          ·rintro w' ⟨s0,s1,s2,s3,s4⟩
           go_simp
           with_reducible rfl
          rotate_left
          ·simp only [Act.put,zA,zB,zC,i64_w,i32_w]
           rfl
          refine take_ (i := 10) (N := some 53) (v := ?_) (a' := ?_) #[true,true,true,true,true,true,true,true,true,true,true,false,false] rfl rfl (take_ofW HT_.out HW_.out (by kernel_rfl)) (fun _ _ _ h => h) (Or.inl ⟨by rfl,?_⟩) hHeld ?_ ?_
          rotate_left
          ·rintro w' ⟨s0,s1,s2,s3,s4⟩
           go_simp
           with_reducible rfl
          rotate_left
          ·simp only [Act.put,zA,zB,zC,i64_w,i32_w]
           rfl
          refine pure_ (i := 11) (N := some 54) (v := ?_) (a' := ?_) #[true,true,true,true,true,true,true,true,true,true,true,true,false] rfl rfl (q0r HT_.out (by kernel_rfl)) (fun _ _ _ h => h) (Or.inl ⟨by rfl,?_⟩) ?_ ?_
          rotate_left
          ·intro w'
           go_simp
           with_reducible rfl
          rotate_left
          ·simp only [Act.put,zA,zB,zC,i64_w,i32_w]
           rfl
          refine pure_ (i := 12) (N := some 55) (v := ?_) (a' := ?_) #[true,true,true,true,true,true,true,true,true,true,true,true,true] rfl rfl (q0r HT_.out (by kernel_rfl)) (fun _ _ _ h => h) (Or.inl ⟨by rfl,?_⟩) ?_ ?_
          rotate_left
          ·intro w'
           go_simp
           with_reducible rfl
          rotate_left
          ·simp only [Act.put,zA,zB,zC,i64_w,i32_w]
           rfl
          refine done_ (done_of HT_.out (by kernel_rfl)) ?_
          have hcz50_0 : w49.cell? ⟨gb449,0,none⟩ = some (.string t444) := (q0i BK449.out 0).trans rfl
          have hcz50_1 : w49.cell? ⟨gb449,1,none⟩ = some (.string t445) := (q0i BK449.out 1).trans rfl
          have hcz50_2 : w49.cell? ⟨gb449,2,none⟩ = some (.int .i64 t446) := (q0i BK449.out 2).trans rfl
          have hcz50_3 : w49.cell? ⟨gb449,3,none⟩ = some (.int .i64 t447) := (q0i BK449.out 3).trans rfl
          have hfz50_0 := q0k BK449.out 0
          have hfz50_1 := q0k BK449.out 1
          have hfz50_2 := q0k BK449.out 2
          have hfz50_3 := q0k BK449.out 3
          try go_wp2_with (first | ((with_reducible refine gate_builtin (b := .append) (xs := #[.tmp 61,.tmp 63]) rfl ?_);at_builtin;refine Kd.R_append k45 (w0 := w) w.heap.size rfl (.tmp 61) (.tmp 63) 53 45 (.agg #[(.string ⟨#[]⟩),(.string ⟨#[]⟩),(.int .i64 0),(.int .i64 0)]) 48 rfl Try.underlying53 info45 rfl (by decide) (by omega) u5 x5_1 (⟨t444,t445,t446,t447⟩ : S45) [.string t444,.string t445,.int .i64 t446,.int .i64 t447] (fun k_ => k_ ≠ gb449) (fun _ => False) rfl rfl ?aP (fun _ hk => hk.elim) ?aF ?aO ?aB ?aS ?aL ?_;(case aP => exact k45_mkM _ _ _ (⟨t444,t445,t446,t447⟩ : S45));(case aB => exact (by repeat (first | (with_reducible first | exact HB.out | apply q0h | apply q0d | apply q0f | refine q0g ?_ GE449.out) | exact HB.out)));(case aF => exact (fun k_ hk => Kd.freshB (g := gb449) (o := .cells #[.string t444,.string t445,.int .i64 t446,.int .i64 t447] 45 (0,0)) (by (with_reducible repeat (first | refine q0b ?_ _ | refine q0c ?_ | refine q0a ?_ _));exact BK449.out) k_ hk));(case aO => exact (by (with_reducible repeat (first | apply Kd.q0m | apply Kd.q0n | apply Kd.q0o));exact HO_5.out));(case aS => exact (q0p (by repeat (first | (with_reducible first | exact HB.out | apply q0h | apply q0d | apply q0f | refine q0g ?_ GE449.out) | exact HB.out))));(case aL => have := LMc38.out;omega);intro v458 w51 ho hb hg hat;rw [← Ny457.out] at ho;have n0_ := Aside0.mk (blk_grown (g := gb449) (o := .cells #[.string t444,.string t445,.int .i64 t446,.int .i64 t447] 45 (0,0)) (by (with_reducible repeat (first | refine q0b ?_ _ | refine q0c ?_ | refine q0a ?_ _));exact BK449.out) hg (Kd.q0l HO_5.out (fun _ hk => hk)));have n1_ := Aside0.mk (hb);have n2_ := Aside0.mk (ho);clear BK449;clear HB;clear HO_5;have BK449 := n0_;have HB := n1_;have HO459 := n2_;clear n0_ n1_ n2_;clear ho hb hg hat))
          go_roundg k1
          case measure => have := HK1.out;omega
          case rel => exact ⟨(y457),(wrap64 (x6_1 + 1)),(by first | rfl | (simp;done) | (simp [*];done)),H',⟨by have := HK1.out;omega⟩,⟨by (with_reducible repeat (first | apply Kd.q0m | apply Kd.q0n | apply Kd.q0o));exact Kd.R_mono HO459.out (fun _ hk => trivial)⟩,⟨by repeat (first | (with_reducible first | exact HB.out | apply q0h | apply q0d | apply q0f | refine q0g ?_ GE449.out) | exact HB.out)⟩⟩
         ·rw [if_neg c38] at H
          exact absurd H (by simp)
       ·rw [if_neg c22] at H
        have c22b0 : decide (x6_1 < (l1.length : Int)) = false := decide_eq_false c22
        clear c22
        by_cases c52 : x5_1.length < 2932031007402
        ·rw [if_pos c52] at H
         have LMc52 := Aside0.mk c52
         clear c52
         obtain ⟨y460,hy460⟩ : ∃ y_ : List (S45),y_ = (x5_1 ++ [(⟨t444,t445,t446,t447⟩ : S45)]) := ⟨_,rfl⟩
         replace H : (verdererlaw28_QuotaLess.l0 k1 l0 l1 y460 (wrap64 (x6_1 + 1))) = some r := by first | (rw [hy460];with_reducible exact H) | (have H2_ := (Option.bind_some _ _).symm.trans H;rw [hy460];with_reducible exact H2_) | (have H2_ := (Option.bind_some _ _).symm.trans H;with_reducible exact H2_) | with_reducible exact H | (rw [hy460];exact H) | exact H
         have Ny460 := Aside0.mk hy460
         clear hy460
         have H' := Aside0.mk H
         clear H
         try go_wp2
         have n0_ := Aside0.mk (Kd.q0o HO_5.out)
         have n1_ := Aside0.mk (q0f HB.out)
         clear HO_5
         clear HB
         have HO_5 := n0_
         have HB := n1_
         clear n0_ n1_
         have p442 : 0 ≤ (x6_1 : Int) := of_decide_eq_true (by first | (with_reducible assumption) | assumption)
         have q442 : x6_1 < (l0.length : Int) := of_decide_eq_true (by first | (with_reducible assumption) | assumption)
         obtain ⟨ad442,e442,hx442_0,hx442_1,hx442_2,hx442_3⟩ := at_T45 HR0.out x6_1 p442 q442
         have hw442_3 := hx442_3
         have hw442_2 := hx442_2
         have hw442_1 := hx442_1
         have hw442_0 := hx442_0
         cases e442
         replace hx442_0 := (HB.out.cell (World.block_lt_of_cell? w _ hx442_0)).trans hx442_0
         replace hx442_1 := (HB.out.cell (World.block_lt_of_cell? w _ hx442_1)).trans hx442_1
         replace hx442_2 := (HB.out.cell (World.block_lt_of_cell? w _ hx442_2)).trans hx442_2
         replace hx442_3 := (HB.out.cell (World.block_lt_of_cell? w _ hx442_3)).trans hx442_3
         replace p442 := eq_true p442
         replace q442 := eq_true q442
         have p443 : 0 ≤ (x6_1 : Int) := of_decide_eq_true (by first | (with_reducible assumption) | assumption)
         have q443 : x6_1 < (l0.length : Int) := of_decide_eq_true (by first | (with_reducible assumption) | assumption)
         obtain ⟨ad443,e443,hx443_0,hx443_1,hx443_2,hx443_3⟩ := at_T45 HR0.out x6_1 p443 q443
         have hw443_3 := hx443_3
         have hw443_2 := hx443_2
         have hw443_1 := hx443_1
         have hw443_0 := hx443_0
         obtain rfl : ad442 = ad443 := (by injection e443)
         replace hx443_0 := (HB.out.cell (World.block_lt_of_cell? w _ hx443_0)).trans hx443_0
         replace hx443_1 := (HB.out.cell (World.block_lt_of_cell? w _ hx443_1)).trans hx443_1
         replace hx443_2 := (HB.out.cell (World.block_lt_of_cell? w _ hx443_2)).trans hx443_2
         replace hx443_3 := (HB.out.cell (World.block_lt_of_cell? w _ hx443_3)).trans hx443_3
         replace p443 := eq_true p443
         replace q443 := eq_true q443
         refine start_ (n := 18) (S := fun w' => w'.cell? (ad442.add ((x6_1).toNat * 4)) = some (.string ((q0e l0 x6_1).f0)) ∧ w'.cell? ⟨(ad442.add ((x6_1).toNat * 4)).block,(ad442.add ((x6_1).toNat * 4)).off + 1,none⟩ = some (.string ((q0e l0 x6_1).f1)) ∧ w'.cell? ⟨(ad442.add ((x6_1).toNat * 4)).block,(ad442.add ((x6_1).toNat * 4)).off + 2,none⟩ = some (.int .i64 ((q0e l0 x6_1).f2)) ∧ w'.cell? ⟨(ad442.add ((x6_1).toNat * 4)).block,(ad442.add ((x6_1).toNat * 4)).off + 3,none⟩ = some (.int .i64 ((q0e l0 x6_1).f3)) ∧ w'.cell? (ad442.add ((x6_1).toNat * 4)) = some (.string ((q0e l0 x6_1).f0)) ∧ w'.cell? ⟨(ad442.add ((x6_1).toNat * 4)).block,(ad442.add ((x6_1).toNat * 4)).off + 1,none⟩ = some (.string ((q0e l0 x6_1).f1)) ∧ w'.cell? ⟨(ad442.add ((x6_1).toNat * 4)).block,(ad442.add ((x6_1).toNat * 4)).off + 2,none⟩ = some (.int .i64 ((q0e l0 x6_1).f2)) ∧ w'.cell? ⟨(ad442.add ((x6_1).toNat * 4)).block,(ad442.add ((x6_1).toNat * 4)).off + 3,none⟩ = some (.int .i64 ((q0e l0 x6_1).f3))) (ds := []) #[false,false,false,false,false,false,false,false,false,false,false,false,false,false,false,false,false,false] (by kernel_rfl) rfl rfl ⟨((HB.out.cell (World.block_lt_of_cell? w _ hw442_0)).trans hw442_0),((HB.out.cell (World.block_lt_of_cell? w _ hw442_1)).trans hw442_1),((HB.out.cell (World.block_lt_of_cell? w _ hw442_2)).trans hw442_2),((HB.out.cell (World.block_lt_of_cell? w _ hw442_3)).trans hw442_3),((HB.out.cell (World.block_lt_of_cell? w _ hw443_0)).trans hw443_0),((HB.out.cell (World.block_lt_of_cell? w _ hw443_1)).trans hw443_1),((HB.out.cell (World.block_lt_of_cell? w _ hw443_2)).trans hw443_2),((HB.out.cell (World.block_lt_of_cell? w _ hw443_3)).trans hw443_3)⟩ (fun hHeld => ?_);refine with_tabW verdererlaw28_QuotaLess.tab7 verdererlaw28_QuotaLess.bits7 (fun HT_ HW_ => ?_)
         generalize wr.drew = w53 at HO_5 HB hx442_0 hx442_1 hx442_2 hx442_3 hx443_0 hx443_1 hx443_2 hx443_3 hHeld ⊢
         refine pure_ (i := 0) (N := some 22) (v := ?_) (a' := ?_) #[true,false,false,false,false,false,false,false,false,false,false,false,false,false,false,false,false,false] rfl rfl (q0r HT_.out (by kernel_rfl)) (fun _ _ _ h => h) (Or.inl ⟨by rfl,?_⟩) ?_ ?_
         rotate_left
         ·intro w'
          go_simp
          with_reducible rfl
         rotate_left
         ·simp only [Act.put,zA,zB,zC,i64_w,i32_w]
          rfl
         refine pure_ (i := 1) (N := some 23) (v := ?_) (a' := ?_) #[true,true,false,false,false,false,false,false,false,false,false,false,false,false,false,false,false,false] rfl rfl (q0r HT_.out (by kernel_rfl)) (fun _ _ _ h => h) (Or.inl ⟨by rfl,?_⟩) ?_ ?_
         rotate_left
         ·intro w'
          go_simp
          with_reducible rfl
         rotate_left
         ·simp only [Act.put,zA,zB,zC,i64_w,i32_w]
          rfl
         refine pure_ (i := 2) (N := some 24) (v := ?_) (a' := ?_) #[true,true,true,false,false,false,false,false,false,false,false,false,false,false,false,false,false,false] rfl rfl (q0r HT_.out (by kernel_rfl)) (fun _ _ _ h => h) (Or.inl ⟨by rfl,?_⟩) ?_ ?_
         rotate_left
         ·intro w'
          go_simp
          with_reducible rfl
         rotate_left
         ·simp only [Act.put,zA,zB,zC,i64_w,i32_w]
          rfl
         refine pure_ (i := 3) (N := some 25) (v := ?_) (a' := ?_) #[true,true,true,true,false,false,false,false,false,false,false,false,false,false,false,false,false,false] rfl rfl (q0r HT_.out (by kernel_rfl)) (fun _ _ _ h => h) (Or.inl ⟨by rfl,?_⟩) ?_ ?_
         rotate_left
         ·intro w'
          go_simp
          with_reducible rfl
         rotate_left
         ·simp only [Act.put,zA,zB,zC,i64_w,i32_w]
          rfl
         refine pure_ (i := 5) (N := some 27) (v := ?_) (a' := ?_) #[true,true,true,true,false,true,false,false,false,false,false,false,false,false,false,false,false,false] rfl rfl (q0r HT_.out (by kernel_rfl)) (fun _ _ _ h => h) (Or.inl ⟨by rfl,?_⟩) ?_ ?_
         rotate_left
         ·intro w'
          go_simp
          with_reducible rfl
         rotate_left
         ·simp only [Act.put,zA,zB,zC,i64_w,i32_w]
          rfl
         refine pure_ (i := 6) (N := some 28) (v := ?_) (a' := ?_) #[true,true,true,true,false,true,true,false,false,false,false,false,false,false,false,false,false,false] rfl rfl (q0r HT_.out (by kernel_rfl)) (fun _ _ _ h => h) (Or.inl ⟨by rfl,?_⟩) ?_ ?_
         rotate_left
         ·intro w'
          go_simp
          with_reducible rfl
         rotate_left
         ·simp only [Act.put,zA,zB,zC,i64_w,i32_w]
          rfl
         refine pure_ (i := 7) (N := some 29) (v := ?_) (a' := ?_) #[true,true,true,true,false,true,true,true,false,false,false,false,false,false,false,false,false,false] rfl rfl (q0r HT_.out (by kernel_rfl)) (fun _ _ _ h => h) (Or.inl ⟨by rfl,?_⟩) ?_ ?_
         rotate_left
         ·intro w'
          go_simp
          with_reducible rfl
         rotate_left
         ·simp only [Act.put,zA,zB,zC,i64_w,i32_w]
          rfl
         refine pure_ (i := 8) (N := some 30) (v := ?_) (a' := ?_) #[true,true,true,true,false,true,true,true,true,false,false,false,false,false,false,false,false,false] rfl rfl (q0r HT_.out (by kernel_rfl)) (fun _ _ _ h => h) (Or.inl ⟨by rfl,?_⟩) ?_ ?_
         rotate_left
         ·intro w'
          go_simp
          with_reducible rfl
         rotate_left
         ·simp only [Act.put,zA,zB,zC,i64_w,i32_w]
          rfl
         refine pure_ (i := 10) (N := some 32) (v := ?_) (a' := ?_) #[true,true,true,true,false,true,true,true,true,false,true,false,false,false,false,false,false,false] rfl rfl (q0r HT_.out (by kernel_rfl)) (fun _ _ _ h => h) (Or.inl ⟨by rfl,?_⟩) ?_ ?_
         rotate_left
         ·intro w'
          go_simp
          with_reducible rfl
         rotate_left
         ·simp only [Act.put,zA,zB,zC,i64_w,i32_w]
          rfl
         refine take_ (i := 4) (N := some 26) (v := ?_) (a' := ?_) #[true,true,true,true,true,true,true,true,true,false,true,false,false,false,false,false,false,false] rfl rfl (take_ofW HT_.out HW_.out (by kernel_rfl)) (fun _ _ _ h => h) (Or.inl ⟨by rfl,?_⟩) hHeld ?_ ?_
         rotate_left
         ·rintro w' ⟨s0,s1,s2,s3,s4,s5,s6,s7⟩
          go_simp
          with_reducible rfl
         rotate_left
         ·simp only [Act.put,zA,zB,zC,i64_w,i32_w]
          rfl
         refine take_ (i := 9) (N := some 31) (v := ?_) (a' := ?_) #[true,true,true,true,true,true,true,true,true,true,true,false,false,false,false,false,false,false] rfl rfl (take_ofW HT_.out HW_.out (by kernel_rfl)) (fun _ _ _ h => h) (Or.inl ⟨by rfl,?_⟩) hHeld ?_ ?_
         rotate_left
         ·rintro w' ⟨s0,s1,s2,s3,s4,s5,s6,s7⟩
          go_simp
          with_reducible rfl
         rotate_left
         ·simp only [Act.put,zA,zB,zC,i64_w,i32_w]
          rfl
         refine join_ (σ := Nat) 2 #[true,true,true,true,true,true,true,true,true,true,true,true,true,true,true,true,false,false] (fun s_ => [(33,.tuple #[.agg #[.string t444,.string t445,.int .i64 t446,.int .i64 t447],.bool t448]),(7,.pointer (some ⟨s_,0,none⟩)),(21,.tuple #[.agg #[.string t444,.string t445,.int .i64 t446,.int .i64 t447],.bool t448]),(34,.agg #[.string t444,.string t445,.int .i64 t446,.int .i64 t447]),(35,.bool t448)]) (fun s_ w' => (w'.cell? (ad442.add ((x6_1).toNat * 4)) = some (.string ((q0e l0 x6_1).f0)) ∧ w'.cell? ⟨(ad442.add ((x6_1).toNat * 4)).block,(ad442.add ((x6_1).toNat * 4)).off + 1,none⟩ = some (.string ((q0e l0 x6_1).f1)) ∧ w'.cell? ⟨(ad442.add ((x6_1).toNat * 4)).block,(ad442.add ((x6_1).toNat * 4)).off + 2,none⟩ = some (.int .i64 ((q0e l0 x6_1).f2)) ∧ w'.cell? ⟨(ad442.add ((x6_1).toNat * 4)).block,(ad442.add ((x6_1).toNat * 4)).off + 3,none⟩ = some (.int .i64 ((q0e l0 x6_1).f3)) ∧ w'.cell? (ad442.add ((x6_1).toNat * 4)) = some (.string ((q0e l0 x6_1).f0)) ∧ w'.cell? ⟨(ad442.add ((x6_1).toNat * 4)).block,(ad442.add ((x6_1).toNat * 4)).off + 1,none⟩ = some (.string ((q0e l0 x6_1).f1)) ∧ w'.cell? ⟨(ad442.add ((x6_1).toNat * 4)).block,(ad442.add ((x6_1).toNat * 4)).off + 2,none⟩ = some (.int .i64 ((q0e l0 x6_1).f2)) ∧ w'.cell? ⟨(ad442.add ((x6_1).toNat * 4)).block,(ad442.add ((x6_1).toNat * 4)).off + 3,none⟩ = some (.int .i64 ((q0e l0 x6_1).f3))) ∧ (Kd.R k45 45 w' w.heap.size (fun k_ => k_ ≠ s_) u5 x5_1) ∧ (w'.heap[s_]? = some (.cells #[.string (⟨#[]⟩ : ByteArray),.string (⟨#[]⟩ : ByteArray),.int .i64 0,.int .i64 0] 45 (0,0))) ∧ (w.heap.size ≤ s_) ∧ (w.heap.size ≤ s_) ∧ (Below w.heap.size w w')) ?_ ?_
         rotate_left
         ·intro hCont
          refine two_ (i := 11) (j := 15) (Ni := some 33) (Nj := some 7) #[true,true,true,true,true,true,true,true,true,true,true,true,false,false,false,false,false,false] #[true,true,true,true,true,true,true,true,true,true,true,false,false,false,false,true,false,false] rfl rfl rfl rfl (two_of HT_.out (by kernel_rfl)) (by decide) (by decide) (fun K hK => ?_) (fun K hK => ?_)
          ·skip
           refine goes_ Try.func53 (by kernel_rfl) rfl #[.string ((q0e l0 x6_1).f0),.string ((q0e l0 x6_1).f1),.slice (some ad442) l0.length c0] (by rfl) rfl rfl (by (try simp only [List.map_toArray,List.map_cons,List.map_nil]);first | done | rfl | (simp only [List.length_drop,List.length_take];rfl)) ?_
           with_reducible refine (verdererref27_Find.calls k1 ((q0e l0 x6_1).f0) ((q0e l0 x6_1).f1) _ _ l0 t444 t445 t446 t447 t448 _ ?side1 ?side2 A8.out).mono ?_
           (case side1 => repeat (first | exact (Kd.C_below HR0.out HB.out) | (with_reducible refine Kd.C_alloc ?_ _) | (with_reducible refine Kd.C_drewN ?_ _) | (with_reducible refine Kd.C_drew ?_)))
           (case side2 => exact HC0.out)
           rintro e w54 ⟨rfl,hb⟩
           refine ⟨_,rfl,?_⟩
           have n0_ := Aside0.mk (Kd.q0v (by (with_reducible repeat (first | apply Kd.q0m | apply Kd.q0n | apply Kd.q0o));exact HO_5.out) hb)
           have n1_ := Aside0.mk (q0s (by repeat (first | (with_reducible first | exact HB.out | apply q0h | apply q0d | apply q0f) | exact HB.out)) hb)
           clear HO_5
           clear HB
           have HO_5 := n0_
           have HB := n1_
           clear n0_ n1_
           (try clear hb)
           (try clear hb2)
           (try clear hk)
           (try clear hi)
           refine hK.out _ _ ⟨((HB.out.cell (World.block_lt_of_cell? w _ hw442_0)).trans hw442_0),((HB.out.cell (World.block_lt_of_cell? w _ hw442_1)).trans hw442_1),((HB.out.cell (World.block_lt_of_cell? w _ hw442_2)).trans hw442_2),((HB.out.cell (World.block_lt_of_cell? w _ hw442_3)).trans hw442_3),((HB.out.cell (World.block_lt_of_cell? w _ hw443_0)).trans hw443_0),((HB.out.cell (World.block_lt_of_cell? w _ hw443_1)).trans hw443_1),((HB.out.cell (World.block_lt_of_cell? w _ hw443_2)).trans hw443_2),((HB.out.cell (World.block_lt_of_cell? w _ hw443_3)).trans hw443_3)⟩ (fun hHeld => ?_)
           clear hK K
           refine norm_ (a' := ?_) ?_ ?_
           rotate_left
           ·show Act.put _ (some 33) _ = _
            simp only [Act.put,zA,zB,zC,i64_w,i32_w]
            rfl
           refine pure_ (i := 12) (N := some 21) (v := ?_) (a' := ?_) #[true,true,true,true,true,true,true,true,true,true,true,true,true,false,false,false,false,false] rfl rfl (q0r HT_.out (by kernel_rfl)) (fun _ _ _ h => h) (Or.inl ⟨by rfl,?_⟩) ?_ ?_
           rotate_left
           ·intro w'
            go_simp
            with_reducible rfl
           rotate_left
           ·simp only [Act.put,zA,zB,zC,i64_w,i32_w]
            rfl
           refine pure_ (i := 13) (N := some 34) (v := ?_) (a' := ?_) #[true,true,true,true,true,true,true,true,true,true,true,true,true,true,false,false,false,false] rfl rfl (q0r HT_.out (by kernel_rfl)) (fun _ _ _ h => h) (Or.inl ⟨by rfl,?_⟩) ?_ ?_
           rotate_left
           ·intro w'
            go_simp
            with_reducible rfl
           rotate_left
           ·simp only [Act.put,zA,zB,zC,i64_w,i32_w]
            rfl
           refine pure_ (i := 14) (N := some 35) (v := ?_) (a' := ?_) #[true,true,true,true,true,true,true,true,true,true,true,true,true,true,true,false,false,false] rfl rfl (q0r HT_.out (by kernel_rfl)) (fun _ _ _ h => h) (Or.inl ⟨by rfl,?_⟩) ?_ ?_
           rotate_left
           ·intro w'
            go_simp
            with_reducible rfl
           rotate_left
           ·simp only [Act.put,zA,zB,zC,i64_w,i32_w]
            rfl
           refine one_ (i := 15) (N := some 7) #[true,true,true,true,true,true,true,true,true,true,true,true,true,true,true,true,false,false] rfl rfl (one_of HT_.out (by kernel_rfl)) (by decide) (fun K hK => ?_)
           refine box_step ?hg (N := 7) ?hd (cs := #[.string (⟨#[]⟩ : ByteArray),.string (⟨#[]⟩ : ByteArray),.int .i64 0,.int .i64 0]) (t := 45) ?hr ?_;(case hd => rfl);(case hg => rfl);(case hr => first | (go_simp;done) | (go_simp;rfl))
           intro gb449 hg w55 hbox hb
           have n0_ := Aside0.mk (Kd.q0v (Kd.R_elderB (by (with_reducible repeat (first | apply Kd.q0m | apply Kd.q0n | apply Kd.q0o));exact HO_5.out) gb449 (Nat.le_of_eq hg.symm)) hb)
           have n1_ := Aside0.mk (q0s (by repeat (first | (with_reducible first | exact HB.out | apply q0h | apply q0d | apply q0f) | exact HB.out)) hb)
           have n2_ := Aside0.mk (hbox)
           have n3_ := Aside0.mk ((by rw [hg];exact (q0p (by repeat (first | (with_reducible first | exact HB.out | apply q0h | apply q0d | apply q0f) | exact HB.out))) : w.heap.size ≤ gb449))
           have n4_ := Aside0.mk ((by rw [hg];exact (q0p (by repeat (first | (with_reducible first | exact HB.out | apply q0h | apply q0d | apply q0f) | exact HB.out))) : w.heap.size ≤ gb449))
           clear HO_5
           clear HB
           have HO_5 := n0_
           have HB := n1_
           have BK449 := n2_
           have GW449 := n3_
           have GE449 := n4_
           clear n0_ n1_ n2_ n3_ n4_
           clear hb hbox hg
           refine hK.out _ _ ⟨((HB.out.cell (World.block_lt_of_cell? w _ hw442_0)).trans hw442_0),((HB.out.cell (World.block_lt_of_cell? w _ hw442_1)).trans hw442_1),((HB.out.cell (World.block_lt_of_cell? w _ hw442_2)).trans hw442_2),((HB.out.cell (World.block_lt_of_cell? w _ hw442_3)).trans hw442_3),((HB.out.cell (World.block_lt_of_cell? w _ hw443_0)).trans hw443_0),((HB.out.cell (World.block_lt_of_cell? w _ hw443_1)).trans hw443_1),((HB.out.cell (World.block_lt_of_cell? w _ hw443_2)).trans hw443_2),((HB.out.cell (World.block_lt_of_cell? w _ hw443_3)).trans hw443_3)⟩ (fun hHeld => ?_)
           clear hK K
           refine norm_ (a' := ?_) ?_ ?_
           rotate_left
           ·show Act.put _ (some 7) _ = _
            simp only [Act.put,zA,zB,zC,i64_w,i32_w]
            rfl
           exact norm_ (by simp only [putAll,Act.put,zA,zB,zC]) (hCont (gb449) _ ⟨hHeld,(by (with_reducible repeat (first | apply Kd.q0m | apply Kd.q0n | apply Kd.q0o));exact Kd.R_mono HO_5.out (fun _ hk => hk.2)),(by (with_reducible repeat (first | refine q0b ?_ _ | refine q0c ?_ | refine q0a ?_ _));exact BK449.out),GW449.out,GE449.out,(by repeat (first | (with_reducible first | exact HB.out | apply q0h | apply q0d | apply q0f | refine q0g ?_ GE449.out) | exact HB.out))⟩)
          ·skip
           refine box_step ?hg (N := 7) ?hd (cs := #[.string (⟨#[]⟩ : ByteArray),.string (⟨#[]⟩ : ByteArray),.int .i64 0,.int .i64 0]) (t := 45) ?hr ?_;(case hd => rfl);(case hg => rfl);(case hr => first | (go_simp;done) | (go_simp;rfl))
           intro gb449 hg w54 hbox hb
           have n0_ := Aside0.mk (Kd.q0v (Kd.R_elderB (by (with_reducible repeat (first | apply Kd.q0m | apply Kd.q0n | apply Kd.q0o));exact HO_5.out) gb449 (Nat.le_of_eq hg.symm)) hb)
           have n1_ := Aside0.mk (q0s (by repeat (first | (with_reducible first | exact HB.out | apply q0h | apply q0d | apply q0f) | exact HB.out)) hb)
           have n2_ := Aside0.mk (hbox)
           have n3_ := Aside0.mk ((by rw [hg];exact (q0p (by repeat (first | (with_reducible first | exact HB.out | apply q0h | apply q0d | apply q0f) | exact HB.out))) : w.heap.size ≤ gb449))
           have n4_ := Aside0.mk ((by rw [hg];exact (q0p (by repeat (first | (with_reducible first | exact HB.out | apply q0h | apply q0d | apply q0f) | exact HB.out))) : w.heap.size ≤ gb449))
           clear HO_5
           clear HB
           have HO_5 := n0_
           have HB := n1_
           have BK449 := n2_
           have GW449 := n3_
           have GE449 := n4_
           clear n0_ n1_ n2_ n3_ n4_
           clear hb hbox hg
           refine hK.out _ _ ⟨((HB.out.cell (World.block_lt_of_cell? w _ hw442_0)).trans hw442_0),((HB.out.cell (World.block_lt_of_cell? w _ hw442_1)).trans hw442_1),((HB.out.cell (World.block_lt_of_cell? w _ hw442_2)).trans hw442_2),((HB.out.cell (World.block_lt_of_cell? w _ hw442_3)).trans hw442_3),((HB.out.cell (World.block_lt_of_cell? w _ hw443_0)).trans hw443_0),((HB.out.cell (World.block_lt_of_cell? w _ hw443_1)).trans hw443_1),((HB.out.cell (World.block_lt_of_cell? w _ hw443_2)).trans hw443_2),((HB.out.cell (World.block_lt_of_cell? w _ hw443_3)).trans hw443_3)⟩ (fun hHeld => ?_)
           clear hK K
           refine norm_ (a' := ?_) ?_ ?_
           rotate_left
           ·show Act.put _ (some 7) _ = _
            simp only [Act.put,zA,zB,zC,i64_w,i32_w]
            rfl
           refine one_ (i := 11) (N := some 33) #[true,true,true,true,true,true,true,true,true,true,true,true,false,false,false,true,false,false] rfl rfl (one_of HT_.out (by kernel_rfl)) (by decide) (fun K hK => ?_)
           refine goes_ Try.func53 (by kernel_rfl) rfl #[.string ((q0e l0 x6_1).f0),.string ((q0e l0 x6_1).f1),.slice (some ad442) l0.length c0] (by rfl) rfl rfl (by (try simp only [List.map_toArray,List.map_cons,List.map_nil]);first | done | rfl | (simp only [List.length_drop,List.length_take];rfl)) ?_
           with_reducible refine (verdererref27_Find.calls k1 ((q0e l0 x6_1).f0) ((q0e l0 x6_1).f1) _ _ l0 t444 t445 t446 t447 t448 _ ?side1 ?side2 A8.out).mono ?_
           (case side1 => repeat (first | exact (Kd.C_below HR0.out HB.out) | (with_reducible refine Kd.C_alloc ?_ _) | (with_reducible refine Kd.C_drewN ?_ _) | (with_reducible refine Kd.C_drew ?_)))
           (case side2 => exact HC0.out)
           rintro e w55 ⟨rfl,hb⟩
           refine ⟨_,rfl,?_⟩
           have n0_ := Aside0.mk (Kd.q0v (by (with_reducible repeat (first | apply Kd.q0m | apply Kd.q0n | apply Kd.q0o));exact HO_5.out) hb)
           have n1_ := Aside0.mk (q0q (g := gb449) (o := .cells #[.string (⟨#[]⟩ : ByteArray),.string (⟨#[]⟩ : ByteArray),.int .i64 0,.int .i64 0] 45 (0,0)) (by (with_reducible repeat (first | refine q0b ?_ _ | refine q0c ?_ | refine q0a ?_ _));exact BK449.out) hb)
           have n2_ := Aside0.mk (q0s (by repeat (first | (with_reducible first | exact HB.out | apply q0h | apply q0d | apply q0f | refine q0g ?_ GE449.out) | exact HB.out)) hb)
           clear HO_5
           clear BK449
           clear HB
           have HO_5 := n0_
           have BK449 := n1_
           have HB := n2_
           clear n0_ n1_ n2_
           (try clear hb)
           (try clear hb2)
           (try clear hk)
           (try clear hi)
           refine hK.out _ _ ⟨((HB.out.cell (World.block_lt_of_cell? w _ hw442_0)).trans hw442_0),((HB.out.cell (World.block_lt_of_cell? w _ hw442_1)).trans hw442_1),((HB.out.cell (World.block_lt_of_cell? w _ hw442_2)).trans hw442_2),((HB.out.cell (World.block_lt_of_cell? w _ hw442_3)).trans hw442_3),((HB.out.cell (World.block_lt_of_cell? w _ hw443_0)).trans hw443_0),((HB.out.cell (World.block_lt_of_cell? w _ hw443_1)).trans hw443_1),((HB.out.cell (World.block_lt_of_cell? w _ hw443_2)).trans hw443_2),((HB.out.cell (World.block_lt_of_cell? w _ hw443_3)).trans hw443_3)⟩ (fun hHeld => ?_)
           clear hK K
           refine norm_ (a' := ?_) ?_ ?_
           rotate_left
           ·show Act.put _ (some 33) _ = _
            simp only [Act.put,zA,zB,zC,i64_w,i32_w]
            rfl
           refine pure_ (i := 12) (N := some 21) (v := ?_) (a' := ?_) #[true,true,true,true,true,true,true,true,true,true,true,true,true,false,false,true,false,false] rfl rfl (q0r HT_.out (by kernel_rfl)) (fun _ _ _ h => h) (Or.inl ⟨by rfl,?_⟩) ?_ ?_
           rotate_left
           ·intro w'
            go_simp
            with_reducible rfl
           rotate_left
           ·simp only [Act.put,zA,zB,zC,i64_w,i32_w]
            rfl
           refine pure_ (i := 13) (N := some 34) (v := ?_) (a' := ?_) #[true,true,true,true,true,true,true,true,true,true,true,true,true,true,false,true,false,false] rfl rfl (q0r HT_.out (by kernel_rfl)) (fun _ _ _ h => h) (Or.inl ⟨by rfl,?_⟩) ?_ ?_
           rotate_left
           ·intro w'
            go_simp
            with_reducible rfl
           rotate_left
           ·simp only [Act.put,zA,zB,zC,i64_w,i32_w]
            rfl
           refine pure_ (i := 14) (N := some 35) (v := ?_) (a' := ?_) #[true,true,true,true,true,true,true,true,true,true,true,true,true,true,true,true,false,false] rfl rfl (q0r HT_.out (by kernel_rfl)) (fun _ _ _ h => h) (Or.inl ⟨by rfl,?_⟩) ?_ ?_
           rotate_left
           ·intro w'
            go_simp
            with_reducible rfl
           rotate_left
           ·simp only [Act.put,zA,zB,zC,i64_w,i32_w]
            rfl
           exact norm_ (by simp only [putAll,Act.put,zA,zB,zC]) (hCont (gb449) _ ⟨hHeld,(by (with_reducible repeat (first | apply Kd.q0m | apply Kd.q0n | apply Kd.q0o));exact Kd.R_mono HO_5.out (fun _ hk => hk.2)),(by (with_reducible repeat (first | refine q0b ?_ _ | refine q0c ?_ | refine q0a ?_ _));exact BK449.out),GW449.out,GE449.out,(by repeat (first | (with_reducible first | exact HB.out | apply q0h | apply q0d | apply q0f | refine q0g ?_ GE449.out) | exact HB.out))⟩)
         rintro gb449 w56 ⟨hS_,h0_,h1_,h2_,h3_,h4_⟩
         have n0_ : Aside0 (Kd.R k45 45 w56 w.heap.size (fun k_ => k_ ≠ gb449) u5 x5_1) := ⟨h0_⟩
         have n1_ : Aside0 (w56.heap[gb449]? = some (.cells #[.string (⟨#[]⟩ : ByteArray),.string (⟨#[]⟩ : ByteArray),.int .i64 0,.int .i64 0] 45 (0,0))) := ⟨h1_⟩
         have n2_ : Aside0 (w.heap.size ≤ gb449) := ⟨h2_⟩
         have n3_ : Aside0 (w.heap.size ≤ gb449) := ⟨h3_⟩
         have n4_ : Aside0 (Below w.heap.size w w56) := ⟨h4_⟩
         clear HO_5
         clear HB
         clear h0_ h1_ h2_ h3_ h4_
         have HO_5 := n0_
         have BK449 := n1_
         have GW449 := n2_
         have GE449 := n3_
         have HB := n4_
         clear n0_ n1_ n2_ n3_ n4_
         have hHeld : w56.cell? (ad442.add ((x6_1).toNat * 4)) = some (.string ((q0e l0 x6_1).f0)) ∧ w56.cell? ⟨(ad442.add ((x6_1).toNat * 4)).block,(ad442.add ((x6_1).toNat * 4)).off + 1,none⟩ = some (.string ((q0e l0 x6_1).f1)) ∧ w56.cell? ⟨(ad442.add ((x6_1).toNat * 4)).block,(ad442.add ((x6_1).toNat * 4)).off + 2,none⟩ = some (.int .i64 ((q0e l0 x6_1).f2)) ∧ w56.cell? ⟨(ad442.add ((x6_1).toNat * 4)).block,(ad442.add ((x6_1).toNat * 4)).off + 3,none⟩ = some (.int .i64 ((q0e l0 x6_1).f3)) ∧ w56.cell? (ad442.add ((x6_1).toNat * 4)) = some (.string ((q0e l0 x6_1).f0)) ∧ w56.cell? ⟨(ad442.add ((x6_1).toNat * 4)).block,(ad442.add ((x6_1).toNat * 4)).off + 1,none⟩ = some (.string ((q0e l0 x6_1).f1)) ∧ w56.cell? ⟨(ad442.add ((x6_1).toNat * 4)).block,(ad442.add ((x6_1).toNat * 4)).off + 2,none⟩ = some (.int .i64 ((q0e l0 x6_1).f2)) ∧ w56.cell? ⟨(ad442.add ((x6_1).toNat * 4)).block,(ad442.add ((x6_1).toNat * 4)).off + 3,none⟩ = some (.int .i64 ((q0e l0 x6_1).f3)) := hS_
         refine norm_ (a' := ?_) ?_ ?_
         rotate_left
         ·simp only [putAll,Act.put,zA,zB,zC]
          rfl
         refine one_ (i := 16) (N := none) #[true,true,true,true,true,true,true,true,true,true,true,true,true,true,true,true,true,false] rfl rfl (one_of HT_.out (by kernel_rfl)) (by decide) (fun K hK => ?_)
         have hs57 : w56.cell? ⟨gb449,0,none⟩ = some (.string (⟨#[]⟩ : ByteArray)) := (q0i BK449.out 0).trans rfl
         have hfs57 := q0k BK449.out 0
         have hs58 : w56.cell? ⟨gb449,1,none⟩ = some (.string (⟨#[]⟩ : ByteArray)) := (q0i BK449.out 1).trans rfl
         have hfs58 := q0k BK449.out 1
         have hs59 : w56.cell? ⟨gb449,2,none⟩ = some (.int .i64 0) := (q0i BK449.out 2).trans rfl
         have hfs59 := q0k BK449.out 2
         have hs60 : w56.cell? ⟨gb449,3,none⟩ = some (.int .i64 0) := (q0i BK449.out 3).trans rfl
         have hfs60 := q0k BK449.out 3
         refine skip_ (w1 := ?_) (by rfl) rfl ?_ ?_
         rotate_left
         ·go_simp
          rfl
         refine hK.out _ _ ⟨((cell_far (p := ⟨gb449,_,none⟩) (by first | exact Nat.ne_of_lt (Nat.lt_of_lt_of_le (by have := World.block_lt_of_cell? _ _ hw442_0;first | rwa [add_block] at this | exact this) GW449.out) | (rw [add_block];exact Nat.ne_of_lt (Nat.lt_of_lt_of_le (by have := World.block_lt_of_cell? _ _ hw442_0;first | rwa [add_block] at this | exact this) GW449.out)) | (show (Addr.add _ _).block ≠ _;rw [add_block];exact Nat.ne_of_lt (Nat.lt_of_lt_of_le (by have := World.block_lt_of_cell? _ _ hw442_0;first | rwa [add_block] at this | exact this) GW449.out)) | (dsimp only;exact Nat.ne_of_lt (Nat.lt_of_lt_of_le (by have := World.block_lt_of_cell? _ _ hw442_0;first | rwa [add_block] at this | exact this) GW449.out))) _).trans (((cell_far (p := ⟨gb449,_,none⟩) (by first | exact Nat.ne_of_lt (Nat.lt_of_lt_of_le (by have := World.block_lt_of_cell? _ _ hw442_0;first | rwa [add_block] at this | exact this) GW449.out) | (rw [add_block];exact Nat.ne_of_lt (Nat.lt_of_lt_of_le (by have := World.block_lt_of_cell? _ _ hw442_0;first | rwa [add_block] at this | exact this) GW449.out)) | (show (Addr.add _ _).block ≠ _;rw [add_block];exact Nat.ne_of_lt (Nat.lt_of_lt_of_le (by have := World.block_lt_of_cell? _ _ hw442_0;first | rwa [add_block] at this | exact this) GW449.out)) | (dsimp only;exact Nat.ne_of_lt (Nat.lt_of_lt_of_le (by have := World.block_lt_of_cell? _ _ hw442_0;first | rwa [add_block] at this | exact this) GW449.out))) _).trans (((cell_far (p := ⟨gb449,_,none⟩) (by first | exact Nat.ne_of_lt (Nat.lt_of_lt_of_le (by have := World.block_lt_of_cell? _ _ hw442_0;first | rwa [add_block] at this | exact this) GW449.out) | (rw [add_block];exact Nat.ne_of_lt (Nat.lt_of_lt_of_le (by have := World.block_lt_of_cell? _ _ hw442_0;first | rwa [add_block] at this | exact this) GW449.out)) | (show (Addr.add _ _).block ≠ _;rw [add_block];exact Nat.ne_of_lt (Nat.lt_of_lt_of_le (by have := World.block_lt_of_cell? _ _ hw442_0;first | rwa [add_block] at this | exact this) GW449.out)) | (dsimp only;exact Nat.ne_of_lt (Nat.lt_of_lt_of_le (by have := World.block_lt_of_cell? _ _ hw442_0;first | rwa [add_block] at this | exact this) GW449.out))) _).trans (((cell_far (p := ⟨gb449,_,none⟩) (by first | exact Nat.ne_of_lt (Nat.lt_of_lt_of_le (by have := World.block_lt_of_cell? _ _ hw442_0;first | rwa [add_block] at this | exact this) GW449.out) | (rw [add_block];exact Nat.ne_of_lt (Nat.lt_of_lt_of_le (by have := World.block_lt_of_cell? _ _ hw442_0;first | rwa [add_block] at this | exact this) GW449.out)) | (show (Addr.add _ _).block ≠ _;rw [add_block];exact Nat.ne_of_lt (Nat.lt_of_lt_of_le (by have := World.block_lt_of_cell? _ _ hw442_0;first | rwa [add_block] at this | exact this) GW449.out)) | (dsimp only;exact Nat.ne_of_lt (Nat.lt_of_lt_of_le (by have := World.block_lt_of_cell? _ _ hw442_0;first | rwa [add_block] at this | exact this) GW449.out))) _).trans (hHeld.1)))))))),((cell_far (p := ⟨gb449,_,none⟩) (by first | exact Nat.ne_of_lt (Nat.lt_of_lt_of_le (by have := World.block_lt_of_cell? _ _ hw442_1;first | rwa [add_block] at this | exact this) GW449.out) | (rw [add_block];exact Nat.ne_of_lt (Nat.lt_of_lt_of_le (by have := World.block_lt_of_cell? _ _ hw442_1;first | rwa [add_block] at this | exact this) GW449.out)) | (show (Addr.add _ _).block ≠ _;rw [add_block];exact Nat.ne_of_lt (Nat.lt_of_lt_of_le (by have := World.block_lt_of_cell? _ _ hw442_1;first | rwa [add_block] at this | exact this) GW449.out)) | (dsimp only;exact Nat.ne_of_lt (Nat.lt_of_lt_of_le (by have := World.block_lt_of_cell? _ _ hw442_1;first | rwa [add_block] at this | exact this) GW449.out))) _).trans (((cell_far (p := ⟨gb449,_,none⟩) (by first | exact Nat.ne_of_lt (Nat.lt_of_lt_of_le (by have := World.block_lt_of_cell? _ _ hw442_1;first | rwa [add_block] at this | exact this) GW449.out) | (rw [add_block];exact Nat.ne_of_lt (Nat.lt_of_lt_of_le (by have := World.block_lt_of_cell? _ _ hw442_1;first | rwa [add_block] at this | exact this) GW449.out)) | (show (Addr.add _ _).block ≠ _;rw [add_block];exact Nat.ne_of_lt (Nat.lt_of_lt_of_le (by have := World.block_lt_of_cell? _ _ hw442_1;first | rwa [add_block] at this | exact this) GW449.out)) | (dsimp only;exact Nat.ne_of_lt (Nat.lt_of_lt_of_le (by have := World.block_lt_of_cell? _ _ hw442_1;first | rwa [add_block] at this | exact this) GW449.out))) _).trans (((cell_far (p := ⟨gb449,_,none⟩) (by first | exact Nat.ne_of_lt (Nat.lt_of_lt_of_le (by have := World.block_lt_of_cell? _ _ hw442_1;first | rwa [add_block] at this | exact this) GW449.out) | (rw [add_block];exact Nat.ne_of_lt (Nat.lt_of_lt_of_le (by have := World.block_lt_of_cell? _ _ hw442_1;first | rwa [add_block] at this | exact this) GW449.out)) | (show (Addr.add _ _).block ≠ _;rw [add_block];exact Nat.ne_of_lt (Nat.lt_of_lt_of_le (by have := World.block_lt_of_cell? _ _ hw442_1;first | rwa [add_block] at this | exact this) GW449.out)) | (dsimp only;exact Nat.ne_of_lt (Nat.lt_of_lt_of_le (by have := World.block_lt_of_cell? _ _ hw442_1;first | rwa [add_block] at this | exact this) GW449.out))) _).trans (((cell_far (p := ⟨gb449,_,none⟩) (by first | exact Nat.ne_of_lt (Nat.lt_of_lt_of_le (by have := World.block_lt_of_cell? _ _ hw442_1;first | rwa [add_block] at this | exact this) GW449.out) | (rw [add_block];exact Nat.ne_of_lt (Nat.lt_of_lt_of_le (by have := World.block_lt_of_cell? _ _ hw442_1;first | rwa [add_block] at this | exact this) GW449.out)) | (show (Addr.add _ _).block ≠ _;rw [add_block];exact Nat.ne_of_lt (Nat.lt_of_lt_of_le (by have := World.block_lt_of_cell? _ _ hw442_1;first | rwa [add_block] at this | exact this) GW449.out)) | (dsimp only;exact Nat.ne_of_lt (Nat.lt_of_lt_of_le (by have := World.block_lt_of_cell? _ _ hw442_1;first | rwa [add_block] at this | exact this) GW449.out))) _).trans (hHeld.2.1)))))))),((cell_far (p := ⟨gb449,_,none⟩) (by first | exact Nat.ne_of_lt (Nat.lt_of_lt_of_le (by have := World.block_lt_of_cell? _ _ hw442_2;first | rwa [add_block] at this | exact this) GW449.out) | (rw [add_block];exact Nat.ne_of_lt (Nat.lt_of_lt_of_le (by have := World.block_lt_of_cell? _ _ hw442_2;first | rwa [add_block] at this | exact this) GW449.out)) | (show (Addr.add _ _).block ≠ _;rw [add_block];exact Nat.ne_of_lt (Nat.lt_of_lt_of_le (by have := World.block_lt_of_cell? _ _ hw442_2;first | rwa [add_block] at this | exact this) GW449.out)) | (dsimp only;exact Nat.ne_of_lt (Nat.lt_of_lt_of_le (by have := World.block_lt_of_cell? _ _ hw442_2;first | rwa [add_block] at this | exact this) GW449.out))) _).trans (((cell_far (p := ⟨gb449,_,none⟩) (by first | exact Nat.ne_of_lt (Nat.lt_of_lt_of_le (by have := World.block_lt_of_cell? _ _ hw442_2;first | rwa [add_block] at this | exact this) GW449.out) | (rw [add_block];exact Nat.ne_of_lt (Nat.lt_of_lt_of_le (by have := World.block_lt_of_cell? _ _ hw442_2;first | rwa [add_block] at this | exact this) GW449.out)) | (show (Addr.add _ _).block ≠ _;rw [add_block];exact Nat.ne_of_lt (Nat.lt_of_lt_of_le (by have := World.block_lt_of_cell? _ _ hw442_2;first | rwa [add_block] at this | exact this) GW449.out)) | (dsimp only;exact Nat.ne_of_lt (Nat.lt_of_lt_of_le (by have := World.block_lt_of_cell? _ _ hw442_2;first | rwa [add_block] at this | exact this) GW449.out))) _).trans (((cell_far (p := ⟨gb449,_,none⟩) (by first | exact Nat.ne_of_lt (Nat.lt_of_lt_of_le (by have := World.block_lt_of_cell? _ _ hw442_2;first | rwa [add_block] at this | exact this) GW449.out) | (rw [add_block];exact Nat.ne_of_lt (Nat.lt_of_lt_of_le (by have := World.block_lt_of_cell? _ _ hw442_2;first | rwa [add_block] at this | exact this) GW449.out)) | (show (Addr.add _ _).block ≠ _;rw [add_block];exact Nat.ne_of_lt (Nat.lt_of_lt_of_le (by have := World.block_lt_of_cell? _ _ hw442_2;first | rwa [add_block] at this | exact this) GW449.out)) | (dsimp only;exact Nat.ne_of_lt (Nat.lt_of_lt_of_le (by have := World.block_lt_of_cell? _ _ hw442_2;first | rwa [add_block] at this | exact this) GW449.out))) _).trans (((cell_far (p := ⟨gb449,_,none⟩) (by first | exact Nat.ne_of_lt (Nat.lt_of_lt_of_le (by have := World.block_lt_of_cell? _ _ hw442_2;first | rwa [add_block] at this | exact this) GW449.out) | (rw [add_block];exact Nat.ne_of_lt (Nat.lt_of_lt_of_le (by have := World.block_lt_of_cell? _ _ hw442_2;first | rwa [add_block] at this | exact this) GW449.out)) | (show (Addr.add _ _).block ≠ _;rw [add_block];exact Nat.ne_of_lt (Nat.lt_of_lt_of_le (by have := World.block_lt_of_cell? _ _ hw442_2;first | rwa [add_block] at this | exact this) GW449.out)) | (dsimp only;exact Nat.ne_of_lt (Nat.lt_of_lt_of_le (by have := World.block_lt_of_cell? _ _ hw442_2;first | rwa [add_block] at this | exact this) GW449.out))) _).trans (hHeld.2.2.1)))))))),((cell_far (p := ⟨gb449,_,none⟩) (by first | exact Nat.ne_of_lt (Nat.lt_of_lt_of_le (by have := World.block_lt_of_cell? _ _ hw442_3;first | rwa [add_block] at this | exact this) GW449.out) | (rw [add_block];exact Nat.ne_of_lt (Nat.lt_of_lt_of_le (by have := World.block_lt_of_cell? _ _ hw442_3;first | rwa [add_block] at this | exact this) GW449.out)) | (show (Addr.add _ _).block ≠ _;rw [add_block];exact Nat.ne_of_lt (Nat.lt_of_lt_of_le (by have := World.block_lt_of_cell? _ _ hw442_3;first | rwa [add_block] at this | exact this) GW449.out)) | (dsimp only;exact Nat.ne_of_lt (Nat.lt_of_lt_of_le (by have := World.block_lt_of_cell? _ _ hw442_3;first | rwa [add_block] at this | exact this) GW449.out))) _).trans (((cell_far (p := ⟨gb449,_,none⟩) (by first | exact Nat.ne_of_lt (Nat.lt_of_lt_of_le (by have := World.block_lt_of_cell? _ _ hw442_3;first | rwa [add_block] at this | exact this) GW449.out) | (rw [add_block];exact Nat.ne_of_lt (Nat.lt_of_lt_of_le (by have := World.block_lt_of_cell? _ _ hw442_3;first | rwa [add_block] at this | exact this) GW449.out)) | (show (Addr.add _ _).block ≠ _;rw [add_block];exact Nat.ne_of_lt (Nat.lt_of_lt_of_le (by have := World.block_lt_of_cell? _ _ hw442_3;first | rwa [add_block] at this | exact this) GW449.out)) | (dsimp only;exact Nat.ne_of_lt (Nat.lt_of_lt_of_le (by have := World.block_lt_of_cell? _ _ hw442_3;first | rwa [add_block] at this | exact this) GW449.out))) _).trans (((cell_far (p := ⟨gb449,_,none⟩) (by first | exact Nat.ne_of_lt (Nat.lt_of_lt_of_le (by have := World.block_lt_of_cell? _ _ hw442_3;first | rwa [add_block] at this | exact this) GW449.out) | (rw [add_block];exact Nat.ne_of_lt (Nat.lt_of_lt_of_le (by have := World.block_lt_of_cell? _ _ hw442_3;first | rwa [add_block] at this | exact this) GW449.out)) | (show (Addr.add _ _).block ≠ _;rw [add_block];exact Nat.ne_of_lt (Nat.lt_of_lt_of_le (by have := World.block_lt_of_cell? _ _ hw442_3;first | rwa [add_block] at this | exact this) GW449.out)) | (dsimp only;exact Nat.ne_of_lt (Nat.lt_of_lt_of_le (by have := World.block_lt_of_cell? _ _ hw442_3;first | rwa [add_block] at this | exact this) GW449.out))) _).trans (((cell_far (p := ⟨gb449,_,none⟩) (by first | exact Nat.ne_of_lt (Nat.lt_of_lt_of_le (by have := World.block_lt_of_cell? _ _ hw442_3;first | rwa [add_block] at this | exact this) GW449.out) | (rw [add_block];exact Nat.ne_of_lt (Nat.lt_of_lt_of_le (by have := World.block_lt_of_cell? _ _ hw442_3;first | rwa [add_block] at this | exact this) GW449.out)) | (show (Addr.add _ _).block ≠ _;rw [add_block];exact Nat.ne_of_lt (Nat.lt_of_lt_of_le (by have := World.block_lt_of_cell? _ _ hw442_3;first | rwa [add_block] at this | exact this) GW449.out)) | (dsimp only;exact Nat.ne_of_lt (Nat.lt_of_lt_of_le (by have := World.block_lt_of_cell? _ _ hw442_3;first | rwa [add_block] at this | exact this) GW449.out))) _).trans (hHeld.2.2.2.1)))))))),((cell_far (p := ⟨gb449,_,none⟩) (by first | exact Nat.ne_of_lt (Nat.lt_of_lt_of_le (by have := World.block_lt_of_cell? _ _ hw443_0;first | rwa [add_block] at this | exact this) GW449.out) | (rw [add_block];exact Nat.ne_of_lt (Nat.lt_of_lt_of_le (by have := World.block_lt_of_cell? _ _ hw443_0;first | rwa [add_block] at this | exact this) GW449.out)) | (show (Addr.add _ _).block ≠ _;rw [add_block];exact Nat.ne_of_lt (Nat.lt_of_lt_of_le (by have := World.block_lt_of_cell? _ _ hw443_0;first | rwa [add_block] at this | exact this) GW449.out)) | (dsimp only;exact Nat.ne_of_lt (Nat.lt_of_lt_of_le (by have := World.block_lt_of_cell? _ _ hw443_0;first | rwa [add_block] at this | exact this) GW449.out))) _).trans (((cell_far (p := ⟨gb449,_,none⟩) (by first | exact Nat.ne_of_lt (Nat.lt_of_lt_of_le (by have := World.block_lt_of_cell? _ _ hw443_0;first | rwa [add_block] at this | exact this) GW449.out) | (rw [add_block];exact Nat.ne_of_lt (Nat.lt_of_lt_of_le (by have := World.block_lt_of_cell? _ _ hw443_0;first | rwa [add_block] at this | exact this) GW449.out)) | (show (Addr.add _ _).block ≠ _;rw [add_block];exact Nat.ne_of_lt (Nat.lt_of_lt_of_le (by have := World.block_lt_of_cell? _ _ hw443_0;first | rwa [add_block] at this | exact this) GW449.out)) | (dsimp only;exact Nat.ne_of_lt (Nat.lt_of_lt_of_le (by have := World.block_lt_of_cell? _ _ hw443_0;first | rwa [add_block] at this | exact this) GW449.out))) _).trans (((cell_far (p := ⟨gb449,_,none⟩) (by first | exact Nat.ne_of_lt (Nat.lt_of_lt_of_le (by have := World.block_lt_of_cell? _ _ hw443_0;first | rwa [add_block] at this | exact this) GW449.out) | (rw [add_block];exact Nat.ne_of_lt (Nat.lt_of_lt_of_le (by have := World.block_lt_of_cell? _ _ hw443_0;first | rwa [add_block] at this | exact this) GW449.out)) | (show (Addr.add _ _).block ≠ _;rw [add_block];exact Nat.ne_of_lt (Nat.lt_of_lt_of_le (by have := World.block_lt_of_cell? _ _ hw443_0;first | rwa [add_block] at this | exact this) GW449.out)) | (dsimp only;exact Nat.ne_of_lt (Nat.lt_of_lt_of_le (by have := World.block_lt_of_cell? _ _ hw443_0;first | rwa [add_block] at this | exact this) GW449.out))) _).trans (((cell_far (p := ⟨gb449,_,none⟩) (by first | exact Nat.ne_of_lt (Nat.lt_of_lt_of_le (by have := World.block_lt_of_cell? _ _ hw443_0;first | rwa [add_block] at this | exact this) GW449.out) | (rw [add_block];exact Nat.ne_of_lt (Nat.lt_of_lt_of_le (by have := World.block_lt_of_cell? _ _ hw443_0;first | rwa [add_block] at this | exact this) GW449.out)) | (show (Addr.add _ _).block ≠ _;rw [add_block];exact Nat.ne_of_lt (Nat.lt_of_lt_of_le (by have := World.block_lt_of_cell? _ _ hw443_0;first | rwa [add_block] at this | exact this) GW449.out)) | (dsimp only;exact Nat.ne_of_lt (Nat.lt_of_lt_of_le (by have := World.block_lt_of_cell? _ _ hw443_0;first | rwa [add_block] at this | exact this) GW449.out))) _).trans (hHeld.2.2.2.2.1)))))))),((cell_far (p := ⟨gb449,_,none⟩) (by first | exact Nat.ne_of_lt (Nat.lt_of_lt_of_le (by have := World.block_lt_of_cell? _ _ hw443_1;first | rwa [add_block] at this | exact this) GW449.out) | (rw [add_block];exact Nat.ne_of_lt (Nat.lt_of_lt_of_le (by have := World.block_lt_of_cell? _ _ hw443_1;first | rwa [add_block] at this | exact this) GW449.out)) | (show (Addr.add _ _).block ≠ _;rw [add_block];exact Nat.ne_of_lt (Nat.lt_of_lt_of_le (by have := World.block_lt_of_cell? _ _ hw443_1;first | rwa [add_block] at this | exact this) GW449.out)) | (dsimp only;exact Nat.ne_of_lt (Nat.lt_of_lt_of_le (by have := World.block_lt_of_cell? _ _ hw443_1;first | rwa [add_block] at this | exact this) GW449.out))) _).trans (((cell_far (p := ⟨gb449,_,none⟩) (by first | exact Nat.ne_of_lt (Nat.lt_of_lt_of_le (by have := World.block_lt_of_cell? _ _ hw443_1;first | rwa [add_block] at this | exact this) GW449.out) | (rw [add_block];exact Nat.ne_of_lt (Nat.lt_of_lt_of_le (by have := World.block_lt_of_cell? _ _ hw443_1;first | rwa [add_block] at this | exact this) GW449.out)) | (show (Addr.add _ _).block ≠ _;rw [add_block];exact Nat.ne_of_lt (Nat.lt_of_lt_of_le (by have := World.block_lt_of_cell? _ _ hw443_1;first | rwa [add_block] at this | exact this) GW449.out)) | (dsimp only;exact Nat.ne_of_lt (Nat.lt_of_lt_of_le (by have := World.block_lt_of_cell? _ _ hw443_1;first | rwa [add_block] at this | exact this) GW449.out))) _).trans (((cell_far (p := ⟨gb449,_,none⟩) (by first | exact Nat.ne_of_lt (Nat.lt_of_lt_of_le (by have := World.block_lt_of_cell? _ _ hw443_1;first | rwa [add_block] at this | exact this) GW449.out) | (rw [add_block];exact Nat.ne_of_lt (Nat.lt_of_lt_of_le (by have := World.block_lt_of_cell? _ _ hw443_1;first | rwa [add_block] at this | exact this) GW449.out)) | (show (Addr.add _ _).block ≠ _;rw [add_block];exact Nat.ne_of_lt (Nat.lt_of_lt_of_le (by have := World.block_lt_of_cell? _ _ hw443_1;first | rwa [add_block] at this | exact this) GW449.out)) | (dsimp only;exact Nat.ne_of_lt (Nat.lt_of_lt_of_le (by have := World.block_lt_of_cell? _ _ hw443_1;first | rwa [add_block] at this | exact this) GW449.out))) _).trans (((cell_far (p := ⟨gb449,_,none⟩) (by first | exact Nat.ne_of_lt (Nat.lt_of_lt_of_le (by have := World.block_lt_of_cell? _ _ hw443_1;first | rwa [add_block] at this | exact this) GW449.out) | (rw [add_block];exact Nat.ne_of_lt (Nat.lt_of_lt_of_le (by have := World.block_lt_of_cell? _ _ hw443_1;first | rwa [add_block] at this | exact this) GW449.out)) | (show (Addr.add _ _).block ≠ _;rw [add_block];exact Nat.ne_of_lt (Nat.lt_of_lt_of_le (by have := World.block_lt_of_cell? _ _ hw443_1;first | rwa [add_block] at this | exact this) GW449.out)) | (dsimp only;exact Nat.ne_of_lt (Nat.lt_of_lt_of_le (by have := World.block_lt_of_cell? _ _ hw443_1;first | rwa [add_block] at this | exact this) GW449.out))) _).trans (hHeld.2.2.2.2.2.1)))))))),((cell_far (p := ⟨gb449,_,none⟩) (by first | exact Nat.ne_of_lt (Nat.lt_of_lt_of_le (by have := World.block_lt_of_cell? _ _ hw443_2;first | rwa [add_block] at this | exact this) GW449.out) | (rw [add_block];exact Nat.ne_of_lt (Nat.lt_of_lt_of_le (by have := World.block_lt_of_cell? _ _ hw443_2;first | rwa [add_block] at this | exact this) GW449.out)) | (show (Addr.add _ _).block ≠ _;rw [add_block];exact Nat.ne_of_lt (Nat.lt_of_lt_of_le (by have := World.block_lt_of_cell? _ _ hw443_2;first | rwa [add_block] at this | exact this) GW449.out)) | (dsimp only;exact Nat.ne_of_lt (Nat.lt_of_lt_of_le (by have := World.block_lt_of_cell? _ _ hw443_2;first | rwa [add_block] at this | exact this) GW449.out))) _).trans (((cell_far (p := ⟨gb449,_,none⟩) (by first | exact Nat.ne_of_lt (Nat.lt_of_lt_of_le (by have := World.block_lt_of_cell? _ _ hw443_2;first | rwa [add_block] at this | exact this) GW449.out) | (rw [add_block];exact Nat.ne_of_lt (Nat.lt_of_lt_of_le (by have := World.block_lt_of_cell? _ _ hw443_2;first | rwa [add_block] at this | exact this) GW449.out)) | (show (Addr.add _ _).block ≠ _;rw [add_block];exact Nat.ne_of_lt (Nat.lt_of_lt_of_le (by have := World.block_lt_of_cell? _ _ hw443_2;first | rwa [add_block] at this | exact this) GW449.out)) | (dsimp only;exact Nat.ne_of_lt (Nat.lt_of_lt_of_le (by have := World.block_lt_of_cell? _ _ hw443_2;first | rwa [add_block] at this | exact this) GW449.out))) _).trans (((cell_far (p := ⟨gb449,_,none⟩) (by first | exact Nat.ne_of_lt (Nat.lt_of_lt_of_le (by have := World.block_lt_of_cell? _ _ hw443_2;first | rwa [add_block] at this | exact this) GW449.out) | (rw [add_block];exact Nat.ne_of_lt (Nat.lt_of_lt_of_le (by have := World.block_lt_of_cell? _ _ hw443_2;first | rwa [add_block] at this | exact this) GW449.out)) | (show (Addr.add _ _).block ≠ _;rw [add_block];exact Nat.ne_of_lt (Nat.lt_of_lt_of_le (by have := World.block_lt_of_cell? _ _ hw443_2;first | rwa [add_block] at this | exact this) GW449.out)) | (dsimp only;exact Nat.ne_of_lt (Nat.lt_of_lt_of_le (by have := World.block_lt_of_cell? _ _ hw443_2;first | rwa [add_block] at this | exact this) GW449.out))) _).trans (((cell_far (p := ⟨gb449,_,none⟩) (by first | exact Nat.ne_of_lt (Nat.lt_of_lt_of_le (by have := World.block_lt_of_cell? _ _ hw443_2;first | rwa [add_block] at this | exact this) GW449.out) | (rw [add_block];exact Nat.ne_of_lt (Nat.lt_of_lt_of_le (by have := World.block_lt_of_cell? _ _ hw443_2;first | rwa [add_block] at this | exact this) GW449.out)) | (show (Addr.add _ _).block ≠ _;rw [add_block];exact Nat.ne_of_lt (Nat.lt_of_lt_of_le (by have := World.block_lt_of_cell? _ _ hw443_2;first | rwa [add_block] at this | exact this) GW449.out)) | (dsimp only;exact Nat.ne_of_lt (Nat.lt_of_lt_of_le (by have := World.block_lt_of_cell? _ _ hw443_2;first | rwa [add_block] at this | exact this) GW449.out))) _).trans (hHeld.2.2.2.2.2.2.1)))))))),((cell_far (p := ⟨gb449,_,none⟩) (by first | exact Nat.ne_of_lt (Nat.lt_of_lt_of_le (by have := World.block_lt_of_cell? _ _ hw443_3;first | rwa [add_block] at this | exact this) GW449.out) | (rw [add_block];exact Nat.ne_of_lt (Nat.lt_of_lt_of_le (by have := World.block_lt_of_cell? _ _ hw443_3;first | rwa [add_block] at this | exact this) GW449.out)) | (show (Addr.add _ _).block ≠ _;rw [add_block];exact Nat.ne_of_lt (Nat.lt_of_lt_of_le (by have := World.block_lt_of_cell? _ _ hw443_3;first | rwa [add_block] at this | exact this) GW449.out)) | (dsimp only;exact Nat.ne_of_lt (Nat.lt_of_lt_of_le (by have := World.block_lt_of_cell? _ _ hw443_3;first | rwa [add_block] at this | exact this) GW449.out))) _).trans (((cell_far (p := ⟨gb449,_,none⟩) (by first | exact Nat.ne_of_lt (Nat.lt_of_lt_of_le (by have := World.block_lt_of_cell? _ _ hw443_3;first | rwa [add_block] at this | exact this) GW449.out) | (rw [add_block];exact Nat.ne_of_lt (Nat.lt_of_lt_of_le (by have := World.block_lt_of_cell? _ _ hw443_3;first | rwa [add_block] at this | exact this) GW449.out)) | (show (Addr.add _ _).block ≠ _;rw [add_block];exact Nat.ne_of_lt (Nat.lt_of_lt_of_le (by have := World.block_lt_of_cell? _ _ hw443_3;first | rwa [add_block] at this | exact this) GW449.out)) | (dsimp only;exact Nat.ne_of_lt (Nat.lt_of_lt_of_le (by have := World.block_lt_of_cell? _ _ hw443_3;first | rwa [add_block] at this | exact this) GW449.out))) _).trans (((cell_far (p := ⟨gb449,_,none⟩) (by first | exact Nat.ne_of_lt (Nat.lt_of_lt_of_le (by have := World.block_lt_of_cell? _ _ hw443_3;first | rwa [add_block] at this | exact this) GW449.out) | (rw [add_block];exact Nat.ne_of_lt (Nat.lt_of_lt_of_le (by have := World.block_lt_of_cell? _ _ hw443_3;first | rwa [add_block] at this | exact this) GW449.out)) | (show (Addr.add _ _).block ≠ _;rw [add_block];exact Nat.ne_of_lt (Nat.lt_of_lt_of_le (by have := World.block_lt_of_cell? _ _ hw443_3;first | rwa [add_block] at this | exact this) GW449.out)) | (dsimp only;exact Nat.ne_of_lt (Nat.lt_of_lt_of_le (by have := World.block_lt_of_cell? _ _ hw443_3;first | rwa [add_block] at this | exact this) GW449.out))) _).trans (((cell_far (p := ⟨gb449,_,none⟩) (by first | exact Nat.ne_of_lt (Nat.lt_of_lt_of_le (by have := World.block_lt_of_cell? _ _ hw443_3;first | rwa [add_block] at this | exact this) GW449.out) | (rw [add_block];exact Nat.ne_of_lt (Nat.lt_of_lt_of_le (by have := World.block_lt_of_cell? _ _ hw443_3;first | rwa [add_block] at this | exact this) GW449.out)) | (show (Addr.add _ _).block ≠ _;rw [add_block];exact Nat.ne_of_lt (Nat.lt_of_lt_of_le (by have := World.block_lt_of_cell? _ _ hw443_3;first | rwa [add_block] at this | exact this) GW449.out)) | (dsimp only;exact Nat.ne_of_lt (Nat.lt_of_lt_of_le (by have := World.block_lt_of_cell? _ _ hw443_3;first | rwa [add_block] at this | exact this) GW449.out))) _).trans (hHeld.2.2.2.2.2.2.2))))))))⟩ (fun hHeld => ?_)
         clear hK K
         refine pure_ (i := 17) (N := some 8) (v := ?_) (a' := ?_) #[true,true,true,true,true,true,true,true,true,true,true,true,true,true,true,true,true,true] rfl rfl (q0r HT_.out (by kernel_rfl)) (fun _ _ _ h => h) (Or.inl ⟨by rfl,?_⟩) ?_ ?_
         rotate_left
         ·intro w'
          go_simp
          with_reducible rfl
         rotate_left
         ·simp only [Act.put,zA,zB,zC,i64_w,i32_w]
          rfl
         refine done_ (done_of HT_.out (by kernel_rfl)) ?_
         try go_wp2
         have n0_ : Aside0 (Kd.R k45 45 ((((w56.setCell ⟨gb449,0,none⟩ (.string t444)).setCell ⟨gb449,1,none⟩ (.string t445)).setCell ⟨gb449,2,none⟩ (.int .i64 t446)).setCell ⟨gb449,3,none⟩ (.int .i64 t447)) w.heap.size (fun k_ => k_ ≠ gb449) u5 x5_1) := ⟨by (with_reducible repeat (first | apply Kd.q0m | apply Kd.q0n | apply Kd.q0o));exact Kd.R_mono (Kd.R_far (p := ⟨gb449,3,none⟩) (Kd.R_far (p := ⟨gb449,2,none⟩) (Kd.R_far (p := ⟨gb449,1,none⟩) (Kd.R_far (p := ⟨gb449,0,none⟩) (Kd.R_mono HO_5.out (fun k_ hk => (⟨hk,hk⟩ : _ ∧ k_ ≠ gb449))) (fun _ hk => hk.2) (.string t444)) (fun _ hk => hk.2) (.string t445)) (fun _ hk => hk.2) (.int .i64 t446)) (fun _ hk => hk.2) (.int .i64 t447)) (fun _ hk => hk.1)⟩
         have n1_ : Aside0 (((((w56.setCell ⟨gb449,0,none⟩ (.string t444)).setCell ⟨gb449,1,none⟩ (.string t445)).setCell ⟨gb449,2,none⟩ (.int .i64 t446)).setCell ⟨gb449,3,none⟩ (.int .i64 t447)).heap[gb449]? = some (.cells #[.string t444,.string t445,.int .i64 t446,.int .i64 t447] 45 (0,0))) := ⟨by (with_reducible repeat (first | refine q0b ?_ _ | refine q0c ?_ | refine q0a ?_ _));refine q0t (cs := #[.string t444,.string t445,.int .i64 t446,.int .i64 0]) ?_ 3 _ rfl;(with_reducible repeat (first | refine q0b ?_ _ | refine q0c ?_ | refine q0a ?_ _));refine q0t (cs := #[.string t444,.string t445,.int .i64 0,.int .i64 0]) ?_ 2 _ rfl;(with_reducible repeat (first | refine q0b ?_ _ | refine q0c ?_ | refine q0a ?_ _));refine q0t (cs := #[.string t444,.string (⟨#[]⟩ : ByteArray),.int .i64 0,.int .i64 0]) ?_ 1 _ rfl;(with_reducible repeat (first | refine q0b ?_ _ | refine q0c ?_ | refine q0a ?_ _));refine q0t (cs := #[.string (⟨#[]⟩ : ByteArray),.string (⟨#[]⟩ : ByteArray),.int .i64 0,.int .i64 0]) ?_ 0 _ rfl;(with_reducible repeat (first | refine q0b ?_ _ | refine q0c ?_ | refine q0a ?_ _));exact BK449.out⟩
         have n2_ : Aside0 (Below w.heap.size w ((((w56.setCell ⟨gb449,0,none⟩ (.string t444)).setCell ⟨gb449,1,none⟩ (.string t445)).setCell ⟨gb449,2,none⟩ (.int .i64 t446)).setCell ⟨gb449,3,none⟩ (.int .i64 t447))) := ⟨by repeat (first | (with_reducible first | exact HB.out | apply q0h | apply q0d | apply q0f | refine q0g ?_ GE449.out) | exact HB.out)⟩
         (try clear HO_5)
         (try clear BK449)
         (try clear HB)
         generalize ((((w56.setCell ⟨gb449,0,none⟩ (.string t444)).setCell ⟨gb449,1,none⟩ (.string t445)).setCell ⟨gb449,2,none⟩ (.int .i64 t446)).setCell ⟨gb449,3,none⟩ (.int .i64 t447)) = w61 at n0_ n1_ n2_ ⊢
         have HO_5 := n0_
         have BK449 := n1_
         have HB := n2_
         clear n0_ n1_ n2_
         have n0_ := Aside0.mk (Kd.q0o HO_5.out)
         have n1_ := Aside0.mk (q0c BK449.out)
         have n2_ := Aside0.mk (q0f HB.out)
         clear HO_5
         clear BK449
         clear HB
         have HO_5 := n0_
         have BK449 := n1_
         have HB := n2_
         clear n0_ n1_ n2_
         have p450 : 0 ≤ (x6_1 : Int) := of_decide_eq_true (by first | (with_reducible assumption) | assumption)
         have q450 : x6_1 < (l0.length : Int) := of_decide_eq_true (by first | (with_reducible assumption) | assumption)
         obtain ⟨ad450,e450,hx450_0,hx450_1,hx450_2,hx450_3⟩ := at_T45 HR0.out x6_1 p450 q450
         have hw450_3 := hx450_3
         have hw450_2 := hx450_2
         have hw450_1 := hx450_1
         have hw450_0 := hx450_0
         obtain rfl : ad442 = ad450 := (by injection e450)
         replace hx450_0 := (HB.out.cell (World.block_lt_of_cell? w _ hx450_0)).trans hx450_0
         replace hx450_1 := (HB.out.cell (World.block_lt_of_cell? w _ hx450_1)).trans hx450_1
         replace hx450_2 := (HB.out.cell (World.block_lt_of_cell? w _ hx450_2)).trans hx450_2
         replace hx450_3 := (HB.out.cell (World.block_lt_of_cell? w _ hx450_3)).trans hx450_3
         replace p450 := eq_true p450
         replace q450 := eq_true q450
         refine start_ (n := 6) (S := fun w' => w'.cell? ⟨gb449,0,none⟩ = some (.string t444) ∧ w'.cell? ⟨gb449,1,none⟩ = some (.string t445) ∧ w'.cell? ⟨gb449,2,none⟩ = some (.int .i64 t446) ∧ w'.cell? ⟨gb449,3,none⟩ = some (.int .i64 t447) ∧ w'.cell? (ad442.add ((x6_1).toNat * 4)) = some (.string ((q0e l0 x6_1).f0)) ∧ w'.cell? ⟨(ad442.add ((x6_1).toNat * 4)).block,(ad442.add ((x6_1).toNat * 4)).off + 1,none⟩ = some (.string ((q0e l0 x6_1).f1)) ∧ w'.cell? ⟨(ad442.add ((x6_1).toNat * 4)).block,(ad442.add ((x6_1).toNat * 4)).off + 2,none⟩ = some (.int .i64 ((q0e l0 x6_1).f2)) ∧ w'.cell? ⟨(ad442.add ((x6_1).toNat * 4)).block,(ad442.add ((x6_1).toNat * 4)).off + 3,none⟩ = some (.int .i64 ((q0e l0 x6_1).f3))) (ds := []) #[false,false,false,false,false,false] (by kernel_rfl) rfl rfl ⟨(q0i BK449.out 0).trans rfl,(q0i BK449.out 1).trans rfl,(q0i BK449.out 2).trans rfl,(q0i BK449.out 3).trans rfl,((HB.out.cell (World.block_lt_of_cell? w _ hw450_0)).trans hw450_0),((HB.out.cell (World.block_lt_of_cell? w _ hw450_1)).trans hw450_1),((HB.out.cell (World.block_lt_of_cell? w _ hw450_2)).trans hw450_2),((HB.out.cell (World.block_lt_of_cell? w _ hw450_3)).trans hw450_3)⟩ (fun hHeld => ?_)
         generalize w61.drew = w62 at HO_5 BK449 HB hx450_0 hx450_1 hx450_2 hx450_3 hHeld ⊢
         refine pure_ (i := 1) (N := some 37) (v := ?_) (a' := ?_) #[false,true,false,false,false,false] rfl rfl (by kernel_rfl) (fun _ _ _ h => h) (Or.inl ⟨by rfl,?_⟩) ?_ ?_
         rotate_left
         ·intro w'
          go_simp
          with_reducible rfl
         rotate_left
         ·simp only [Act.put,zA,zB,zC,i64_w,i32_w]
          rfl
         refine pure_ (i := 2) (N := some 38) (v := ?_) (a' := ?_) #[false,true,true,false,false,false] rfl rfl (by kernel_rfl) (fun _ _ _ h => h) (Or.inl ⟨by rfl,?_⟩) ?_ ?_
         rotate_left
         ·intro w'
          go_simp
          with_reducible rfl
         rotate_left
         ·simp only [Act.put,zA,zB,zC,i64_w,i32_w]
          rfl
         refine pure_ (i := 3) (N := some 39) (v := ?_) (a' := ?_) #[false,true,true,true,false,false] rfl rfl (by kernel_rfl) (fun _ _ _ h => h) (Or.inl ⟨by rfl,?_⟩) ?_ ?_
         rotate_left
         ·intro w'
          go_simp
          with_reducible rfl
         rotate_left
         ·simp only [Act.put,zA,zB,zC,i64_w,i32_w]
          rfl
         refine take_ (i := 0) (N := some 36) (v := ?_) (a' := ?_) #[true,true,true,true,false,false] rfl rfl (by kernel_rfl) (fun _ _ _ h => h) (Or.inl ⟨by rfl,?_⟩) hHeld ?_ ?_
         rotate_left
         ·rintro w' ⟨s0,s1,s2,s3,s4,s5,s6,s7⟩
          go_simp
          with_reducible rfl
         rotate_left
         ·simp only [Act.put,zA,zB,zC,i64_w,i32_w]
          rfl
         refine take_ (i := 4) (N := some 40) (v := ?_) (a' := ?_) #[true,true,true,true,true,false] rfl rfl (by kernel_rfl) (fun _ _ _ h => h) (Or.inl ⟨by rfl,?_⟩) hHeld ?_ ?_
         rotate_left
         ·rintro w' ⟨s0,s1,s2,s3,s4,s5,s6,s7⟩
          go_simp
          with_reducible rfl
         rotate_left
         ·simp only [Act.put,zA,zB,zC,i64_w,i32_w]
          rfl
         refine pure_ (i := 5) (N := some 41) (v := ?_) (a' := ?_) #[true,true,true,true,true,true] rfl rfl (by kernel_rfl) (fun _ _ _ h => h) (Or.inl ⟨by rfl,?_⟩) ?_ ?_
         rotate_left
         ·intro w'
          go_simp
          with_reducible rfl
         rotate_left
         ·simp only [Act.put,zA,zB,zC,i64_w,i32_w]
          rfl
         refine done_ (by kernel_rfl) ?_
         try go_wp2
         have n0_ := Aside0.mk (Kd.q0o HO_5.out)
         have n1_ := Aside0.mk (q0c BK449.out)
         have n2_ := Aside0.mk (q0f HB.out)
         clear HO_5
         clear BK449
         clear HB
         have HO_5 := n0_
         have BK449 := n1_
         have HB := n2_
         clear n0_ n1_ n2_
         refine start_ (n := 13) (S := fun w' => True) (ds := []) #[false,false,false,false,false,false,false,false,false,false,false,false,false] (by kernel_rfl) rfl rfl trivial (fun hHeld => ?_);refine with_tabW verdererlaw28_QuotaLess.tab10 verdererlaw28_QuotaLess.bits10 (fun HT_ HW_ => ?_)
         generalize w62.drew = w63 at HO_5 BK449 HB hHeld ⊢
         refine pure_ (i := 0) (N := some 43) (v := ?_) (a' := ?_) #[true,false,false,false,false,false,false,false,false,false,false,false,false] rfl rfl (q0r HT_.out (by kernel_rfl)) (fun _ _ _ h => h) (Or.inl ⟨by rfl,?_⟩) ?_ ?_
         rotate_left
         ·intro w'
          go_simp
          with_reducible rfl
         rotate_left
         ·simp only [Act.put,zA,zB,zC,i64_w,i32_w]
          rfl
         refine pure_ (i := 1) (N := some 44) (v := ?_) (a' := ?_) #[true,true,false,false,false,false,false,false,false,false,false,false,false] rfl rfl (q0r HT_.out (by kernel_rfl)) (fun _ _ _ h => h) (Or.inl ⟨by rfl,?_⟩) ?_ ?_
         rotate_left
         ·intro w'
          go_simp
          with_reducible rfl
         rotate_left
         ·simp only [Act.put,zA,zB,zC,i64_w,i32_w]
          rfl
         refine pure_ (i := 2) (N := some 45) (v := ?_) (a' := ?_) #[true,true,true,false,false,false,false,false,false,false,false,false,false] rfl rfl (q0r HT_.out (by kernel_rfl)) (fun _ _ _ h => h) (Or.inl ⟨by rfl,?_⟩) ?_ ?_
         rotate_left
         ·intro w'
          go_simp
          with_reducible rfl
         rotate_left
         ·simp only [Act.put,zA,zB,zC,i64_w,i32_w]
          rfl
         refine pure_ (i := 3) (N := some 46) (v := ?_) (a' := ?_) #[true,true,true,true,false,false,false,false,false,false,false,false,false] rfl rfl (q0r HT_.out (by kernel_rfl)) (fun _ _ _ h => h) (Or.inl ⟨by rfl,?_⟩) ?_ ?_
         rotate_left
         ·intro w'
          go_simp
          with_reducible rfl
         rotate_left
         ·simp only [Act.put,zA,zB,zC,i64_w,i32_w]
          rfl
         refine pure_ (i := 4) (N := some 47) (v := ?_) (a' := ?_) #[true,true,true,true,true,false,false,false,false,false,false,false,false] rfl rfl (q0r HT_.out (by kernel_rfl)) (fun _ _ _ h => h) (Or.inl ⟨by rfl,?_⟩) ?_ ?_
         rotate_left
         ·intro w'
          go_simp
          with_reducible rfl
         rotate_left
         ·simp only [Act.put,zA,zB,zC,i64_w,i32_w]
          rfl
         refine pure_ (i := 5) (N := some 48) (v := undef) (a' := ?_) #[true,true,true,true,true,true,false,false,false,false,false,false,false] rfl rfl (q0r HT_.out (by kernel_rfl)) (fun _ _ _ h => h) (Or.inr ⟨by rfl,rfl⟩) ?_ ?_
         rotate_left
         ·simp only [Act.put,zA,zB,zC,i64_w,i32_w]
          rfl
         refine pure_ (i := 6) (N := some 49) (v := undef) (a' := ?_) #[true,true,true,true,true,true,true,false,false,false,false,false,false] rfl rfl (q0r HT_.out (by kernel_rfl)) (fun _ _ _ h => h) (Or.inr ⟨by rfl,rfl⟩) ?_ ?_
         rotate_left
         ·simp only [Act.put,zA,zB,zC,i64_w,i32_w]
          rfl
         refine pure_ (i := 7) (N := some 50) (v := undef) (a' := ?_) #[true,true,true,true,true,true,true,true,false,false,false,false,false] rfl rfl (q0r HT_.out (by kernel_rfl)) (fun _ _ _ h => h) (Or.inr ⟨by rfl,rfl⟩) ?_ ?_
         rotate_left
         ·simp only [Act.put,zA,zB,zC,i64_w,i32_w]
          rfl
         refine pure_ (i := 8) (N := some 51) (v := undef) (a' := ?_) #[true,true,true,true,true,true,true,true,true,false,false,false,false] rfl rfl (q0r HT_.out (by kernel_rfl)) (fun _ _ _ h => h) (Or.inr ⟨by rfl,rfl⟩) ?_ ?_
         rotate_left
         ·simp only [Act.put,zA,zB,zC,i64_w,i32_w]
          rfl
         refine pure_ (i := 9) (N := some 52) (v := undef) (a' := ?_) #[true,true,true,true,true,true,true,true,true,true,false,false,false] rfl rfl (q0r HT_.out (by kernel_rfl)) (fun _ _ _ h => h) (Or.inr ⟨by rfl,rfl⟩) ?_ ?_
         rotate_left
         ·simp only [Act.put,zA,zB,zC,i64_w,i32_w]
          rfl
         refine pure_ (i := 10) (N := some 53) (v := undef) (a' := ?_) #[true,true,true,true,true,true,true,true,true,true,true,false,false] rfl rfl (q0r HT_.out (by kernel_rfl)) (fun _ _ _ h => h) (Or.inr ⟨by rfl,rfl⟩) ?_ ?_
         rotate_left
         ·simp only [Act.put,zA,zB,zC,i64_w,i32_w]
          rfl
         refine pure_ (i := 11) (N := some 54) (v := undef) (a' := ?_) #[true,true,true,true,true,true,true,true,true,true,true,true,false] rfl rfl (q0r HT_.out (by kernel_rfl)) (fun _ _ _ h => h) (Or.inr ⟨by rfl,rfl⟩) ?_ ?_
         rotate_left
         ·simp only [Act.put,zA,zB,zC,i64_w,i32_w]
          rfl
         refine pure_ (i := 12) (N := some 55) (v := ?_) (a' := ?_) #[true,true,true,true,true,true,true,true,true,true,true,true,true] rfl rfl (q0r HT_.out (by kernel_rfl)) (fun _ _ _ h => h) (Or.inl ⟨by rfl,?_⟩) ?_ ?_
         rotate_left
         ·intro w'
          go_simp
          with_reducible rfl
         rotate_left
         ·simp only [Act.put,zA,zB,zC,i64_w,i32_w]
          rfl
         refine done_ (done_of HT_.out (by kernel_rfl)) ?_
         have hcz64_0 : w63.cell? ⟨gb449,0,none⟩ = some (.string t444) := (q0i BK449.out 0).trans rfl
         have hcz64_1 : w63.cell? ⟨gb449,1,none⟩ = some (.string t445) := (q0i BK449.out 1).trans rfl
         have hcz64_2 : w63.cell? ⟨gb449,2,none⟩ = some (.int .i64 t446) := (q0i BK449.out 2).trans rfl
         have hcz64_3 : w63.cell? ⟨gb449,3,none⟩ = some (.int .i64 t447) := (q0i BK449.out 3).trans rfl
         have hfz64_0 := q0k BK449.out 0
         have hfz64_1 := q0k BK449.out 1
         have hfz64_2 := q0k BK449.out 2
         have hfz64_3 := q0k BK449.out 3
         try go_wp2_with (first | ((with_reducible refine gate_builtin (b := .append) (xs := #[.tmp 61,.tmp 63]) rfl ?_);at_builtin;refine Kd.R_append k45 (w0 := w) w.heap.size rfl (.tmp 61) (.tmp 63) 53 45 (.agg #[(.string ⟨#[]⟩),(.string ⟨#[]⟩),(.int .i64 0),(.int .i64 0)]) 48 rfl Try.underlying53 info45 rfl (by decide) (by omega) u5 x5_1 (⟨t444,t445,t446,t447⟩ : S45) [.string t444,.string t445,.int .i64 t446,.int .i64 t447] (fun k_ => k_ ≠ gb449) (fun _ => False) rfl rfl ?aP (fun _ hk => hk.elim) ?aF ?aO ?aB ?aS ?aL ?_;(case aP => exact k45_mkM _ _ _ (⟨t444,t445,t446,t447⟩ : S45));(case aB => exact (by repeat (first | (with_reducible first | exact HB.out | apply q0h | apply q0d | apply q0f | refine q0g ?_ GE449.out) | exact HB.out)));(case aF => exact (fun k_ hk => Kd.freshB (g := gb449) (o := .cells #[.string t444,.string t445,.int .i64 t446,.int .i64 t447] 45 (0,0)) (by (with_reducible repeat (first | refine q0b ?_ _ | refine q0c ?_ | refine q0a ?_ _));exact BK449.out) k_ hk));(case aO => exact (by (with_reducible repeat (first | apply Kd.q0m | apply Kd.q0n | apply Kd.q0o));exact HO_5.out));(case aS => exact (q0p (by repeat (first | (with_reducible first | exact HB.out | apply q0h | apply q0d | apply q0f | refine q0g ?_ GE449.out) | exact HB.out))));(case aL => have := LMc52.out;omega);intro v461 w65 ho hb hg hat;rw [← Ny460.out] at ho;have n0_ := Aside0.mk (blk_grown (g := gb449) (o := .cells #[.string t444,.string t445,.int .i64 t446,.int .i64 t447] 45 (0,0)) (by (with_reducible repeat (first | refine q0b ?_ _ | refine q0c ?_ | refine q0a ?_ _));exact BK449.out) hg (Kd.q0l HO_5.out (fun _ hk => hk)));have n1_ := Aside0.mk (hb);have n2_ := Aside0.mk (ho);clear BK449;clear HB;clear HO_5;have BK449 := n0_;have HB := n1_;have HO462 := n2_;clear n0_ n1_ n2_;clear ho hb hg hat))
         go_roundg k1
         case measure => have := HK1.out;omega
         case rel => exact ⟨(y460),(wrap64 (x6_1 + 1)),(by first | rfl | (simp;done) | (simp [*];done)),H',⟨by have := HK1.out;omega⟩,⟨by (with_reducible repeat (first | apply Kd.q0m | apply Kd.q0n | apply Kd.q0o));exact Kd.R_mono HO462.out (fun _ hk => trivial)⟩,⟨by repeat (first | (with_reducible first | exact HB.out | apply q0h | apply q0d | apply q0f | refine q0g ?_ GE449.out) | exact HB.out)⟩⟩
        ·rw [if_neg c52] at H
         exact absurd H (by simp)
     ·rw [if_neg c7] at H
      exact absurd H (by simp)
    ·rw [if_neg c6] at H
     have c6b0 : decide (x6_1 < (l0.length : Int)) = false := decide_eq_false c6
     clear c6
     replace H := Option.bind_eq_some_iff.mp H
     obtain ⟨⟨t435,t436,t437,t438,t439⟩,A660,H⟩ := H
     replace H : (if (t435.toList == ([] : List UInt8) && (t436.toList == ([] : List UInt8) && (t437 == 0 && (t438 == 0)))) = true then (if t439 = 0 then ((verdererlaw28_known.f k1).bind fun t441 => (some t441)) else (none)) else (none)) = some r := H
     have A66 := Aside0.mk A660
     clear A660
     by_cases c67 : (t435.toList == ([] : List UInt8) && (t436.toList == ([] : List UInt8) && (t437 == 0 && (t438 == 0)))) = true
     ·rw [if_pos c67] at H
      have CZ : Aside0 ((t435.toList == ([] : List UInt8) && (t436.toList == ([] : List UInt8) && (t437 == 0 && (t438 == 0)))) = true) := Aside0.mk c67
      have c67b0 : (t435.toList == ([] : List UInt8) && (t436.toList == ([] : List UInt8) && (t437 == 0 && (t438 == 0)))) = true := c67
      (try (have c67b1 : decide (t435.toList = ([] : List UInt8) && (t436.toList == ([] : List UInt8) && (t437 == 0 && (t438 == 0)))) = true := by simpa using c67))
      (try (have c67b2 : (t435.toList == ([] : List UInt8) && (t436.toList == ([] : List UInt8) && (t437 == 0 && (t438 == 0)))) = true := by simpa using c67))
      clear c67
      by_cases c68 : t439 = 0
      ·rw [if_pos c68] at H
       have c68b0 : (t439 == 0) = true := beq_iff_eq.mpr c68
       have c68b1 : (t439 != 0) = false := bne_eq_false_iff_eq.mpr c68
       clear c68
       replace H := Option.bind_eq_some_iff.mp H
       obtain ⟨t441,A690,H⟩ := H
       replace H : (some t441) = some r := H
       have A69 := Aside0.mk A690
       clear A690
       obtain rfl := Option.some.inj H
       obtain ⟨Ao70,co70,eo70⟩ := Kd.R_slice HO_5.out
       subst eo70
       go_wp2_with (first | ((with_reducible refine q00 (f := 45) rfl ?_);refine goesL_ (some 68) rfl rfl Try.func45 (by kernel_rfl) rfl #[.slice A0 l0.length c0,.slice Ao70 x5_1.length co70] rfl (by (try simp only [List.map_toArray,List.map_cons,List.map_nil]);first | done | rfl | (simp only [List.length_drop,List.length_take];rfl)) ?_;(with_reducible refine (quota_Judge.calls k1 _ _ l0 _ _ x5_1 t435 t436 t437 t438 t439 _ ?side1 ?side2 ?side3 ?side4 A66.out).mono ?_);(case side1 => repeat (first | exact (Kd.C_below HR0.out HB.out) | (with_reducible refine Kd.C_alloc ?_ _) | (with_reducible refine Kd.C_drewN ?_ _) | (with_reducible refine Kd.C_drew ?_)));(case side2 => exact HC0.out);(case side3 => repeat (first | exact (Kd.q02 HO_5.out).2.2 | (with_reducible refine Kd.C_alloc ?_ _) | (with_reducible refine Kd.C_drewN ?_ _) | (with_reducible refine Kd.C_drew ?_)));(case side4 => exact (Kd.q02 HO_5.out).2.1);rintro e w71 ⟨rfl,hb⟩;refine ⟨_,rfl,?_⟩;have n0_ := Aside0.mk (Kd.q0v (by (with_reducible repeat (first | apply Kd.q0m | apply Kd.q0n | apply Kd.q0o));exact HO_5.out) hb);have n1_ := Aside0.mk (q0s (by repeat (first | (with_reducible first | exact HB.out | apply q0h | apply q0d | apply q0f) | exact HB.out)) hb);clear HO_5;clear HB;have HO_5 := n0_;have HB := n1_;clear n0_ n1_;(try clear hb);(try clear hb2);(try clear hk);(try clear hi)) | ((with_reducible refine gate_dst (N := 9) rfl ?_);refine q03 ?hg (N := 9) ?hd (cs := #[.string (⟨#[]⟩ : ByteArray),.string (⟨#[]⟩ : ByteArray),.int .i64 0,.int .i64 0]) (t := 45) ?hr ?_;(case hd => rfl);(case hg => rfl);(case hr => first | (go_simp;done) | (go_simp;rfl));intro gb440 hg w72 hbox hb;have n0_ := Aside0.mk (Kd.q0v (Kd.R_elderB (by (with_reducible repeat (first | apply Kd.q0m | apply Kd.q0n | apply Kd.q0o));exact HO_5.out) gb440 (Nat.le_of_eq hg.symm)) hb);have n1_ := Aside0.mk (q0s (by repeat (first | (with_reducible first | exact HB.out | apply q0h | apply q0d | apply q0f) | exact HB.out)) hb);have n2_ := Aside0.mk (hbox);have n3_ := Aside0.mk ((by rw [hg];exact (q0p (by repeat (first | (with_reducible first | exact HB.out | apply q0h | apply q0d | apply q0f) | exact HB.out))) : w.heap.size ≤ gb440));have n4_ := Aside0.mk ((by rw [hg];exact (q0p (by repeat (first | (with_reducible first | exact HB.out | apply q0h | apply q0d | apply q0f) | exact HB.out))) : w.heap.size ≤ gb440));clear HO_5;clear HB;have HO_5 := n0_;have HB := n1_;have BK440 := n2_;have GW440 := n3_;have GE440 := n4_;clear n0_ n1_ n2_ n3_ n4_;clear hb hbox hg;have hcz73_0 : w72.cell? ⟨gb440,0,none⟩ = some (.string (⟨#[]⟩ : ByteArray)) := (q0i BK440.out 0).trans rfl;have hcz73_1 : w72.cell? ⟨gb440,1,none⟩ = some (.string (⟨#[]⟩ : ByteArray)) := (q0i BK440.out 1).trans rfl;have hcz73_2 : w72.cell? ⟨gb440,2,none⟩ = some (.int .i64 0) := (q0i BK440.out 2).trans rfl;have hcz73_3 : w72.cell? ⟨gb440,3,none⟩ = some (.int .i64 0) := (q0i BK440.out 3).trans rfl;have hfz73_0 := q0k BK440.out 0;have hfz73_1 := q0k BK440.out 1;have hfz73_2 := q0k BK440.out 2;have hfz73_3 := q0k BK440.out 3))
       rotate_left
       ·exact absurd (by simpa using CZ.out) (by assumption)
       ·refine (verdererlaw28_known.calls k1 t441 _ A69.out).mono ?_
        rintro e wz ⟨rfl,hb⟩
        have HB3 := Aside0.mk (q0s (Below.setCell (Below.setCell (Below.setCell (Below.setCell HB.out (p := ⟨gb440,0,none⟩) GE440.out _) (p := ⟨gb440,1,none⟩) GE440.out _) (p := ⟨gb440,2,none⟩) GE440.out _) (p := ⟨gb440,3,none⟩) GE440.out _) hb)
        clear hb HB
        go_wp2_with (fail)
        go_ret
        exact ⟨rfl,HB3.out⟩
      ·rw [if_neg c68] at H
       exact absurd H (by simp)
     ·rw [if_neg c67] at H
      exact absurd H (by simp)
end Go.Proofs.Ytcenlehfbgnphaa.Z
end
