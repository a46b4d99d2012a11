/- Parts of the proof of IndexPlays: what its functions answer. -/
import Derived.Test.YthmbfcfomcaaaaaMIndexPlaysa
import Derived.Test.YthmbfcfomcaaaaaMIndexPlaysb
import Derived.Test.YthmbfcfomcaaaaaMIndexPlaysc
import Derived.Test.YthmbfcfomcaaaaaMIndexPlaysd
import Derived.Laws.Bits64b
import Derived.Lib.Bytes
import Derived.Maps.OwnOps
import Derived.Maps.OwnSet
import Derived.BigQuiet
import Derived.Deep.QuietTactic
import Derived.StillTailTactics
import Derived.Deep.RegionHeld3
section
namespace Go.Proofs.Ythmbfcfomcaaaaa.Z
open Go.RowKit Go.Proofs.YthmbfcfomcaaaaaW.PrintWords Go.Proofs.YthmbfcfomcaaaaaW.PrintLast Go.Proofs.YthmbfcfomcaaaaaW.PrintMore
attribute [local go_sem] max2_int min2_int max_two min_two max_three min_three max_four min_four
set_option linter.unusedVariables false
set_option linter.unusedSimpArgs false
def pack_Row.l0 : Nat → List Int → List (S66) → Int → Int → Option (List Int)
 | 0,_,_,_,_ => none
 | k + 1,x3,x7,x8,x9 => if x9 < x8 then (if 0 ≤ x9 then (if x9 < (x7.length : Int) then ((pack_Value.f k ((q0f x7 x9).f0) ((q0f x7 x9).f1) ((q0f x7 x9).f2) ((q0f x7 x9).f3)).bind fun t275 => (if (t275.length : Int) = 0 then (some ([] : List Int)) else (if x3.length + t275.length < 140737488355328 then (pack_Row.l0 k (x3 ++ t275) x7 x8 (wrap64 (x9 + 1))) else (none)))) else (none)) else (none)) else (if x3.length < 140737488355328 then (some (x3 ++ [0])) else (none))
def pack_Row.f (k : Nat) (l0 : List (S66)) : Option (List Int) := pack_Row.l0 k ([] : List Int) l0 (l0.length : Int) 0
set_option maxHeartbeats 8000000 in
set_option maxRecDepth 100000 in
theorem pack_Row.calls (k : Nat) (A0 : Option Addr) (c0 : Nat) (l0 : List (S66)) (r : List Int) (w : World) (hr0 : Kd.C k66 w A0 l0.length l0) (hc0 : l0.length ≤ c0) (h : pack_Row.f k l0 = some r) :
  Calls Try.prog 81 #[.slice A0 l0.length c0] w fun e w' => ∃ v0_ : Value,e = .returned (v0_) ∧ Kd.R (Kd.int .u8) 5 w' w.heap.size (fun _ => True) v0_ r ∧ Below w.heap.size w w' := by
 have hu66 := Try.underlying66
 have HR0 := Aside0.mk hr0
 have HC0 := Aside0.mk hc0
 clear hr0 hc0
 have HB := Aside0.mk (Below.refl w.heap.size w)
 have H : (pack_Row.l0 k ([] : List Int) l0 (l0.length : Int) 0) = some r := h
 clear h
 have H' := Aside0.mk H
 clear H
 go_enter Try.func81,Try.ntmps81
 go_wp2
 go_loopg [3,9] k (fun kq v3 v9 w' => ∃ (x3_1 : List Int) (x9_1 : Int),v9 = .int .i64 x9_1 ∧ Aside0 (pack_Row.l0 kq x3_1 l0 (l0.length : Int) x9_1 = some r) ∧ Aside0 (kq ≤ k) ∧ Aside0 (Kd.R (Kd.int .u8) 5 w' w.heap.size (fun _ => True) v3 x3_1) ∧ Aside0 (Below w.heap.size w w'))
 case atStart => exact ⟨(([] : List Int)),(0),(by first | rfl | (simp;done) | (simp [*];done)),H',⟨Nat.le_refl _⟩,⟨by first | exact Kd.R_nil _ _ _ _ _ | exact Kd.N_nil _ _ _ _ _ | exact Kd.V_nil _ _ _ _ _ | exact Kd.Q_nil _ _ _ _ _ | exact Kd.S_nil _ _ _ _ _⟩,⟨by repeat (first | (with_reducible first | exact HB.out | apply q0b | apply q0a | apply q0c) | exact HB.out)⟩⟩
 case round =>
  clear H'
  obtain ⟨x3_1,x9_1,rfl,HA,HK1,HO_3,HB⟩ := hrel
  cases gk with
  | zero => exact absurd HA.out (by simp [pack_Row.l0])
  | succ k1 =>
   have H := HA.out
   clear HA
   simp only [pack_Row.l0] at H
   by_cases c2 : x9_1 < (l0.length : Int)
   ·rw [if_pos c2] at H
    have c2b0 : decide (x9_1 < (l0.length : Int)) = true := decide_eq_true c2
    clear c2
    by_cases c3 : 0 ≤ x9_1
    ·rw [if_pos c3] at H
     have c3b0 : decide (0 ≤ x9_1) = true := decide_eq_true c3
     clear c3
     by_cases c4 : x9_1 < (l0.length : Int)
     ·rw [if_pos c4] at H
      have c4b0 : decide (x9_1 < (l0.length : Int)) = true := decide_eq_true c4
      clear c4
      replace H := Option.bind_eq_some_iff.mp H
      obtain ⟨t275,A50,H⟩ := H
      replace H : (if (t275.length : Int) = 0 then (some ([] : List Int)) else (if x3_1.length + t275.length < 140737488355328 then (pack_Row.l0 k1 (x3_1 ++ t275) l0 (l0.length : Int) (wrap64 (x9_1 + 1))) else (none))) = some r := H
      have A5 := Aside0.mk A50
      clear A50
      by_cases c6 : (t275.length : Int) = 0
      ·rw [if_pos c6] at H
       have c6b0 : ((t275.length : Int) == 0) = true := beq_iff_eq.mpr c6
       have c6b1 : ((t275.length : Int) != 0) = false := bne_eq_false_iff_eq.mpr c6
       clear c6
       obtain rfl := Option.some.inj H
       have p273 : 0 ≤ (x9_1 : Int) := of_decide_eq_true (by first | (with_reducible assumption) | assumption)
       have q273 : x9_1 < (l0.length : Int) := of_decide_eq_true (by first | (with_reducible assumption) | assumption)
       obtain ⟨ad273,e273,hx273_0,hx273_1,hx273_2,hx273_3⟩ := at_T66 HR0.out x9_1 p273 q273
       cases e273
       replace hx273_0 := (HB.out.cell (World.block_lt_of_cell? w _ hx273_0)).trans hx273_0
       replace hx273_1 := (HB.out.cell (World.block_lt_of_cell? w _ hx273_1)).trans hx273_1
       replace hx273_2 := (HB.out.cell (World.block_lt_of_cell? w _ hx273_2)).trans hx273_2
       replace hx273_3 := (HB.out.cell (World.block_lt_of_cell? w _ hx273_3)).trans hx273_3
       replace p273 := eq_true p273
       replace q273 := eq_true q273
       go_wp2_with (first | ((with_reducible refine q0p (N := 5) rfl ?_);refine q0o ?hg (N := 5) ?hd (cs := #[.int .i64 0,.bool false,.int .i64 0,.string (⟨#[]⟩ : ByteArray)]) (t := 66) ?hr ?_;(case hd => rfl);(case hg => rfl);(case hr => first | (go_simp;done) | (go_simp;rfl));intro gb274 hg w7 hbox hb;have n0_ := Aside0.mk (Kd.R_below (by (with_reducible repeat (first | apply Kd.R_alloc | apply Kd.R_drewN | apply Kd.R_drew));exact HO_3.out) hb);have n1_ := Aside0.mk (q0n (by repeat (first | (with_reducible first | exact HB.out | apply q0b | apply q0a | apply q0c) | exact HB.out)) hb);have n2_ := Aside0.mk (hbox);have n3_ := Aside0.mk ((by rw [hg];exact (q0g (by repeat (first | (with_reducible first | exact HB.out | apply q0b | apply q0a | apply q0c) | exact HB.out))) : w.heap.size ≤ gb274));have n4_ := Aside0.mk ((by rw [hg];exact (q0g (by repeat (first | (with_reducible first | exact HB.out | apply q0b | apply q0a | apply q0c) | exact HB.out))) : w.heap.size ≤ gb274));clear HO_3;clear HB;have HO_3 := n0_;have HB := n1_;have BK274 := n2_;have GW274 := n3_;have GE274 := n4_;clear n0_ n1_ n2_ n3_ n4_;clear hb hbox hg;have hcz8_0 : w7.cell? ⟨gb274,0,none⟩ = some (.int .i64 0) := (q0d BK274.out 0).trans rfl;have hcz8_1 : w7.cell? ⟨gb274,1,none⟩ = some (.bool false) := (q0d BK274.out 1).trans rfl;have hcz8_2 : w7.cell? ⟨gb274,2,none⟩ = some (.int .i64 0) := (q0d BK274.out 2).trans rfl;have hcz8_3 : w7.cell? ⟨gb274,3,none⟩ = some (.string (⟨#[]⟩ : ByteArray)) := (q0d BK274.out 3).trans rfl;have hfz8_0 := q0e BK274.out 0;have hfz8_1 := q0e BK274.out 1;have hfz8_2 := q0e BK274.out 2;have hfz8_3 := q0e BK274.out 3) | ((with_reducible refine q0u (f := 100) rfl ?_);refine goesL_ (some 14) rfl rfl Try.func100 (by kernel_rfl) rfl #[.agg #[.int .i64 ((q0f l0 x9_1).f0),.bool ((q0f l0 x9_1).f1),.int .i64 ((q0f l0 x9_1).f2),.string ((q0f l0 x9_1).f3)]] rfl (by (try simp only [List.map_toArray,List.map_cons,List.map_nil]);first | done | rfl | (simp only [List.length_drop,List.length_take];rfl)) ?_;(with_reducible refine (pack_Value_calls2 k1 ((q0f l0 x9_1).f0) ((q0f l0 x9_1).f1) ((q0f l0 x9_1).f2) ((q0f l0 x9_1).f3) t275 _ A5.out).mono ?_);rintro e w9 ⟨v276,rfl,ho0,hb,hnl⟩;refine ⟨_,rfl,?_⟩;have hz_ := run_nil_is Try.underlying108 ho0 hnl;have hgq_ := guard_nil_is (P := Try.prog) 108 ho0;clear hnl;have n0_ := Aside0.mk (Kd.R_elder' (by (with_reducible repeat (first | apply Kd.R_alloc | apply Kd.R_drewN | apply Kd.R_drew));exact (Kd.R_mono (Kd.R_far (p := ⟨gb274,3,none⟩) (Kd.R_far (p := ⟨gb274,2,none⟩) (Kd.R_far (p := ⟨gb274,1,none⟩) (Kd.R_far (p := ⟨gb274,0,none⟩) (Kd.R_types HO_3.out BK274.out (by decide)) (fun _ hk => hk.2) (.int .i64 ((q0f l0 x9_1).f0))) (fun _ hk => hk.2) (.bool ((q0f l0 x9_1).f1))) (fun _ hk => hk.2) (.int .i64 ((q0f l0 x9_1).f2))) (fun _ hk => hk.2) (.string ((q0f l0 x9_1).f3))) (fun _ h_ => h_.1))) (Kd.R_base ho0) hb);have n1_ := Aside0.mk (Kd.R_lower (Kd.R_new' ho0 (Kd.R_lt (by (with_reducible repeat (first | apply Kd.R_alloc | apply Kd.R_drewN | apply Kd.R_drew));exact (Kd.R_mono (Kd.R_far (p := ⟨gb274,3,none⟩) (Kd.R_far (p := ⟨gb274,2,none⟩) (Kd.R_far (p := ⟨gb274,1,none⟩) (Kd.R_far (p := ⟨gb274,0,none⟩) (Kd.R_types HO_3.out BK274.out (by decide)) (fun _ hk => hk.2) (.int .i64 ((q0f l0 x9_1).f0))) (fun _ hk => hk.2) (.bool ((q0f l0 x9_1).f1))) (fun _ hk => hk.2) (.int .i64 ((q0f l0 x9_1).f2))) (fun _ hk => hk.2) (.string ((q0f l0 x9_1).f3))) (fun _ h_ => h_.1))))) (q0g (by repeat (first | (with_reducible first | exact HB.out | apply q0b | apply q0a | apply q0c | refine q0i ?_ GE274.out) | exact HB.out))));have n2_ := Aside0.mk (q0s (g := gb274) (o := .cells #[.int .i64 ((q0f l0 x9_1).f0),.bool ((q0f l0 x9_1).f1),.int .i64 ((q0f l0 x9_1).f2),.string ((q0f l0 x9_1).f3)] 66 (0,0)) (by (with_reducible repeat (first | refine q0j ?_ _ | refine q0k ?_ | refine q0h ?_ _));refine q0r (cs := #[.int .i64 ((q0f l0 x9_1).f0),.bool ((q0f l0 x9_1).f1),.int .i64 ((q0f l0 x9_1).f2),.string (⟨#[]⟩ : ByteArray)]) ?_ 3 _ rfl;(with_reducible repeat (first | refine q0j ?_ _ | refine q0k ?_ | refine q0h ?_ _));refine q0r (cs := #[.int .i64 ((q0f l0 x9_1).f0),.bool ((q0f l0 x9_1).f1),.int .i64 0,.string (⟨#[]⟩ : ByteArray)]) ?_ 2 _ rfl;(with_reducible repeat (first | refine q0j ?_ _ | refine q0k ?_ | refine q0h ?_ _));refine q0r (cs := #[.int .i64 ((q0f l0 x9_1).f0),.bool false,.int .i64 0,.string (⟨#[]⟩ : ByteArray)]) ?_ 1 _ rfl;(with_reducible repeat (first | refine q0j ?_ _ | refine q0k ?_ | refine q0h ?_ _));refine q0r (cs := #[.int .i64 0,.bool false,.int .i64 0,.string (⟨#[]⟩ : ByteArray)]) ?_ 0 _ rfl;(with_reducible repeat (first | refine q0j ?_ _ | refine q0k ?_ | refine q0h ?_ _));exact BK274.out) hb);have n3_ := Aside0.mk (q0n (by repeat (first | (with_reducible first | exact HB.out | apply q0b | apply q0a | apply q0c | refine q0i ?_ GE274.out) | exact HB.out)) hb);clear HO_3;clear BK274;clear HB;have HO_3 := n0_;have HO277 := n1_;have BK274 := n2_;have HB := n3_;clear n0_ n1_ n2_ n3_;(try clear hb);(try clear hb2);(try clear hk);(try clear hi);(try clear ho0)))
       go_ret
       exact ⟨_,by first | rfl | (simp [q0m,q0l] <;> rfl) | (simp [*,q0m,q0l] <;> rfl),by first | exact Kd.R_nil _ _ _ _ _ | exact Kd.N_nil _ _ _ _ _ | exact Kd.V_nil _ _ _ _ _ | exact Kd.Q_nil _ _ _ _ _ | exact Kd.S_nil _ _ _ _ _,by repeat (first | (with_reducible first | exact HB.out | apply q0b | apply q0a | apply q0c | refine q0i ?_ GE274.out) | exact HB.out)⟩
      ·rw [if_neg c6] at H
       have c6b0 : ((t275.length : Int) == 0) = false := beq_eq_false_iff_ne.mpr c6
       have c6b1 : ((t275.length : Int) != 0) = true := bne_iff_ne.mpr c6
       have c6b2 : ¬ (t275 = []) := fun h_ => c6 (by rw [h_];rfl)
       by_cases c10 : x3_1.length + t275.length < 140737488355328
       ·rw [if_pos c10] at H
        have LMc10 := Aside0.mk c10
        clear c10
        obtain ⟨y278,hy278⟩ : ∃ y_ : List Int,y_ = (x3_1 ++ t275) := ⟨_,rfl⟩
        replace H : (pack_Row.l0 k1 y278 l0 (l0.length : Int) (wrap64 (x9_1 + 1))) = some r := by first | (rw [hy278];with_reducible exact H) | (have H2_ := (Option.bind_some _ _).symm.trans H;rw [hy278];with_reducible exact H2_) | (have H2_ := (Option.bind_some _ _).symm.trans H;with_reducible exact H2_) | with_reducible exact H | (rw [hy278];exact H) | exact H
        have Ny278 := Aside0.mk hy278
        clear hy278
        have H' := Aside0.mk H
        clear H
        have p273 : 0 ≤ (x9_1 : Int) := of_decide_eq_true (by first | (with_reducible assumption) | assumption)
        have q273 : x9_1 < (l0.length : Int) := of_decide_eq_true (by first | (with_reducible assumption) | assumption)
        obtain ⟨ad273,e273,hx273_0,hx273_1,hx273_2,hx273_3⟩ := at_T66 HR0.out x9_1 p273 q273
        cases e273
        replace hx273_0 := (HB.out.cell (World.block_lt_of_cell? w _ hx273_0)).trans hx273_0
        replace hx273_1 := (HB.out.cell (World.block_lt_of_cell? w _ hx273_1)).trans hx273_1
        replace hx273_2 := (HB.out.cell (World.block_lt_of_cell? w _ hx273_2)).trans hx273_2
        replace hx273_3 := (HB.out.cell (World.block_lt_of_cell? w _ hx273_3)).trans hx273_3
        replace p273 := eq_true p273
        replace q273 := eq_true q273
        go_wp2_with (first | ((with_reducible refine q0p (N := 5) rfl ?_);refine q0o ?hg (N := 5) ?hd (cs := #[.int .i64 0,.bool false,.int .i64 0,.string (⟨#[]⟩ : ByteArray)]) (t := 66) ?hr ?_;(case hd => rfl);(case hg => rfl);(case hr => first | (go_simp;done) | (go_simp;rfl));intro gb274 hg w11 hbox hb;have n0_ := Aside0.mk (Kd.R_below (by (with_reducible repeat (first | apply Kd.R_alloc | apply Kd.R_drewN | apply Kd.R_drew));exact HO_3.out) hb);have n1_ := Aside0.mk (q0n (by repeat (first | (with_reducible first | exact HB.out | apply q0b | apply q0a | apply q0c) | exact HB.out)) hb);have n2_ := Aside0.mk (hbox);have n3_ := Aside0.mk ((by rw [hg];exact (q0g (by repeat (first | (with_reducible first | exact HB.out | apply q0b | apply q0a | apply q0c) | exact HB.out))) : w.heap.size ≤ gb274));have n4_ := Aside0.mk ((by rw [hg];exact (q0g (by repeat (first | (with_reducible first | exact HB.out | apply q0b | apply q0a | apply q0c) | exact HB.out))) : w.heap.size ≤ gb274));clear HO_3;clear HB;have HO_3 := n0_;have HB := n1_;have BK274 := n2_;have GW274 := n3_;have GE274 := n4_;clear n0_ n1_ n2_ n3_ n4_;clear hb hbox hg;have hcz12_0 : w11.cell? ⟨gb274,0,none⟩ = some (.int .i64 0) := (q0d BK274.out 0).trans rfl;have hcz12_1 : w11.cell? ⟨gb274,1,none⟩ = some (.bool false) := (q0d BK274.out 1).trans rfl;have hcz12_2 : w11.cell? ⟨gb274,2,none⟩ = some (.int .i64 0) := (q0d BK274.out 2).trans rfl;have hcz12_3 : w11.cell? ⟨gb274,3,none⟩ = some (.string (⟨#[]⟩ : ByteArray)) := (q0d BK274.out 3).trans rfl;have hfz12_0 := q0e BK274.out 0;have hfz12_1 := q0e BK274.out 1;have hfz12_2 := q0e BK274.out 2;have hfz12_3 := q0e BK274.out 3) | ((with_reducible refine q0u (f := 100) rfl ?_);refine goesL_ (some 14) rfl rfl Try.func100 (by kernel_rfl) rfl #[.agg #[.int .i64 ((q0f l0 x9_1).f0),.bool ((q0f l0 x9_1).f1),.int .i64 ((q0f l0 x9_1).f2),.string ((q0f l0 x9_1).f3)]] rfl (by (try simp only [List.map_toArray,List.map_cons,List.map_nil]);first | done | rfl | (simp only [List.length_drop,List.length_take];rfl)) ?_;(with_reducible refine (pack_Value_calls2 k1 ((q0f l0 x9_1).f0) ((q0f l0 x9_1).f1) ((q0f l0 x9_1).f2) ((q0f l0 x9_1).f3) t275 _ A5.out).mono ?_);rintro e w13 ⟨v276,rfl,ho0,hb,hnl⟩;refine ⟨_,rfl,?_⟩;have hz_ := run_nil_is Try.underlying108 ho0 hnl;have hgq_ := guard_nil_is (P := Try.prog) 108 ho0;clear hnl;have n0_ := Aside0.mk (Kd.R_elder' (by (with_reducible repeat (first | apply Kd.R_alloc | apply Kd.R_drewN | apply Kd.R_drew));exact (Kd.R_mono (Kd.R_far (p := ⟨gb274,3,none⟩) (Kd.R_far (p := ⟨gb274,2,none⟩) (Kd.R_far (p := ⟨gb274,1,none⟩) (Kd.R_far (p := ⟨gb274,0,none⟩) (Kd.R_types HO_3.out BK274.out (by decide)) (fun _ hk => hk.2) (.int .i64 ((q0f l0 x9_1).f0))) (fun _ hk => hk.2) (.bool ((q0f l0 x9_1).f1))) (fun _ hk => hk.2) (.int .i64 ((q0f l0 x9_1).f2))) (fun _ hk => hk.2) (.string ((q0f l0 x9_1).f3))) (fun _ h_ => h_.1))) (Kd.R_base ho0) hb);have n1_ := Aside0.mk (Kd.R_lower (Kd.R_new' ho0 (Kd.R_lt (by (with_reducible repeat (first | apply Kd.R_alloc | apply Kd.R_drewN | apply Kd.R_drew));exact (Kd.R_mono (Kd.R_far (p := ⟨gb274,3,none⟩) (Kd.R_far (p := ⟨gb274,2,none⟩) (Kd.R_far (p := ⟨gb274,1,none⟩) (Kd.R_far (p := ⟨gb274,0,none⟩) (Kd.R_types HO_3.out BK274.out (by decide)) (fun _ hk => hk.2) (.int .i64 ((q0f l0 x9_1).f0))) (fun _ hk => hk.2) (.bool ((q0f l0 x9_1).f1))) (fun _ hk => hk.2) (.int .i64 ((q0f l0 x9_1).f2))) (fun _ hk => hk.2) (.string ((q0f l0 x9_1).f3))) (fun _ h_ => h_.1))))) (q0g (by repeat (first | (with_reducible first | exact HB.out | apply q0b | apply q0a | apply q0c | refine q0i ?_ GE274.out) | exact HB.out))));have n2_ := Aside0.mk (q0s (g := gb274) (o := .cells #[.int .i64 ((q0f l0 x9_1).f0),.bool ((q0f l0 x9_1).f1),.int .i64 ((q0f l0 x9_1).f2),.string ((q0f l0 x9_1).f3)] 66 (0,0)) (by (with_reducible repeat (first | refine q0j ?_ _ | refine q0k ?_ | refine q0h ?_ _));refine q0r (cs := #[.int .i64 ((q0f l0 x9_1).f0),.bool ((q0f l0 x9_1).f1),.int .i64 ((q0f l0 x9_1).f2),.string (⟨#[]⟩ : ByteArray)]) ?_ 3 _ rfl;(with_reducible repeat (first | refine q0j ?_ _ | refine q0k ?_ | refine q0h ?_ _));refine q0r (cs := #[.int .i64 ((q0f l0 x9_1).f0),.bool ((q0f l0 x9_1).f1),.int .i64 0,.string (⟨#[]⟩ : ByteArray)]) ?_ 2 _ rfl;(with_reducible repeat (first | refine q0j ?_ _ | refine q0k ?_ | refine q0h ?_ _));refine q0r (cs := #[.int .i64 ((q0f l0 x9_1).f0),.bool false,.int .i64 0,.string (⟨#[]⟩ : ByteArray)]) ?_ 1 _ rfl;(with_reducible repeat (first | refine q0j ?_ _ | refine q0k ?_ | refine q0h ?_ _));refine q0r (cs := #[.int .i64 0,.bool false,.int .i64 0,.string (⟨#[]⟩ : ByteArray)]) ?_ 0 _ rfl;(with_reducible repeat (first | refine q0j ?_ _ | refine q0k ?_ | refine q0h ?_ _));exact BK274.out) hb);have n3_ := Aside0.mk (q0n (by repeat (first | (with_reducible first | exact HB.out | apply q0b | apply q0a | apply q0c | refine q0i ?_ GE274.out) | exact HB.out)) hb);clear HO_3;clear BK274;clear HB;have HO_3 := n0_;have HO277 := n1_;have BK274 := n2_;have HB := n3_;clear n0_ n1_ n2_ n3_;(try clear hb);(try clear hb2);(try clear hk);(try clear hi);(try clear ho0);obtain ⟨Ao15,co15,eo15⟩ := Kd.R_slice HO277.out;subst eo15) | ((with_reducible refine q0v (b := .append) (xs := #[.tmp 17,.tmp 18]) rfl ?_);at_builtin;refine Kd.R_append_rows (Kd.int .u8) (w0 := w) w.heap.size rfl (.tmp 17) (.tmp 18) 108 5 (.int .u8 0) 1 rfl Try.underlying108 info5 rfl (by decide) (by omega) u3 x3_1 t275 _ _ _ (fun k_ => some k_ ≠ (.slice Ao15 t275.length co15 : Value).ownBlock) (fun _ => False) rfl rfl ?aO ?aR (fun _ _ h => h) (fun _ h => h.elim) ?aF ?aB ?aS ?aL ?_;(case aR => repeat (first | exact (Kd.R_reads' HO277.out).2.2 | (with_reducible refine Kd.C_alloc ?_ _) | (with_reducible refine Kd.C_drewN ?_ _) | (with_reducible refine Kd.C_drew ?_)));(case aB => exact (by repeat (first | (with_reducible first | exact HB.out | apply q0b | apply q0a | apply q0c | refine q0i ?_ GE274.out) | exact HB.out)));(case aF => exact (fun k_ hk => Kd.fresh' (Kd.R_lt (by (with_reducible repeat (first | apply Kd.R_alloc | apply Kd.R_drewN | apply Kd.R_drew));exact HO277.out)) k_ hk));(case aO => exact (by (with_reducible repeat (first | apply Kd.R_alloc | apply Kd.R_drewN | apply Kd.R_drew));exact Kd.R_mono HO_3.out (fun _ hk => hk.2)));(case aS => exact (q0g (by repeat (first | (with_reducible first | exact HB.out | apply q0b | apply q0a | apply q0c | refine q0i ?_ GE274.out) | exact HB.out))));(case aL => have := LMc10.out;omega);intro v279 w14 ho hb hg hat;rw [← Ny278.out] at ho;have n0_ := Aside0.mk (blk_grown (g := gb274) (o := .cells #[.int .i64 ((q0f l0 x9_1).f0),.bool ((q0f l0 x9_1).f1),.int .i64 ((q0f l0 x9_1).f2),.string ((q0f l0 x9_1).f3)] 66 (0,0)) (by (with_reducible repeat (first | refine q0j ?_ _ | refine q0k ?_ | refine q0h ?_ _));exact BK274.out) hg (Kd.R_ne HO_3.out BK274.out (by decide)));have n1_ := Aside0.mk (Kd.R_after (ok := (fun _ => True)) (by (with_reducible repeat (first | apply Kd.R_alloc | apply Kd.R_drewN | apply Kd.R_drew));exact HO277.out) hg hat);have n2_ := Aside0.mk (hb);have n3_ := Aside0.mk (ho);clear BK274;clear HO277;clear HB;clear HO_3;have BK274 := n0_;have HO277 := n1_;have HB := n2_;have HO280 := n3_;clear n0_ n1_ n2_ n3_;clear ho hb hg hat))
        go_roundg k1
        case measure => have := HK1.out;omega
        case rel => exact ⟨(y278),(wrap64 (x9_1 + 1)),(by first | rfl | (simp;done) | (simp [*];done)),H',⟨by have := HK1.out;omega⟩,⟨by (with_reducible repeat (first | apply Kd.R_alloc | apply Kd.R_drewN | apply Kd.R_drew));exact Kd.R_mono HO280.out (fun _ hk => trivial)⟩,⟨by repeat (first | (with_reducible first | exact HB.out | apply q0b | apply q0a | apply q0c | refine q0i ?_ GE274.out) | exact HB.out)⟩⟩
       ·rw [if_neg c10] at H
        exact absurd H (by simp)
     ·rw [if_neg c4] at H
      exact absurd H (by simp)
    ·rw [if_neg c3] at H
     exact absurd H (by simp)
   ·rw [if_neg c2] at H
    have c2b0 : decide (x9_1 < (l0.length : Int)) = false := decide_eq_false c2
    clear c2
    by_cases c16 : x3_1.length < 140737488355328
    ·rw [if_pos c16] at H
     have LMc16 := Aside0.mk c16
     clear c16
     obtain ⟨y281,hy281⟩ : ∃ y_ : List Int,y_ = (x3_1 ++ [0]) := ⟨_,rfl⟩
     replace H : (some y281) = some r := by first | (rw [hy281];with_reducible exact H) | (have H2_ := (Option.bind_some _ _).symm.trans H;rw [hy281];with_reducible exact H2_) | (have H2_ := (Option.bind_some _ _).symm.trans H;with_reducible exact H2_) | with_reducible exact H | (rw [hy281];exact H) | exact H
     have Ny281 := Aside0.mk hy281
     clear hy281
     obtain rfl := Option.some.inj H
     go_wp2_with (first | ((with_reducible refine q0v (b := .append) (xs := #[.tmp 21,.tmp 22]) rfl ?_);at_builtin;refine Kd.R_append (Kd.int .u8) (w0 := w) w.heap.size rfl (.tmp 21) (.tmp 22) 108 5 (.int .u8 0) 1 rfl Try.underlying108 info5 rfl (by decide) (by omega) u3 x3_1 0 [.int .u8 0] (fun _ => True) (fun _ => False) rfl rfl ?aP (fun _ hk => hk.elim) ?aF ?aO ?aB ?aS ?aL ?_;(case aP => exact rfl);(case aB => exact (by repeat (first | (with_reducible first | exact HB.out | apply q0b | apply q0a | apply q0c) | exact HB.out)));(case aF => exact (fun _ _ => trivial));(case aO => exact (by (with_reducible repeat (first | apply Kd.R_alloc | apply Kd.R_drewN | apply Kd.R_drew));exact HO_3.out));(case aS => exact (q0g (by repeat (first | (with_reducible first | exact HB.out | apply q0b | apply q0a | apply q0c) | exact HB.out))));(case aL => have := LMc16.out;omega);intro v282 w17 ho hb hg hat;rw [← Ny281.out] at ho;have n0_ := Aside0.mk (hb);have n1_ := Aside0.mk (ho);clear HB;clear HO_3;have HB := n0_;have HO283 := n1_;clear n0_ n1_;clear ho hb hg hat))
     go_ret
     exact ⟨_,by first | rfl | (simp [q0m,q0l] <;> rfl) | (simp [*,q0m,q0l] <;> rfl),by (with_reducible repeat (first | apply Kd.R_alloc | apply Kd.R_drewN | apply Kd.R_drew));exact HO283.out,by repeat (first | (with_reducible first | exact HB.out | apply q0b | apply q0a | apply q0c) | exact HB.out)⟩
    ·rw [if_neg c16] at H
     exact absurd H (by simp)
end Go.Proofs.Ythmbfcfomcaaaaa.Z
end
section
namespace Go.Proofs.Ythmbfcfomcaaaaa.Z
set_option linter.unusedVariables false
set_option linter.unusedSimpArgs false
open Go.RowKit Go.Proofs.YthmbfcfomcaaaaaW.PrintWords Go.Proofs.YthmbfcfomcaaaaaW.PrintLast Go.Proofs.YthmbfcfomcaaaaaW.PrintMore Go.Proofs.Ythmbfcfomcaaaaa.Cmp
theorem xor_top_lo {m : Nat} (h : m < 9223372036854775808) : m ^^^ 9223372036854775808 = m + 9223372036854775808 := by
 have e : 9223372036854775808 + m = 9223372036854775808 ||| m := Nat.two_pow_add_eq_or_of_lt (i := 63) (b := m) (by omega) 1
 rw [Nat.add_comm,e]
 apply Nat.eq_of_testBit_eq
 intro i
 rw [Nat.testBit_xor,Nat.testBit_or,show (9223372036854775808 : Nat) = 2 ^ 63 from rfl,Nat.testBit_two_pow]
 by_cases hi : 63 = i
 ·subst hi
  simp [Nat.testBit_lt_two_pow (show m < 2 ^ 63 by omega)]
 ·simp [hi]
theorem xor_top {n : Nat} (h : n < 18446744073709551616) : n ^^^ 9223372036854775808 = (n + 9223372036854775808) % 18446744073709551616 := by
 rcases Nat.lt_or_ge n 9223372036854775808 with h1 | h1
 ·rw [xor_top_lo h1];omega
 ·obtain ⟨m,rfl⟩ : ∃ m,n = m + 9223372036854775808 := ⟨n - 9223372036854775808,by omega⟩
  rw [← xor_top_lo (show m < 9223372036854775808 by omega),Nat.xor_assoc,Nat.xor_self,Nat.xor_zero,xor_top_lo (show m < 9223372036854775808 by omega)]
  omega
def turn (x : Int) : Int := (x + 9223372036854775808) % 18446744073709551616
theorem turn_xor (x : Int) : Go.bits .xor .u64 (IntKind.u64.wrap x) 9223372036854775808 = turn x := by
 rw [Go.IntKind.wrap_u64]
 obtain ⟨n,hn⟩ : ∃ n : Nat,x % 18446744073709551616 = n := ⟨(x % 18446744073709551616).toNat,by omega⟩
 have hlt : n < 18446744073709551616 := by omega
 rw [hn,show (9223372036854775808 : Int) = ((9223372036854775808 : Nat) : Int) from rfl,Go.bits_xor_u64_nat n _ hlt (by decide),xor_top hlt]
 unfold turn
 omega
theorem shr_at (X : Int) (i : Nat) (h : i ≤ 64) : shr .u64 X (i : Int) = X / 2 ^ i := by
 unfold shr
 rw [show ((i : Int)).toNat = i from rfl,show IntKind.u64.bits = 64 from rfl,Nat.min_eq_left h]
def eight (X : Int) : List Int := [X / 72057594037927936 % 256,X / 281474976710656 % 256,X / 1099511627776 % 256,X / 4294967296 % 256,X / 16777216 % 256,X / 65536 % 256,X / 256 % 256,X % 256]
theorem eight_shr (X : Int) : [shr .u64 X 56 % 256,shr .u64 X 48 % 256,shr .u64 X 40 % 256,shr .u64 X 32 % 256,shr .u64 X 24 % 256,shr .u64 X 16 % 256,shr .u64 X 8 % 256,shr .u64 X 0 % 256] = eight X := by
 have h := fun i h => shr_at X i h
 rw [show (56 : Int) = ((56 : Nat) : Int) from rfl,show (48 : Int) = ((48 : Nat) : Int) from rfl,show (40 : Int) = ((40 : Nat) : Int) from rfl,show (32 : Int) = ((32 : Nat) : Int) from rfl,show (24 : Int) = ((24 : Nat) : Int) from rfl,show (16 : Int) = ((16 : Nat) : Int) from rfl,show (8 : Int) = ((8 : Nat) : Int) from rfl,show (0 : Int) = ((0 : Nat) : Int) from rfl,
  h 56 (by omega),h 48 (by omega),h 40 (by omega),h 32 (by omega),h 24 (by omega),h 16 (by omega),h 8 (by omega),h 0 (by omega)]
 simp [eight]
theorem num_l0 (k : Nat) (a : Int) (b : Bool) (c : Int) (d : ByteArray) : pack_Value.l0 (k + 9) [3] 7 a b c d = some (3 :: eight (turn c)) := by
 have e (n : Nat) (i j : Int) (acc : List Int) (h0 : 0 ≤ i) (h1 : wrap64 (8 * i) = j) (h2 : 0 ≤ j) (hl : acc.length ≤ 20) (h3 : wrap64 (i - 1) = i - 1) : pack_Value.l0 (n + 1) acc i a b c d = pack_Value.l0 n (acc ++ [shr .u64 (turn c) j % 256]) (i - 1) a b c d := by
  simp only [pack_Value.l0]
  rw [if_pos (by omega),h1,if_pos h2,if_pos (by omega),turn_xor,h3]
 rw [e (k + 8) 7 56 _ (by decide +kernel) (by decide +kernel) (by decide +kernel) (by simp) (by decide +kernel),show (7 : Int) - 1 = 6 from rfl,
  e (k + 7) 6 48 _ (by decide +kernel) (by decide +kernel) (by decide +kernel) (by simp) (by decide +kernel),show (6 : Int) - 1 = 5 from rfl,
  e (k + 6) 5 40 _ (by decide +kernel) (by decide +kernel) (by decide +kernel) (by simp) (by decide +kernel),show (5 : Int) - 1 = 4 from rfl,
  e (k + 5) 4 32 _ (by decide +kernel) (by decide +kernel) (by decide +kernel) (by simp) (by decide +kernel),show (4 : Int) - 1 = 3 from rfl,
  e (k + 4) 3 24 _ (by decide +kernel) (by decide +kernel) (by decide +kernel) (by simp) (by decide +kernel),show (3 : Int) - 1 = 2 from rfl,
  e (k + 3) 2 16 _ (by decide +kernel) (by decide +kernel) (by decide +kernel) (by simp) (by decide +kernel),show (2 : Int) - 1 = 1 from rfl,
  e (k + 2) 1 8 _ (by decide +kernel) (by decide +kernel) (by decide +kernel) (by simp) (by decide +kernel),show (1 : Int) - 1 = 0 from rfl,
  e (k + 1) 0 0 _ (by decide +kernel) (by decide +kernel) (by decide +kernel) (by simp) (by decide +kernel),show (0 : Int) - 1 = -1 from rfl]
 simp only [pack_Value.l0]
 rw [if_neg (by decide),← eight_shr]
 rfl
def esc : List UInt8 → List Int
 | [] => []
 | b :: bs => (if b.toNat = 0 then [0,255] else [(b.toNat : Int)]) ++ esc bs
theorem esc_len : ∀ l : List UInt8,(esc l).length ≤ 2 * l.length := by
 intro l
 induction l with
 | nil => simp [esc]
 | cons b bs ih =>
  simp only [esc,List.length_append,List.length_cons]
  split <;> simp <;> omega
theorem txt_l1 (s : ByteArray) (hs : s.size ≤ 1000) (a : Int) (b : Bool) (c : Int) : ∀ d i k (acc : List Int),s.size - i = d → i ≤ s.size → acc.length ≤ 2 * i + 1 → d < k → pack_Value.l1 k acc (s.size : Int) (i : Int) a b c s = some (acc ++ (esc (s.data.toList.drop i) ++ [0,1])) := by
 intro d
 induction d with
 | zero =>
  intro i k acc hd hi ha hk
  obtain ⟨k,rfl⟩ : ∃ m,k = m + 1 := ⟨k - 1,by omega⟩
  simp only [pack_Value.l1]
  rw [if_neg (by omega),List.drop_eq_nil_of_le (by simp;omega)]
  simp only [Option.bind_some,esc,List.nil_append]
  rw [if_pos (by simp;omega)]
 | succ d ih =>
  intro i k acc hd hi ha hk
  obtain ⟨k,rfl⟩ : ∃ m,k = m + 1 := ⟨k - 1,by omega⟩
  have hlt : i < s.size := by omega
  simp only [pack_Value.l1]
  rw [if_pos (by omega),if_pos (by omega),if_pos (by omega),if_pos (by omega),Option.bind_some,bt_get hlt,bytes_drop hlt,wrap_succ hlt (by omega)]
  simp only [esc]
  by_cases h0 : (s.data.toList[i]'(by simpa using hlt)).toNat = 0
  ·rw [if_pos (by omega),if_pos (by simp;omega),if_pos h0,ih (i + 1) k _ (by omega) (by omega) (by simp;omega) (by omega),h0]
   simp
  ·rw [if_neg (by omega),if_neg h0,ih (i + 1) k _ (by omega) (by omega) (by simp;omega) (by omega)]
   simp
def encG (v : S66) : List Int := if v.f0 = 1 then [2,b2i v.f1] else if v.f0 = 2 then 3 :: eight (turn v.f2) else if v.f0 = 3 then 4 :: (esc v.f3.data.toList ++ [0,1]) else [1]
def encV (v : S66) : List Int := if vright v = true then encG v else []
theorem encG_len {v : S66} {M : Nat} (h : v.f3.size ≤ M) : (encG v).length ≤ 2 * M + 9 := by
 unfold encG
 have := esc_len v.f3.data.toList
 rw [data_length] at this
 repeat' split
 all_goals simp [eight]
 all_goals omega
theorem packValue_f (v : S66) (hs : v.f3.size ≤ 500) (k : Nat) (hk : 510 ≤ k) : pack_Value.f k v.f0 v.f1 v.f2 v.f3 = some (encV v) := by
 unfold pack_Value.f encV encG
 rw [vright_f,Option.bind_some]
 by_cases h : vright v = true
 ·rw [if_pos h,if_pos h]
  by_cases h1 : v.f0 = 1
  ·rw [if_pos h1,if_pos h1]
   cases v.f1 <;> rfl
  ·by_cases h2 : v.f0 = 2
   ·obtain ⟨k,rfl⟩ : ∃ m,k = m + 9 := ⟨k - 9,by omega⟩
    rw [if_neg h1,if_neg h1,if_pos h2,if_pos h2,num_l0]
   ·by_cases h3 : v.f0 = 3
    ·have ht := txt_l1 v.f3 (by omega) v.f0 v.f1 v.f2 v.f3.size 0 k [4] (by omega) (by omega) (by simp) (by omega)
     rw [show ((0 : Nat) : Int) = 0 from rfl] at ht
     rw [if_neg h1,if_neg h1,if_neg h2,if_neg h2,if_pos h3,if_pos h3,ht]
     rfl
    ·rw [if_neg h1,if_neg h1,if_neg h2,if_neg h2,if_neg h3,if_neg h3]
 ·rw [if_neg h,if_neg h]
def encR : List S66 → List Int → List Int
 | [],acc => acc ++ [0]
 | v :: vs,acc => if ((encV v).length : Int) = 0 then [] else encR vs (acc ++ encV v)
theorem lexC_cons {α : Type} (c : α → α → Int) (x y : α) (xs ys : List α) : lexC c (x :: xs) (y :: ys) = if c x y = 0 then lexC c xs ys else c x y := rfl
theorem cmpI_digits {h h' l l' : Int} (h0 : 0 ≤ l) (h1 : l < 256) (h2 : 0 ≤ l') (h3 : l' < 256) : (if cmpI h h' = 0 then cmpI l l' else cmpI h h') = cmpI (256 * h + l) (256 * h' + l') := by
 unfold cmpI
 repeat' split
 all_goals omega
theorem ite_ite (a b c : Int) : (if a = 0 then (if b = 0 then c else b) else a) = (if (if a = 0 then b else a) = 0 then c else (if a = 0 then b else a)) := by
 by_cases h : a = 0
 ·simp [h]
 ·simp [h]
theorem eight_cmp {X Y : Int} (hX : 0 ≤ X) (hX1 : X < 18446744073709551616) (hY : 0 ≤ Y) (hY1 : Y < 18446744073709551616) (s t : List Int) : lexC cmpI (eight X ++ s) (eight Y ++ t) = if cmpI X Y = 0 then lexC cmpI s t else cmpI X Y := by
 have st (n : Int) (hn : 0 < n) (A B : Int) : (if cmpI (A / (n * 256)) (B / (n * 256)) = 0 then cmpI (A / n % 256) (B / n % 256) else cmpI (A / (n * 256)) (B / (n * 256))) = cmpI (A / n) (B / n) := by
  rw [cmpI_digits (by omega) (by omega) (by omega) (by omega),← Int.ediv_ediv_of_nonneg (by omega),← Int.ediv_ediv_of_nonneg (by omega)]
  congr 1 <;> omega
 unfold eight
 simp only [List.cons_append,List.nil_append,lexC_cons,ite_ite]
 have e7 (A : Int) (h0 : 0 ≤ A) (h1 : A < 18446744073709551616) : A / 72057594037927936 % 256 = A / 72057594037927936 := by omega
 rw [e7 X hX hX1,e7 Y hY hY1]
 have s6 := st 281474976710656 (by decide) X Y
 have s5 := st 1099511627776 (by decide) X Y
 have s4 := st 4294967296 (by decide) X Y
 have s3 := st 16777216 (by decide) X Y
 have s2 := st 65536 (by decide) X Y
 have s1 := st 256 (by decide) X Y
 have s0 := st 1 (by decide) X Y
 simp only [show (281474976710656 : Int) * 256 = 72057594037927936 from rfl,show (1099511627776 : Int) * 256 = 281474976710656 from rfl,show (4294967296 : Int) * 256 = 1099511627776 from rfl,show (16777216 : Int) * 256 = 4294967296 from rfl,show (65536 : Int) * 256 = 16777216 from rfl,show (256 : Int) * 256 = 65536 from rfl,show (1 : Int) * 256 = 256 from rfl,Int.ediv_one] at s6 s5 s4 s3 s2 s1 s0
 rw [s6,s5,s4,s3,s2,s1,s0]
theorem turn_cmp {x y : Int} (hx : -9223372036854775808 ≤ x ∧ x ≤ 9223372036854775807) (hy : -9223372036854775808 ≤ y ∧ y ≤ 9223372036854775807) : cmpI (turn x) (turn y) = cmpI x y := by
 unfold turn cmpI
 have e1 : (x + 9223372036854775808) % 18446744073709551616 = x + 9223372036854775808 := by omega
 have e2 : (y + 9223372036854775808) % 18446744073709551616 = y + 9223372036854775808 := by omega
 rw [e1,e2]
 repeat' split
 all_goals omega
theorem cmpB_cons (x y : UInt8) (xs ys : List UInt8) : cmpB (x :: xs) (y :: ys) = if cmpI x.toNat y.toNat = 0 then cmpB xs ys else cmpI x.toNat y.toNat := rfl
theorem esc_cmp (s t : List Int) : ∀ a b : List UInt8,lexC cmpI (esc a ++ [0,1] ++ s) (esc b ++ [0,1] ++ t) = if cmpB a b = 0 then lexC cmpI s t else cmpB a b := by
 intro a
 induction a with
 | nil =>
  intro b
  cases b with
  | nil => rfl
  | cons y ys =>
   have e : cmpB [] (y :: ys) = -1 := rfl
   rw [e,if_neg (by decide)]
   simp only [esc]
   by_cases hy : y.toNat = 0
   ·rw [if_pos hy];rfl
   ·rw [if_neg hy]
    simp only [List.nil_append,List.cons_append,lexC_cons]
    have h1 : cmpI 0 (y.toNat : Int) = -1 := by unfold cmpI;rw [if_pos (by omega)]
    rw [h1,if_neg (by decide)]
 | cons x xs ih =>
  intro b
  cases b with
  | nil =>
   have e : cmpB (x :: xs) [] = 1 := rfl
   rw [e,if_neg (by decide)]
   simp only [esc]
   by_cases hx : x.toNat = 0
   ·rw [if_pos hx];rfl
   ·rw [if_neg hx]
    simp only [List.nil_append,List.cons_append,lexC_cons]
    have h1 : cmpI (x.toNat : Int) 0 = 1 := by unfold cmpI;rw [if_neg (by omega),if_pos (by omega)]
    rw [h1,if_neg (by decide)]
  | cons y ys =>
   rw [cmpB_cons]
   simp only [esc]
   by_cases hx : x.toNat = 0
   ·rw [if_pos hx]
    by_cases hy : y.toNat = 0
    ·rw [if_pos hy,hx,hy]
     simp only [List.nil_append,List.cons_append,lexC_cons,List.append_assoc]
     have z : ∀ n : Int,cmpI n n = 0 := fun n => cmpI_law.self n
     rw [show ((0 : Nat) : Int) = 0 from rfl,z 0,z 255,if_pos rfl,if_pos rfl,if_pos rfl]
     have := ih ys
     simp only [List.append_assoc,List.cons_append,List.nil_append] at this
     exact this
    ·rw [if_neg hy,hx]
     simp only [List.nil_append,List.cons_append,lexC_cons,List.append_assoc]
     have h1 : cmpI 0 (y.toNat : Int) = -1 := by unfold cmpI;rw [if_pos (by omega)]
     rw [show ((0 : Nat) : Int) = 0 from rfl,h1,if_neg (show ¬ ((-1 : Int) = 0) by decide),if_neg (show ¬ ((-1 : Int) = 0) by decide),if_neg (show ¬ ((-1 : Int) = 0) by decide)]
   ·rw [if_neg hx]
    by_cases hy : y.toNat = 0
    ·rw [if_pos hy,hy]
     simp only [List.nil_append,List.cons_append,lexC_cons,List.append_assoc]
     have h1 : cmpI (x.toNat : Int) 0 = 1 := by unfold cmpI;rw [if_neg (by omega),if_pos (by omega)]
     rw [show ((0 : Nat) : Int) = 0 from rfl,h1,if_neg (show ¬ ((1 : Int) = 0) by decide),if_neg (show ¬ ((1 : Int) = 0) by decide),if_neg (show ¬ ((1 : Int) = 0) by decide)]
    ·rw [if_neg hy]
     simp only [List.nil_append,List.cons_append,lexC_cons,List.append_assoc]
     have := ih ys
     simp only [List.append_assoc,List.cons_append,List.nil_append] at this
     rw [this]
     by_cases h : cmpI (x.toNat : Int) (y.toNat : Int) = 0
     ·simp [h]
     ·simp [h]
theorem encG_cmp {v u : S66} (hv : vright v = true) (hu : vright u = true) (gv : -9223372036854775808 ≤ v.f2 ∧ v.f2 ≤ 9223372036854775807) (gu : -9223372036854775808 ≤ u.f2 ∧ u.f2 ≤ 9223372036854775807) (s t : List Int) : lexC cmpI (encG v ++ s) (encG u ++ t) = if vcmp v u = 0 then lexC cmpI s t else vcmp v u := by
 have hk (w : S66) (h : vright w = true) : w.f0 = 0 ∨ w.f0 = 1 ∨ w.f0 = 2 ∨ w.f0 = 3 := by
  unfold vright at h
  by_cases h0 : w.f0 = 0
  ·exact .inl h0
  ·by_cases h1 : w.f0 = 1
   ·exact .inr (.inl h1)
   ·by_cases h2 : w.f0 = 2
    ·exact .inr (.inr (.inl h2))
    ·by_cases h3 : w.f0 = 3
     ·exact .inr (.inr (.inr h3))
     ·rw [if_neg h0,if_neg h1,if_neg h2,if_neg h3] at h;cases h
 have hd (w : S66) (h : vright w = true) : ∃ q,encG w = (w.f0 + 1) :: q := by
  unfold encG
  rcases hk w h with e | e | e | e <;> rw [e] <;> exact ⟨_,rfl⟩
 by_cases he : v.f0 = u.f0
 ·unfold vcmp kcmp
  rw [if_pos he]
  unfold encG
  rw [← he]
  have z : ∀ n : Int,cmpI n n = 0 := fun n => cmpI_law.self n
  by_cases h1 : v.f0 = 1
  ·rw [if_pos h1,if_pos h1,if_pos h1]
   simp only [List.cons_append,List.nil_append,lexC_cons,z,if_true]
  ·by_cases h2 : v.f0 = 2
   ·rw [if_neg h1,if_neg h1,if_neg h1,if_pos h2,if_pos h2,if_pos h2]
    simp only [List.cons_append,lexC_cons,z,if_true]
    rw [eight_cmp (by unfold turn;omega) (by unfold turn;omega) (by unfold turn;omega) (by unfold turn;omega),turn_cmp gv gu]
   ·by_cases h3 : v.f0 = 3
    ·rw [if_neg h1,if_neg h1,if_neg h1,if_neg h2,if_neg h2,if_neg h2,if_pos h3,if_pos h3,if_pos h3]
     simp only [List.cons_append,lexC_cons,z,if_true]
     exact esc_cmp s t _ _
    ·rw [if_neg h1,if_neg h1,if_neg h1,if_neg h2,if_neg h2,if_neg h2,if_neg h3,if_neg h3,if_neg h3]
     simp only [List.cons_append,List.nil_append,lexC_cons,z,if_true]
 ·obtain ⟨p,hp⟩ := hd v hv
  obtain ⟨q,hq⟩ := hd u hu
  unfold vcmp
  rw [if_neg he,hp,hq]
  simp only [List.cons_append,lexC_cons]
  have e : cmpI (v.f0 + 1) (u.f0 + 1) = cmpI v.f0 u.f0 := by
   unfold cmpI
   repeat' split
   all_goals omega
  have n : cmpI v.f0 u.f0 ≠ 0 := fun h => he (cmpI_eq.1 h)
  rw [e,if_neg n,if_neg n]
def encA : List S66 → List Int
 | [] => [0]
 | v :: vs => encG v ++ encA vs
theorem encG_pos (v : S66) : ∃ x q,encG v = x :: q ∧ 1 ≤ x := by
 unfold encG
 repeat' split
 all_goals exact ⟨_,_,rfl,by omega⟩
theorem encR_cases : ∀ (r : List S66) (acc : List Int),(encR r acc = [] ∧ ∃ v ∈ r,vright v = false) ∨ (encR r acc = acc ++ encA r ∧ ∀ v ∈ r,vright v = true) := by
 intro r
 induction r with
 | nil => intro acc;exact .inr ⟨rfl,fun v hv => by cases hv⟩
 | cons v vs ih =>
  intro acc
  simp only [encR]
  cases hv : vright v with
  | false =>
   have e : encV v = [] := by unfold encV;rw [hv];rfl
   rw [e,if_pos (by simp)]
   exact .inl ⟨rfl,v,List.mem_cons_self,hv⟩
  | true =>
   have e : encV v = encG v := by unfold encV;rw [hv];rfl
   obtain ⟨x,q,hq,_⟩ := encG_pos v
   rw [e,if_neg (by rw [hq];simp;omega)]
   rcases ih (acc ++ encG v) with ⟨h1,u,hu,h2⟩ | ⟨h1,h2⟩
   ·exact .inl ⟨h1,u,List.mem_cons_of_mem _ hu,h2⟩
   ·refine .inr ⟨by rw [h1];simp [encA],fun u hu => ?_⟩
    rcases List.mem_cons.1 hu with rfl | hu
    ·exact hv
    ·exact h2 u hu
theorem encA_cmp : ∀ (a b : List S66),(∀ v ∈ a,vright v = true) → (∀ v ∈ b,vright v = true) → (∀ v ∈ a,-9223372036854775808 ≤ v.f2 ∧ v.f2 ≤ 9223372036854775807) → (∀ v ∈ b,-9223372036854775808 ≤ v.f2 ∧ v.f2 ≤ 9223372036854775807) → lexC cmpI (encA a) (encA b) = rcmp a b := by
 intro a
 induction a with
 | nil =>
  intro b _ _ _ _
  cases b with
  | nil => rfl
  | cons u us =>
   obtain ⟨x,q,hq,hx⟩ := encG_pos u
   simp only [encA]
   rw [hq,List.cons_append,lexC_cons]
   have e : cmpI 0 x = -1 := by unfold cmpI;rw [if_pos (by omega)]
   rw [e]
   rfl
 | cons v vs ih =>
  intro b ha hb ga gb
  cases b with
  | nil =>
   obtain ⟨x,q,hq,hx⟩ := encG_pos v
   simp only [encA]
   rw [hq,List.cons_append,lexC_cons]
   have e : cmpI x 0 = 1 := by unfold cmpI;rw [if_neg (by omega),if_pos (by omega)]
   rw [e]
   rfl
  | cons u us =>
   simp only [encA]
   rw [encG_cmp (ha _ List.mem_cons_self) (hb _ List.mem_cons_self) (ga _ List.mem_cons_self) (gb _ List.mem_cons_self),ih us (fun x hx => ha x (List.mem_cons_of_mem _ hx)) (fun x hx => hb x (List.mem_cons_of_mem _ hx)) (fun x hx => ga x (List.mem_cons_of_mem _ hx)) (fun x hx => gb x (List.mem_cons_of_mem _ hx))]
   rfl
def IsBytes (l : List Int) : Prop := ∀ x ∈ l,0 ≤ x ∧ x < 256
theorem esc_bytes : ∀ l : List UInt8,IsBytes (esc l) := by
 intro l
 induction l with
 | nil => intro x hx;cases hx
 | cons b bs ih =>
  intro x hx
  simp only [esc,List.mem_append] at hx
  rcases hx with hx | hx
  ·have := b.toNat_lt
   split at hx
   ·simp at hx;omega
   ·simp at hx;omega
  ·exact ih x hx
theorem encG_bytes (v : S66) : IsBytes (encG v) := by
 intro x hx
 unfold encG at hx
 by_cases h1 : v.f0 = 1
 ·rw [if_pos h1] at hx
  simp [b2i] at hx
  rcases hx with hx | hx
  ·omega
  ·rw [hx];split <;> omega
 ·by_cases h2 : v.f0 = 2
  ·rw [if_neg h1,if_pos h2] at hx
   simp [eight] at hx
   omega
  ·by_cases h3 : v.f0 = 3
   ·rw [if_neg h1,if_neg h2,if_pos h3] at hx
    simp at hx
    rcases hx with hx | hx | hx | hx
    ·omega
    ·exact esc_bytes _ x hx
    ·omega
    ·omega
   ·rw [if_neg h1,if_neg h2,if_neg h3] at hx
    simp at hx
    omega
theorem encA_bytes : ∀ r : List S66,IsBytes (encA r) := by
 intro r
 induction r with
 | nil => intro x hx;simp [encA] at hx;omega
 | cons v vs ih =>
  intro x hx
  simp only [encA,List.mem_append] at hx
  rcases hx with hx | hx
  ·exact encG_bytes v x hx
  ·exact ih x hx
theorem cmpB_nums : ∀ a b : List Int,IsBytes a → IsBytes b → cmpB (a.map fun n => UInt8.ofNat n.toNat) (b.map fun n => UInt8.ofNat n.toNat) = lexC cmpI a b := by
 intro a
 induction a with
 | nil => intro b _ _;cases b <;> rfl
 | cons x xs ih =>
  intro b ha hb
  cases b with
  | nil => rfl
  | cons y ys =>
   obtain ⟨h0,h1⟩ := ha x List.mem_cons_self
   obtain ⟨h2,h3⟩ := hb y List.mem_cons_self
   rw [List.map_cons,List.map_cons,cmpB_cons,lexC_cons,ih ys (fun z hz => ha z (List.mem_cons_of_mem _ hz)) (fun z hz => hb z (List.mem_cons_of_mem _ hz))]
   have e (z : Int) (g0 : 0 ≤ z) (g1 : z < 256) : (((UInt8.ofNat z.toNat).toNat : Nat) : Int) = z := by
    rw [UInt8.toNat_ofNat']
    omega
   rw [e x h0 h1,e y h2 h3]
theorem encA_len : ∀ (r : List S66),(∀ v ∈ r,v.f3.size ≤ 500) → (encA r).length ≤ 1009 * r.length + 1 := by
 intro r
 induction r with
 | nil => intro _;simp [encA]
 | cons v vs ih =>
  intro hs
  have h1 := encG_len (hs v List.mem_cons_self)
  have h2 := ih (fun u hu => hs u (List.mem_cons_of_mem _ hu))
  simp only [encA,List.length_append,List.length_cons]
  omega
end Go.Proofs.Ythmbfcfomcaaaaa.Z
end
section
namespace Go.Proofs.Ythmbfcfomcaaaaa.Z
set_option linter.unusedVariables false
set_option linter.unusedSimpArgs false
open Go.RowKit Go.Proofs.YthmbfcfomcaaaaaW.PrintWords Go.Proofs.YthmbfcfomcaaaaaW.PrintLast Go.Proofs.YthmbfcfomcaaaaaW.PrintMore Go.Proofs.Ythmbfcfomcaaaaa.Cmp
def InR (r : Rw) : Prop := ∀ v ∈ r,-9223372036854775808 ≤ v.f2 ∧ v.f2 ≤ 9223372036854775807
def AllV (r : Rw) : Prop := ∀ v ∈ r,vright v = true
theorem allV_iff {r : Rw} : AllV r ↔ r.all vright = true := by unfold AllV;rw [List.all_eq_true]
theorem rright_all {r : Rw} (h : rright r = true) : AllV r := by
 unfold rright at h
 rw [Bool.and_eq_true] at h
 exact allV_iff.2 h.2
def pickF (r : Rw) : List Int → Rw → Rw × Int
 | [],acc => (acc,0)
 | c :: cs,acc => if c < 0 ∨ c ≥ (r.length : Int) then ([],2) else pickF r cs (acc ++ [q0f r c])
theorem pickF_code (r : Rw) : ∀ cols acc,(pickF r cols acc).2 = 0 ∨ pickF r cols acc = ([],2)
 | [],acc => .inl rfl
 | c :: cs,acc => by
  simp only [pickF]
  split
  ·exact .inr rfl
  ·exact pickF_code r cs _
theorem pickF_mem (r : Rw) : ∀ cols acc,(pickF r cols acc).2 = 0 → (∀ v ∈ (pickF r cols acc).1,v ∈ acc ∨ v ∈ r) ∧ (pickF r cols acc).1.length = acc.length + cols.length
 | [],acc,_ => ⟨fun v hv => .inl hv,by simp [pickF]⟩
 | c :: cs,acc,h => by
  simp only [pickF] at h ⊢
  split at h
  ·cases h
  ·rename_i hc
   rw [if_neg hc]
   obtain ⟨h1,h2⟩ := pickF_mem r cs _ h
   refine ⟨fun v hv => ?_,by rw [h2];simp;omega⟩
   rcases h1 v hv with q | q
   ·rcases List.mem_append.1 q with q | q
    ·exact .inl q
    ·have e : c = ((c.toNat : Nat) : Int) := by omega
     have hl : c.toNat < r.length := by omega
     rw [List.mem_singleton.1 q,e,rdV_get hl]
     exact .inr (List.getElem_mem hl)
   ·exact .inr q
def keyR (cols : List Int) (r : Rw) : Rw := (pickF r cols []).1
theorem keyR_all {cols : List Int} {r : Rw} (h : rright r = true) : AllV (keyR cols r) := fun v hv => by
 unfold keyR at hv
 rcases pickF_code r cols [] with q | q
 ·rcases (pickF_mem r cols [] q).1 v hv with q | q
  ·cases q
  ·exact rright_all h v q
 ·rw [q] at hv;cases hv
theorem keyR_in {cols : List Int} {r : Rw} (h : InR r) : InR (keyR cols r) := fun v hv => by
 unfold keyR at hv
 rcases pickF_code r cols [] with q | q
 ·rcases (pickF_mem r cols [] q).1 v hv with q | q
  ·cases q
  ·exact h v q
 ·rw [q] at hv;cases hv
def kB (key : Rw) : ByteArray := strOfNums (encA key)
theorem kB_inj {a b : Rw} (ha : AllV a) (hb : AllV b) (ga : InR a) (gb : InR b) (h : kB a = kB b) : a = b := by
 have e : (strOfNums (encA a)).data.toList = (strOfNums (encA b)).data.toList := congrArg (fun x : ByteArray => x.data.toList) h
 have e2 : (encA a).map (fun n => UInt8.ofNat n.toNat) = (encA b).map (fun n => UInt8.ofNat n.toNat) := e
 have h1 := cmpB_nums (encA a) (encA b) (encA_bytes a) (encA_bytes b)
 rw [e2] at h1
 have h2 : cmpB ((encA b).map fun n => UInt8.ofNat n.toNat) ((encA b).map fun n => UInt8.ofNat n.toNat) = 0 := cmpB_law.self _
 rw [h2,encA_cmp a b ha hb ga gb] at h1
 exact lex_right (allV_iff.1 ha) (allV_iff.1 hb) h1.symm
def cleanV (v : S66) : S66 := if v.f0 = 0 then ⟨0,false,0,⟨#[]⟩⟩ else if v.f0 = 1 then ⟨1,v.f1,0,⟨#[]⟩⟩ else if v.f0 = 2 then ⟨2,false,v.f2,⟨#[]⟩⟩ else if v.f0 = 3 then ⟨3,false,0,v.f3⟩ else v
theorem clean_f0 (v : S66) : (cleanV v).f0 = v.f0 := by
 unfold cleanV
 repeat' split
 all_goals first | rfl | (symm;assumption)
theorem vcmp_clean (k v : S66) : vcmp k (cleanV v) = vcmp k v := by
 unfold vcmp
 rw [clean_f0]
 by_cases h : k.f0 = v.f0
 ·rw [if_pos h,if_pos h]
  unfold kcmp cleanV
  rw [h]
  by_cases h0 : v.f0 = 0
  ·simp [h0]
  ·by_cases h1 : v.f0 = 1
   ·simp [h1]
   ·by_cases h2 : v.f0 = 2
    ·simp [h2]
    ·by_cases h3 : v.f0 = 3
     ·simp [h3]
     ·simp [h0,h1,h2,h3]
 ·rw [if_neg h,if_neg h]
theorem clean_eq {k v : S66} (hk : vright k = true) (h : vcmp k v = 0) : cleanV v = k := by
 rw [← vcmp_clean] at h
 refine (vright_eq hk ?_ h).symm
 have h0 : k.f0 = v.f0 := by
  unfold vcmp at h
  rw [clean_f0] at h
  by_cases e : k.f0 = v.f0
  ·exact e
  ·rw [if_neg e] at h;exact absurd (cmpI_zero h) e
 unfold vcmp at h
 rw [clean_f0,if_pos h0] at h
 unfold vright at hk ⊢
 rw [clean_f0]
 rw [h0] at hk
 by_cases k0 : v.f0 = 0
 ·rw [if_pos k0];unfold cleanV;rw [if_pos k0];simp
 ·rw [if_neg k0] at hk ⊢
  by_cases k1 : v.f0 = 1
  ·rw [if_pos k1];unfold cleanV;rw [if_neg k0,if_pos k1];simp
  ·rw [if_neg k1] at hk ⊢
   by_cases k2 : v.f0 = 2
   ·rw [if_pos k2];unfold cleanV;rw [if_neg k0,if_neg k1,if_pos k2];simp
   ·rw [if_neg k2] at hk ⊢
    by_cases k3 : v.f0 = 3
    ·rw [if_pos k3] at hk ⊢
     unfold kcmp at h
     rw [h0,if_neg k1,if_neg k2,if_pos k3] at h
     have e : k.f3 = (cleanV v).f3 := bytes_ext (cmpB_eq h)
     have hs : k.f3.size ≤ 60 := by simp only [Bool.and_eq_true,decide_eq_true_eq] at hk;exact hk.2.2
     rw [← e]
     unfold cleanV
     rw [if_neg k0,if_neg k1,if_neg k2,if_pos k3]
     simp [hs]
    ·rw [if_neg k3] at hk;cases hk
theorem rcmp_clean : ∀ k key : Rw,rcmp k (key.map cleanV) = rcmp k key
 | [],[] => rfl
 | [],_ :: _ => rfl
 | _ :: _,[] => rfl
 | x :: k,y :: key => by
  show (if vcmp x (cleanV y) = 0 then rcmp k (key.map cleanV) else vcmp x (cleanV y)) = (if vcmp x y = 0 then rcmp k key else vcmp x y)
  rw [vcmp_clean,rcmp_clean k key]
theorem clean_row : ∀ {k key : Rw},AllV k → rcmp k key = 0 → key.map cleanV = k
 | [],[],_,_ => rfl
 | [],_ :: _,_,h => by simp [rcmp,lexC] at h
 | _ :: _,[],_,h => by simp [rcmp,lexC] at h
 | x :: k,y :: key,ha,h => by
  have h' : (if vcmp x y = 0 then rcmp k key else vcmp x y) = 0 := h
  by_cases e : vcmp x y = 0
  ·rw [if_pos e] at h'
   rw [List.map_cons,clean_eq (ha x List.mem_cons_self) e,clean_row (fun v hv => ha v (List.mem_cons_of_mem _ hv)) h']
  ·rw [if_neg e] at h';exact absurd h' e
def grp (cols : List Int) (key : Rw) (L : List En) : List En := L.filter fun e => decide (rcmp (keyR cols e.f0) key = 0)
theorem grp_clean (cols : List Int) (key : Rw) (L : List En) : grp cols (key.map cleanV) L = grp cols key L := by
 unfold grp
 congr 1
 funext e
 rw [rcmp_clean]
theorem filter_two {α : Type} (p q : α → Bool) (l : List α) : (l.filter p).filter q = (l.filter q).filter p := by
 rw [List.filter_filter,List.filter_filter]
 congr 1
 funext a
 exact Bool.and_comm _ _
theorem find_filter_mem {α : Type} {f g : α → Bool} : ∀ (l : List α),(∀ p ∈ l,f p = true → g p = true) → (l.filter g).find? f = l.find? f
 | [],_ => rfl
 | y :: r,h => by
  have ih := find_filter_mem (f := f) (g := g) r (fun p hp => h p (List.mem_cons_of_mem _ hp))
  cases hg : g y
  ·have hf : f y = false := by
    cases hf : f y
    ·rfl
    ·rw [h y List.mem_cons_self hf] at hg;cases hg
   rw [List.filter_cons,if_neg (by rw [hg];simp),List.find?_cons,hf,ih]
  ·rw [List.filter_cons,if_pos hg]
   cases hf : f y
   ·rw [List.find?_cons,List.find?_cons,hf,ih]
   ·rw [List.find?_cons,List.find?_cons,hf]
theorem fnd_grp {cols : List Int} {r : Rw} {L : List En} (hk : OkD L) (hr : rright r = true) : fndD r (grp cols (keyR cols r) L) = fndD r L := by
 unfold fndD grp
 refine find_filter_mem L (fun x hx h => ?_)
 have e := rright_eq hr (hk x hx).1 (of_decide_eq_true h)
 rw [← e]
 exact decide_eq_true (rcmp_law.self _)
theorem many_grp {cols : List Int} {r : Rw} {L : List En} (hk : OkD L) (hr : rright r = true) : manyD r (grp cols (keyR cols r) L) = manyD r L := by
 unfold manyD
 rw [fnd_grp hk hr]
theorem grp_put_same {cols : List Int} {r : Rw} {now : Int} {L : List En} : grp cols (keyR cols r) (putD r now L) = putD r now (grp cols (keyR cols r) L) := by
 unfold putD
 unfold grp
 rw [List.filter_append,List.filter_append]
 unfold loD hiD
 rw [filter_two _ _ L,filter_two (fun x : En => decide (rcmp r x.f0 < 0)) _ L]
 congr 2
 split
 ·rfl
 ·simp [rcmp_law.self]
theorem grp_put_other {cols : List Int} {r key : Rw} {now : Int} {L : List En} (hs : SrtD L) (hk : OkD L) (hr : rright r = true) (hn : rcmp (keyR cols r) key ≠ 0) : grp cols key (putD r now L) = grp cols key L := by
 obtain ⟨s1,s2⟩ := srt_split r hs
 conv => rhs;rw [s1]
 unfold putD grp
 rw [List.filter_append,List.filter_append,List.filter_append,List.filter_append]
 congr 2
 rw [filter_none (l := eqD r L) (fun x hx => by
  obtain ⟨h1,h2⟩ := List.mem_filter.1 hx
  have e := rright_eq hr (hk x h1).1 (of_decide_eq_true h2)
  rw [← e]
  exact decide_eq_false hn)]
 split
 ·rfl
 ·simp [hn]
theorem add_grp {cols : List Int} {r : Rw} (m : Int) {L : List En} (hk : OkD L) (hr : rright r = true) : addD r m (grp cols (keyR cols r) L) = ((addD r m L).1,grp cols (keyR cols r) (addD r m L).2) := by
 have e : okAdd r m (grp cols (keyR cols r) L) = okAdd r m L := by unfold okAdd;rw [many_grp hk hr]
 rw [add_right hr,add_right hr,e,many_grp hk hr]
 split
 ·rw [grp_put_same]
 ·rfl
theorem add_other {cols : List Int} {r key : Rw} (m : Int) {L : List En} (hs : SrtD L) (hk : OkD L) (hr : rright r = true) (hn : rcmp (keyR cols r) key ≠ 0) : grp cols key (addD r m L).2 = grp cols key L := by
 rw [add_right hr]
 split
 ·exact grp_put_other hs hk hr hn
 ·rfl
theorem add_len {cols : List Int} {r : Rw} (m : Int) {L : List En} (hs : SrtD L) (hk : OkD L) (hr : rright r = true) : (addD r m L).2.length + (grp cols (keyR cols r) L).length = L.length + (grp cols (keyR cols r) (addD r m L).2).length := by
 rw [add_right hr]
 split
 ·have h1 := putD_len r (manyD r L + m) hs
  have h2 := putD_len r (manyD r L + m) (hs.filter fun e => decide (rcmp (keyR cols e.f0) (keyR cols r) = 0))
  have h3 : fndD r (L.filter fun e => decide (rcmp (keyR cols e.f0) (keyR cols r) = 0)) = fndD r L := fnd_grp hk hr
  rw [h3] at h2
  rw [grp_put_same]
  show (putD r (manyD r L + m) L).length + (grp cols (keyR cols r) L).length = L.length + (putD r (manyD r L + m) (grp cols (keyR cols r) L)).length
  have h4 : (putD r (manyD r L + m) (grp cols (keyR cols r) L)).length + (fndD r L).toList.length = (grp cols (keyR cols r) L).length + if manyD r L + m = 0 then 0 else 1 := h2
  omega
 ·simp
def idxAdd (cols : List Int) (r : Rw) (m : Int) (L : List En) : Int × List En := if (pickF r cols []).2 = 0 ∧ rright r = true then addD r m L else (2,L)
structure IdxL (cols : List Int) (L : List En) : Prop where
 srt : SrtD L
 ok : OkD L
 inr : ∀ x ∈ L,InR x.f0
 pick : ∀ x ∈ L,(pickF x.f0 cols []).2 = 0
theorem mem_put {r : Rw} {now : Int} {L : List En} {x : En} (h : x ∈ putD r now L) : x ∈ L ∨ x.f0 = r := by
 unfold putD at h
 rcases List.mem_append.1 h with h | h
 ·rcases List.mem_append.1 h with h | h
  ·exact .inl (mem_lo h).1
  ·split at h
   ·cases h
   ·rw [List.mem_singleton.1 h];exact .inr rfl
 ·exact .inl (mem_hi h).1
theorem mem_add {r : Rw} {m : Int} {L : List En} {x : En} (h : x ∈ (addD r m L).2) : x ∈ L ∨ x.f0 = r := by
 unfold addD at h
 split at h
 ·split at h
  ·exact mem_put h
  ·exact .inl h
 ·exact .inl h
theorem IdxL.add {cols : List Int} {L : List En} (h : IdxL cols L) (r : Rw) (m : Int) (hr : InR r) : IdxL cols (idxAdd cols r m L).2 := by
 unfold idxAdd
 split
 ·rename_i hc
  obtain ⟨i1,i2⟩ := addD_inv (r := r) (m := m) h.srt h.ok
  exact ⟨i1,i2,fun x hx => (mem_add hx).elim (h.inr x) (fun e => by rw [e];exact hr),fun x hx => (mem_add hx).elim (h.pick x) (fun e => by rw [e];exact hc.1)⟩
 ·exact h
theorem IdxL.nil (cols : List Int) : IdxL cols [] := ⟨List.Pairwise.nil,fun _ h => (by cases h),fun _ h => (by cases h),fun _ h => (by cases h)⟩
end Go.Proofs.Ythmbfcfomcaaaaa.Z
end
section
namespace Go.Proofs.Ythmbfcfomcaaaaa.Z
set_option linter.unusedVariables false
set_option linter.unusedSimpArgs false
open Go.RowKit Go.Proofs.YthmbfcfomcaaaaaW.PrintWords Go.Proofs.YthmbfcfomcaaaaaW.PrintLast Go.Proofs.YthmbfcfomcaaaaaW.PrintMore Go.Proofs.Ythmbfcfomcaaaaa.Cmp
theorem nodup_le {α : Type} : ∀ {A B : List α},A.Nodup → (∀ x ∈ A,x ∈ B) → A.length ≤ B.length
 | [],_,_,_ => Nat.zero_le _
 | a :: A,B,h,hs => by
  obtain ⟨h1,h2⟩ := List.nodup_cons.1 h
  obtain ⟨s,t,rfl⟩ := List.append_of_mem (hs a List.mem_cons_self)
  have := nodup_le (A := A) (B := s ++ t) h2 (fun x hx => by
   have h3 := hs x (List.mem_cons_of_mem _ hx)
   rcases List.mem_append.1 h3 with q | q
   ·exact List.mem_append_left _ q
   ·rcases List.mem_cons.1 q with q | q
    ·subst q;exact absurd hx h1
    ·exact List.mem_append_right _ q)
  simp only [List.length_cons,List.length_append] at this ⊢
  omega
theorem nodup_len {α : Type} {A B : List α} (ha : A.Nodup) (hb : B.Nodup) (h : ∀ x,x ∈ A ↔ x ∈ B) : A.length = B.length :=
 Nat.le_antisymm (nodup_le ha (fun x hx => (h x).1 hx)) (nodup_le hb (fun x hx => (h x).2 hx))
theorem key_eq {cols : List Int} {r key : Rw} (hr : rright r = true) (hk : AllV key) (h : rcmp (keyR cols r) key = 0) : keyR cols r = key := lex_right (allV_iff.1 (keyR_all hr)) (allV_iff.1 hk) h
def sumG (cols : List Int) (L : List En) : List Rw → Nat
 | [] => 0
 | k :: ks => (grp cols k L).length + sumG cols L ks
structure Met (cols : List Int) (L : List En) (i : Nat) (ks : List Rw) : Prop where
 nd : ks.Nodup
 mem : ∀ k,k ∈ ks ↔ ∃ e ∈ L.take i,keyR cols e.f0 = k
theorem Met.zero (cols : List Int) (L : List En) : Met cols L 0 [] := ⟨List.nodup_nil,fun k => by simp⟩
theorem Met.old {cols : List Int} {L : List En} {i : Nat} {ks : List Rw} (h : Met cols L i ks) {x : En} (hx : L[i]? = some x) (hm : keyR cols x.f0 ∈ ks) : Met cols L (i + 1) ks :=
 ⟨h.nd,fun k => by
  rw [h.mem,List.take_add_one,hx]
  constructor
  ·rintro ⟨e,he,q⟩;exact ⟨e,List.mem_append_left _ he,q⟩
  ·rintro ⟨e,he,q⟩
   rcases List.mem_append.1 he with he | he
   ·exact ⟨e,he,q⟩
   ·have e2 : e = x := by simpa using he
    rw [e2] at q
    rw [q] at hm
    exact (h.mem k).1 hm⟩
theorem Met.new {cols : List Int} {L : List En} {i : Nat} {ks : List Rw} (h : Met cols L i ks) {x : En} (hx : L[i]? = some x) (hm : keyR cols x.f0 ∉ ks) : Met cols L (i + 1) (ks ++ [keyR cols x.f0]) :=
 ⟨List.nodup_append.2 ⟨h.nd,List.nodup_cons.2 ⟨by simp,List.nodup_nil⟩,fun a ha b hb e => hm (by rw [← List.mem_singleton.1 hb,← e];exact ha)⟩,fun k => by
  rw [List.mem_append,h.mem,List.take_add_one,hx,List.mem_singleton]
  constructor
  ·rintro (⟨e,he,q⟩ | q)
   ·exact ⟨e,List.mem_append_left _ he,q⟩
   ·exact ⟨x,List.mem_append_right _ (by simp),q.symm⟩
  ·rintro ⟨e,he,q⟩
   rcases List.mem_append.1 he with he | he
   ·exact .inl ⟨e,he,q⟩
   ·have e2 : e = x := by simpa using he
    exact .inr (by rw [← q,e2])⟩
end Go.Proofs.Ythmbfcfomcaaaaa.Z
end
section
namespace Go.Proofs.Ythmbfcfomcaaaaa.Z
set_option linter.unusedVariables false
set_option linter.unusedSimpArgs false
open Go.RowKit Go.Shelf Go.Maps Go.Proofs.YthmbfcfomcaaaaaW.PrintWords Go.Proofs.YthmbfcfomcaaaaaW.PrintLast Go.Proofs.YthmbfcfomcaaaaaW.PrintMore Go.Proofs.Ythmbfcfomcaaaaa.Cmp
abbrev tIM : Nat := 104
abbrev tIX : Nat := 106
def kl (key : Rw) : Go.Lit := .string (kB key).data.toList
theorem kl_inj {a b : Rw} (ha : AllV a) (hb : AllV b) (ga : InR a) (gb : InR b) (h : kl a = kl b) : a = b := by
 unfold kl at h
 injection h with h
 exact kB_inj ha hb ga gb (bytes_ext h)
theorem kl_key (key : Rw) : WideAt.IsKeyLit (kl key) := by simp [WideAt.IsKeyLit,kl]
theorem kl_same {a b : Rw} (h : a = b) : (kl a).sameKey (kl b) = true := by rw [h];exact WideAt.sameKey_self (kl_key b)
def RB (v : Value) : Option (DataW Unit × List MemPlace) := match v with
 | .pointer none => some (.nil,[])
 | .pointer (some ⟨b,0,none⟩) => some (.lit (.int .i64 (b : Int)),[])
 | _ => none
theorem RB_ptr (b : Nat) : RB (.pointer (some ⟨b,0,none⟩)) = some (.lit (.int .i64 (b : Int)),[]) := rfl
theorem RB_none : RB (.pointer none) = some (.nil,[]) := rfl
theorem RB_inv {v : Value} {b : Nat} {ps : List MemPlace} (h : RB v = some (.lit (.int .i64 (b : Int)),ps)) : v = .pointer (some ⟨b,0,none⟩) := by
 unfold RB at h
 split at h
 ·simp at h
 ·rename_i b'
  simp only [Option.some.injEq,Prod.mk.injEq,DataW.lit.injEq,Go.Lit.int.injEq,true_and] at h
  have e : b' = b := by omega
  rw [e]
 ·cases h
theorem RB_nil {v : Value} {ps : List MemPlace} (h : RB v = some (.nil,ps)) : v = .pointer none := by
 unfold RB at h
 split at h
 ·rfl
 ·simp at h
 ·cases h
structure Bg where
 key : Rw
 b : Nat
 t : Tr
 D : Nat → Prop
def Bg.own (g : Bg) (k : Nat) : Prop := BagOwn g.b g.t g.D k
def ColB (A : Option Addr) (cols : List Int) (k : Nat) : Prop := 0 < cols.length ∧ ∃ ad,A = some ad ∧ k = ad.block
def IdxOwn (x m : Nat) (A : Option Addr) (cols : List Int) (Gs : List Bg) (k : Nat) : Prop := k = x ∨ k = m ∨ ColB A cols k ∨ ∃ g ∈ Gs,g.own k
structure IdxAt (N : Nat) (w : World) (x m : Nat) (A : Option Addr) (c : Nat) (cols : List Int) (M : DataW Unit) (Gs : List Bg) (L : List En) : Prop where
 blk : w.heap[x]? = some (.cells #[.slice A cols.length c,.map (some m),.int .i64 (L.length : Int)] tIX (0,0))
 cap : cols.length ≤ c
 col : Kd.C (Kd.int .i64) w A cols.length cols
 map : w.ownsMap Try.prog 9 RB m Gs.length M
 has : ∀ s,Maps.has M s = Gs.any fun g => (kl g.key).sameKey s
 at_ : ∀ g ∈ Gs,∀ z,M.atKey (kl g.key) z = .lit (.int .i64 (g.b : Int))
 siz : Maps.size M = Gs.length
 keys : (Gs.map Bg.key).Nodup
 bag : ∀ g ∈ Gs,BagAt w g.b g.t g.D
 kok : ∀ g ∈ Gs,AllV g.key ∧ InR g.key ∧ docT g.t = grp cols g.key L ∧ docT g.t ≠ []
 all : ∀ e ∈ L,∃ g ∈ Gs,g.key = keyR cols e.f0
 idl : IdxL cols L
 own : ∀ k,IdxOwn x m A cols Gs k → N ≤ k
 boff : ∀ g ∈ Gs,∀ k,g.own k → k ≠ x ∧ k ≠ m ∧ ¬ ColB A cols k
 dis : ∀ g ∈ Gs,∀ h ∈ Gs,g.key = h.key ∨ ∀ k,g.own k → ¬ h.own k
 xoff : ¬ ColB A cols x
theorem ownsMap_heap {w w1 : World} {P : Program} {k : TypeId} {R : Value → Option (DataW Unit × List MemPlace)} {b n : Nat} {D : DataW Unit} (h : w.ownsMap P k R b n D) (e : w1.heap[b]? = w.heap[b]?) : w1.ownsMap P k R b n D := by
 obtain ⟨es,clock,h1,h2⟩ := h
 exact ⟨es,clock,e.trans h1,h2⟩
theorem C_int {w w1 : World} {A : Option Addr} {n : Nat} {l : List Int} (h : Kd.C (Kd.int .i64) w A n l) (hb : ∀ ad,A = some ad → 0 < n → w1.heap[ad.block]? = w.heap[ad.block]?) : Kd.C (Kd.int .i64) w1 A n l :=
 ⟨h.1,h.2.1,fun hn => by
  obtain ⟨ad,e,hc⟩ := h.2.2 hn
  refine ⟨ad,e,fun j p hj => ?_⟩
  obtain ⟨c,hl,hK,hcell⟩ := hc j p hj
  refine ⟨c,hl,hK,fun i u hi => ?_⟩
  have e2 := hb ad e (by omega)
  have e3 : w1.cell? (ad.add (j * (Kd.int .i64).sz + i)) = w.cell? (ad.add (j * (Kd.int .i64).sz + i)) := by
   unfold World.cell?
   rw [add_block,e2]
  exact e3.trans (hcell i u hi)⟩
theorem C_int_lt {w : World} {A : Option Addr} {n : Nat} {l : List Int} (h : Kd.C (Kd.int .i64) w A n l) (hn : 0 < n) : ∃ ad,A = some ad ∧ ∃ cs q f,w.heap[ad.block]? = some (.cells cs q f) := by
 obtain ⟨ad,e,hc⟩ := h.2.2 (by omega)
 refine ⟨ad,e,?_⟩
 obtain ⟨c,hl,hK,hcell⟩ := hc 0 (l[0]'(by rw [h.1];exact hn)) (List.getElem?_eq_getElem _)
 have hl2 : c.length = 1 := hl
 have h1 := hcell 0 (c[0]'(by omega)) (List.getElem?_eq_getElem _)
 unfold World.cell? at h1
 rw [add_block] at h1
 cases hh : w.heap[ad.block]? with
 | none => rw [hh] at h1;cases h1
 | some o =>
  cases o with
  | cells cs q f => exact ⟨cs,q,f,rfl⟩
  | _ => rw [hh] at h1;cases h1
theorem IdxAt.lt {N x m c : Nat} {w : World} {A : Option Addr} {cols : List Int} {M : DataW Unit} {Gs : List Bg} {L : List En} (h : IdxAt N w x m A c cols M Gs L) : ∀ k,IdxOwn x m A cols Gs k → k < w.heap.size := fun k hk => by
 rcases hk with e | e | e | ⟨g,hg,e⟩
 ·rw [e];exact blk_lt h.blk
 ·rw [e];exact h.map.lt
 ·obtain ⟨hn,ad,ea,ek⟩ := e
  obtain ⟨ad',ea',cs,q,f,hc⟩ := C_int_lt h.col hn
  rw [ea] at ea'
  injection ea' with ea'
  subst ea'
  rw [ek];exact blk_lt hc
 ·exact (h.bag g hg).own_lt k e
theorem IdxAt.keep {N x m c : Nat} {w w1 : World} {A : Option Addr} {cols : List Int} {M : DataW Unit} {Gs : List Bg} {L : List En} {S : Nat → Prop} (h : IdxAt N w x m A c cols M Gs L) (hc : Ch S w w1) (hS : ∀ k,S k → ¬ IdxOwn x m A cols Gs k) : IdxAt N w1 x m A c cols M Gs L :=
 { h with
  blk := hc.blk h.blk (fun s => hS x s (.inl rfl))
  col := C_int h.col (fun ad e hn => hc.block _ (h.lt _ (.inr (.inr (.inl ⟨hn,ad,e,rfl⟩)))) (fun s => hS _ s (.inr (.inr (.inl ⟨hn,ad,e,rfl⟩)))))
  map := ownsMap_heap h.map (hc.block m h.map.lt (fun s => hS m s (.inr (.inl rfl))))
  bag := fun g hg => (h.bag g hg).keep hc (fun k s o => hS k s (.inr (.inr (.inr ⟨g,hg,o⟩)))) }
theorem IdxAt.below {N x m c : Nat} {w w1 : World} {A : Option Addr} {cols : List Int} {M : DataW Unit} {Gs : List Bg} {L : List En} (h : IdxAt N w x m A c cols M Gs L) (hb : Below w.heap.size w w1) : IdxAt N w1 x m A c cols M Gs L :=
 h.keep (Ch.of_below (S := fun _ => False) hb) (fun _ s _ => s)
structure IdxCh (w w' : World) (o o' : Nat → Prop) : Prop where
 ch : Ch o w w'
 own : ∀ k,o' k → o k ∨ w.heap.size ≤ k
theorem IdxCh.same {w w' : World} {o : Nat → Prop} (h : Below w.heap.size w w') : IdxCh w w' o o := ⟨Ch.of_below h,fun _ h => .inl h⟩
def othG (key : Rw) (Gs : List Bg) : List Bg := Gs.filter fun g => !(kl g.key).sameKey (kl key)
theorem oth_mem {key : Rw} {Gs : List Bg} {g : Bg} (h : g ∈ othG key Gs) : g ∈ Gs ∧ g.key ≠ key := by
 obtain ⟨h1,h2⟩ := List.mem_filter.1 h
 refine ⟨h1,fun e => ?_⟩
 rw [kl_same e] at h2
 cases h2
theorem mem_oth {key : Rw} {Gs : List Bg} {g : Bg} (h : g ∈ Gs) (ha : AllV g.key) (hb : AllV key) (ga : InR g.key) (gb : InR key) (hn : g.key ≠ key) : g ∈ othG key Gs :=
 List.mem_filter.2 ⟨h,by
  cases hs : (kl g.key).sameKey (kl key) with
  | false => rfl
  | true => exact absurd (kl_inj ha hb ga gb (WideAt.sameKey_eq hs)) hn⟩
structure Turn (N : Nat) (w w' : World) (x m : Nat) (A : Option Addr) (cols : List Int) (Gs : List Bg) (r : Rw) (o0 : Nat → Prop) : Prop where
 ch : Ch (fun k => k = x ∨ k = m ∨ o0 k) w w'
 o0 : ∀ k,o0 k → (∃ g ∈ Gs,g.key = keyR cols r ∧ g.own k) ∨ w.heap.size ≤ k
theorem Turn.oth {N x m c : Nat} {w w' : World} {A : Option Addr} {cols : List Int} {M : DataW Unit} {Gs : List Bg} {L : List En} {r : Rw} {o0 : Nat → Prop} (h : IdxAt N w x m A c cols M Gs L) (k : Turn N w w' x m A cols Gs r o0) :
  ∀ g ∈ othG (keyR cols r) Gs,BagAt w' g.b g.t g.D := fun g hg => by
 obtain ⟨h1,h2⟩ := oth_mem hg
 refine (h.bag g h1).keep k.ch (fun i s o => ?_)
 rcases s with e | e | e
 ·exact (h.boff g h1 i o).1 e
 ·exact (h.boff g h1 i o).2.1 e
 ·rcases k.o0 i e with ⟨g',hg',e1,e2⟩ | e1
  ·rcases h.dis g' hg' g h1 with q | q
   ·exact h2 (q.symm.trans e1)
   ·exact q i e2 o
  ·have := (h.bag g h1).own_lt i o;omega
theorem Turn.col {N x m c : Nat} {w w' : World} {A : Option Addr} {cols : List Int} {M : DataW Unit} {Gs : List Bg} {L : List En} {r : Rw} {o0 : Nat → Prop} (h : IdxAt N w x m A c cols M Gs L) (k : Turn N w w' x m A cols Gs r o0) : Kd.C (Kd.int .i64) w' A cols.length cols :=
 C_int h.col (fun ad e hn => by
  have hC : ColB A cols ad.block := ⟨hn,ad,e,rfl⟩
  refine k.ch.block _ (h.lt _ (.inr (.inr (.inl hC)))) (fun s => ?_)
  rcases s with q | q | q
  ·exact h.xoff (q ▸ hC)
  ·obtain ⟨ad',ea',cs,t,f,hc⟩ := C_int_lt h.col hn
   rw [e] at ea'
   injection ea' with ea'
   subst ea'
   obtain ⟨es,cl,hm,_⟩ := h.map
   rw [q,hm] at hc
   cases hc
  ·rcases k.o0 _ q with ⟨g',hg',e1,e2⟩ | e1
   ·exact (h.boff g' hg' _ e2).2.2 hC
   ·have := h.lt _ (.inr (.inr (.inl hC)));omega)
theorem nodup_filter_map {α β : Type} (f : α → β) (p : α → Bool) : ∀ l : List α,(l.map f).Nodup → ((l.filter p).map f).Nodup
 | [],_ => by simp
 | a :: l,h => by
  rw [List.map_cons,List.nodup_cons] at h
  rw [List.filter_cons]
  split
  ·rw [List.map_cons,List.nodup_cons]
   refine ⟨fun q => h.1 ?_,nodup_filter_map f p l h.2⟩
   obtain ⟨b,hb,e⟩ := List.mem_map.1 q
   rw [← e];exact List.mem_map_of_mem (List.mem_filter.1 hb).1
  ·exact nodup_filter_map f p l h.2
end Go.Proofs.Ythmbfcfomcaaaaa.Z
end
section
namespace Go.Proofs.Ythmbfcfomcaaaaa.Z
set_option linter.unusedVariables false
set_option linter.unusedSimpArgs false
open Go.RowKit Go.Shelf Go.Maps Go.Proofs.YthmbfcfomcaaaaaW.PrintWords Go.Proofs.YthmbfcfomcaaaaaW.PrintLast Go.Proofs.YthmbfcfomcaaaaaW.PrintMore Go.Proofs.Ythmbfcfomcaaaaa.Cmp
theorem own_tightB {w : World} {b n : Nat} {D : DataW Unit} (h : w.ownsMap Try.prog 9 RB b n D) : w.ownsMap Try.prog 9 RB b (Maps.size D) D := by
 obtain ⟨es,clock,h1,h2,h3,rfl⟩ := h
 refine ⟨es,clock,h1,h2,?_,rfl⟩
 rw [size_eq,length_sorted]
 simp
theorem lawB : Keyed Try.prog 9 := string_keyed Try.underlying9
theorem same_false {a b : Go.Lit} (h : a ≠ b) : a.sameKey b = false := sameKey_ne h
theorem anyG (key : Rw) (Gs ng : List Bg) (s : Go.Lit) (hn : ∀ g ∈ ng,g.key = key) (hk : ng ≠ []) : (othG key Gs ++ ng).any (fun g => (kl g.key).sameKey s) = ((kl key).sameKey s || Gs.any fun g => (kl g.key).sameKey s) := by
 rw [List.any_append]
 cases hs : (kl key).sameKey s with
 | true =>
  rw [Bool.true_or]
  cases ng with
  | nil => exact absurd rfl hk
  | cons g ng => rw [List.any_cons,hn g List.mem_cons_self,hs];simp
 | false =>
  have e1 : (ng.any fun g => (kl g.key).sameKey s) = false := by
   rw [List.any_eq_false]
   intro g hg
   rw [hn g hg,hs];simp
  rw [e1,Bool.or_false,Bool.false_or]
  unfold othG
  exact any_filter_keep (f := fun g : Bg => (kl g.key).sameKey s) (g := fun g : Bg => !(kl g.key).sameKey (kl key)) (fun g hg => by
   cases hq : (kl g.key).sameKey (kl key) with
   | false => rfl
   | true =>
    have e1 := WideAt.sameKey_eq hq
    have hg : (kl g.key).sameKey s = true := hg
    rw [e1,hs] at hg
    cases hg) Gs
section
variable {N x m c : Nat} {w : World} {A : Option Addr} {cols : List Int} {M : DataW Unit} {Gs : List Bg} {L : List En}
theorem IdxAt.kl_ne (h : IdxAt N w x m A c cols M Gs L) {g : Bg} (hg : g ∈ Gs) {key : Rw} (ha : AllV key) (hi : InR key) (hn : g.key ≠ key) : kl g.key ≠ kl key := fun e =>
 hn (kl_inj (h.kok g hg).1 ha (h.kok g hg).2.1 hi e)
theorem IdxAt.pair (h : IdxAt N w x m A c cols M Gs L) : ∀ Hs : List Bg,(∀ g ∈ Hs,g ∈ Gs) → (Hs.map Bg.key).Nodup → (Hs.map fun g => (kl g.key,(DataW.nil : DataW Unit))).Pairwise (fun p q => p.1 ≠ q.1)
 | [],_,_ => List.Pairwise.nil
 | g :: Hs,hs,hn => by
  rw [List.map_cons,List.nodup_cons] at hn
  rw [List.map_cons,List.pairwise_cons]
  refine ⟨fun p hp => ?_,IdxAt.pair h Hs (fun y hy => hs y (List.mem_cons_of_mem _ hy)) hn.2⟩
  obtain ⟨y,hy,rfl⟩ := List.mem_map.1 hp
  have hy2 := hs y (List.mem_cons_of_mem _ hy)
  exact h.kl_ne (hs g List.mem_cons_self) (h.kok y hy2).1 (h.kok y hy2).2.1 (fun e => hn.1 (by rw [e];exact List.mem_map_of_mem hy))
theorem IdxAt.oth_len (h : IdxAt N w x m A c cols M Gs L) (key : Rw) : (othG key Gs).length + (if Maps.has M (kl key) = true then 1 else 0) = Gs.length := by
 have h1 := length_strike (k := kl key) (Gs.map fun g => (kl g.key,(DataW.nil : DataW Unit))) (h.pair Gs (fun _ q => q) h.keys)
 rw [List.filter_map,List.length_map,List.length_map,List.any_map] at h1
 rw [h.has]
 exact h1
theorem IdxAt.there (h : IdxAt N w x m A c cols M Gs L) {key : Rw} (ha : AllV key) (hi : InR key) : Maps.has M (kl key) = true ↔ ∃ g ∈ Gs,g.key = key := by
 rw [h.has,List.any_eq_true]
 constructor
 ·rintro ⟨g,hg,e⟩
  exact ⟨g,hg,kl_inj (h.kok g hg).1 ha (h.kok g hg).2.1 hi (WideAt.sameKey_eq e)⟩
 ·rintro ⟨g,hg,e⟩
  exact ⟨g,hg,kl_same e⟩
theorem IdxAt.grp_none (h : IdxAt N w x m A c cols M Gs L) {key : Rw} (ha : AllV key) (hn : ∀ g ∈ Gs,g.key ≠ key) : grp cols key L = [] := by
 unfold grp
 refine filter_none (fun e he => decide_eq_false (fun q => ?_))
 obtain ⟨g,hg,eg⟩ := h.all e he
 have := key_eq (h.idl.ok e he).1 ha q
 exact hn g hg (eg.trans this)
theorem IdxAt.turn {w' : World} {r : Rw} {mm : Int} {o0 : Nat → Prop} {M' : DataW Unit} {n' : Nat} (ng : List Bg) (h : IdxAt N w x m A c cols M Gs L) (hr : rright r = true) (hp : (pickF r cols []).2 = 0) (hi : InR r) (hN : N ≤ w.heap.size)
  (k : Turn N w w' x m A cols Gs r o0)
  (blk' : w'.heap[x]? = some (.cells #[.slice A cols.length c,.map (some m),.int .i64 ((addD r mm L).2.length : Int)] tIX (0,0)))
  (map' : w'.ownsMap Try.prog 9 RB m n' M')
  (has' : ∀ s,Maps.has M' s = (othG (keyR cols r) Gs ++ ng).any fun g => (kl g.key).sameKey s)
  (at' : ∀ g ∈ othG (keyR cols r) Gs ++ ng,∀ z,M'.atKey (kl g.key) z = .lit (.int .i64 (g.b : Int)))
  (siz' : Maps.size M' = (othG (keyR cols r) Gs ++ ng).length)
  (one : ng.length ≤ 1)
  (ngk : ∀ g ∈ ng,g.key = keyR cols r ∧ BagAt w' g.b g.t g.D ∧ docT g.t = grp cols (keyR cols r) (addD r mm L).2 ∧ docT g.t ≠ [] ∧ ∀ i,g.own i → o0 i)
  (nge : ng = [] → grp cols (keyR cols r) (addD r mm L).2 = []) :
  IdxAt N w' x m A c cols M' (othG (keyR cols r) Gs ++ ng) (addD r mm L).2 ∧ IdxCh w w' (IdxOwn x m A cols Gs) (IdxOwn x m A cols (othG (keyR cols r) Gs ++ ng)) := by
 have hka := keyR_all (cols := cols) hr
 have hki := keyR_in (cols := cols) hi
 have o0' : ∀ i,o0 i → (∃ g ∈ Gs,g.own i) ∨ w.heap.size ≤ i := fun i hi => (k.o0 i hi).imp (fun ⟨g,hg,_,e⟩ => ⟨g,hg,e⟩) id
 have own' : ∀ i,IdxOwn x m A cols (othG (keyR cols r) Gs ++ ng) i → IdxOwn x m A cols Gs i ∨ w.heap.size ≤ i := fun i hi => by
  rcases hi with e | e | e | ⟨g,hg,e⟩
  ·exact .inl (.inl e)
  ·exact .inl (.inr (.inl e))
  ·exact .inl (.inr (.inr (.inl e)))
  ·rcases List.mem_append.1 hg with hg | hg
   ·exact .inl (.inr (.inr (.inr ⟨g,(oth_mem hg).1,e⟩)))
   ·exact (o0' i ((ngk g hg).2.2.2.2 i e)).imp (fun q => .inr (.inr (.inr q))) id
 refine ⟨?_,⟨⟨k.ch.os,k.ch.tape,k.ch.output,k.ch.size,fun i hi hn => k.ch.block i hi (fun s => by
  rcases s with e | e | e
  ·exact hn (.inl e)
  ·exact hn (.inr (.inl e))
  ·rcases o0' i e with q | q
   ·exact hn (.inr (.inr (.inr q)))
   ·omega)⟩,own'⟩⟩
 refine ⟨blk',h.cap,k.col h,?_,has',at',siz',?_,?_,?_,?_,?_,?_,?_,?_,h.xoff⟩
 ·have := own_tightB map'
  rw [siz'] at this
  exact this
 ·rw [List.map_append]
  refine List.nodup_append.2 ⟨nodup_filter_map Bg.key _ Gs h.keys,?_,fun a ha b hb e => ?_⟩
  ·cases ng with
   | nil => exact List.nodup_nil
   | cons g ng =>
    cases ng with
    | nil => simp
    | cons g2 ng => simp at one
  ·obtain ⟨g,hg,rfl⟩ := List.mem_map.1 ha
   obtain ⟨g2,hg2,rfl⟩ := List.mem_map.1 hb
   exact (oth_mem hg).2 (e.trans (ngk g2 hg2).1)
 ·intro g hg
  rcases List.mem_append.1 hg with hg | hg
  ·exact k.oth h g hg
  ·exact (ngk g hg).2.1
 ·intro g hg
  rcases List.mem_append.1 hg with hg | hg
  ·obtain ⟨h1,h2⟩ := oth_mem hg
   obtain ⟨i1,i2,i3,i4⟩ := h.kok g h1
   refine ⟨i1,i2,?_,i4⟩
   rw [i3,add_other mm h.idl.srt h.idl.ok hr (fun q => h2 (key_eq hr i1 q).symm)]
  ·obtain ⟨i1,i2,i3,i4,_⟩ := ngk g hg
   exact ⟨by rw [i1];exact hka,by rw [i1];exact hki,by rw [i1];exact i3,i4⟩
 ·intro e he
  by_cases hke : keyR cols e.f0 = keyR cols r
  ·cases ng with
   | nil =>
    have h1 := nge rfl
    have h2 : e ∈ grp cols (keyR cols r) (addD r mm L).2 := List.mem_filter.2 ⟨he,by rw [hke];exact decide_eq_true (rcmp_law.self _)⟩
    rw [h1] at h2
    cases h2
   | cons g ng => exact ⟨g,by simp,by rw [(ngk g List.mem_cons_self).1,hke]⟩
  ·rcases mem_add he with q | q
   ·obtain ⟨g,hg,eg⟩ := h.all e q
    exact ⟨g,List.mem_append_left _ (mem_oth hg (h.kok g hg).1 hka (h.kok g hg).2.1 hki (fun e2 => hke (eg.symm.trans e2))),eg⟩
   ·exact absurd (by rw [q]) hke
 ·have := h.idl.add r mm hi
  unfold idxAdd at this
  rw [if_pos ⟨hp,hr⟩] at this
  exact this
 ·exact fun i hi => (own' i hi).elim (h.own i) (fun q => by omega)
 ·intro g hg i hi
  rcases List.mem_append.1 hg with hg | hg
  ·exact h.boff g (oth_mem hg).1 i hi
  ·rcases k.o0 i ((ngk g hg).2.2.2.2 i hi) with ⟨g',hg',_,e⟩ | q
   ·exact h.boff g' hg' i e
   ·exact ⟨fun e => by have := h.lt x (.inl rfl);omega,fun e => by have := h.lt m (.inr (.inl rfl));omega,fun e => by have := h.lt i (.inr (.inr (.inl e)));omega⟩
 ·have key (g : Bg) (hg : g ∈ othG (keyR cols r) Gs) (g2 : Bg) (hg2 : g2 ∈ ng) : ∀ i,g.own i → ¬ g2.own i := fun i o1 o2 => by
   obtain ⟨h1,h2⟩ := oth_mem hg
   rcases k.o0 i ((ngk g2 hg2).2.2.2.2 i o2) with ⟨g',hg',e1,e2⟩ | q
   ·rcases h.dis g' hg' g h1 with q | q
    ·exact h2 (q.symm.trans e1)
    ·exact q i e2 o1
   ·have := (h.bag g h1).own_lt i o1;omega
  intro g hg g2 hg2
  rcases List.mem_append.1 hg with hg | hg
  ·rcases List.mem_append.1 hg2 with hg2 | hg2
   ·exact h.dis g (oth_mem hg).1 g2 (oth_mem hg2).1
   ·exact .inr (key g hg g2 hg2)
  ·rcases List.mem_append.1 hg2 with hg2 | hg2
   ·exact .inr (fun i o1 o2 => key g2 hg2 g hg i o2 o1)
   ·exact .inl ((ngk g hg).1.trans (ngk g2 hg2).1.symm)
theorem IdxAt.put {w' : World} {r : Rw} {mm : Int} {o0 : Nat → Prop} {n' : Nat} (g : Bg) (h : IdxAt N w x m A c cols M Gs L) (hr : rright r = true) (hp : (pickF r cols []).2 = 0) (hi : InR r) (hN : N ≤ w.heap.size)
  (k : Turn N w w' x m A cols Gs r o0)
  (blk' : w'.heap[x]? = some (.cells #[.slice A cols.length c,.map (some m),.int .i64 ((addD r mm L).2.length : Int)] tIX (0,0)))
  (map' : w'.ownsMap Try.prog 9 RB m n' (M.put (kl (keyR cols r)) (.lit (.int .i64 (g.b : Int)))))
  (gk : g.key = keyR cols r) (gb : BagAt w' g.b g.t g.D) (gd : docT g.t = grp cols (keyR cols r) (addD r mm L).2) (gn : docT g.t ≠ []) (go : ∀ i,g.own i → o0 i) :
  IdxAt N w' x m A c cols (M.put (kl (keyR cols r)) (.lit (.int .i64 (g.b : Int)))) (othG (keyR cols r) Gs ++ [g]) (addD r mm L).2 ∧ IdxCh w w' (IdxOwn x m A cols Gs) (IdxOwn x m A cols (othG (keyR cols r) Gs ++ [g])) := by
 have hM := h.map.isMap
 have hka := keyR_all (cols := cols) hr
 have hki := keyR_in (cols := cols) hi
 refine h.turn [g] hr hp hi hN k blk' map' (fun s => ?_) (fun y hy z => ?_) ?_ (by simp) (fun y hy => ?_) (fun e => by cases e)
 ·rw [anyG (keyR cols r) Gs [g] s (fun y hy => by rw [List.mem_singleton.1 hy];exact gk) (by simp)]
  by_cases e : s = kl (keyR cols r)
  ·rw [e,has_put_same hM (kl_key _),kl_same rfl,Bool.true_or]
  ·rw [has_put_other e,same_false (fun q => e q.symm),Bool.false_or]
   exact h.has s
 ·rcases List.mem_append.1 hy with hy | hy
  ·obtain ⟨h1,h2⟩ := oth_mem hy
   rw [atKey_put_other (h.kl_ne h1 hka hki h2)]
   exact h.at_ y h1 z
  ·rw [List.mem_singleton.1 hy,gk]
   exact atKey_put_same hM (kl_key _) _ z
 ·rw [size_put (h.map.tidy lawB),List.length_append,h.siz]
  have := h.oth_len (keyR cols r)
  simp only [List.length_singleton]
  split
  ·rename_i q;rw [if_pos q] at this;omega
  ·rename_i q;rw [if_neg q] at this;omega
 ·rw [List.mem_singleton.1 hy]
  exact ⟨gk,gb,gd,gn,go⟩
theorem IdxAt.del {w' : World} {r : Rw} {mm : Int} {o0 : Nat → Prop} {n' : Nat} (h : IdxAt N w x m A c cols M Gs L) (hr : rright r = true) (hp : (pickF r cols []).2 = 0) (hi : InR r) (hN : N ≤ w.heap.size)
  (k : Turn N w w' x m A cols Gs r o0)
  (blk' : w'.heap[x]? = some (.cells #[.slice A cols.length c,.map (some m),.int .i64 ((addD r mm L).2.length : Int)] tIX (0,0)))
  (map' : w'.ownsMap Try.prog 9 RB m n' (M.del (kl (keyR cols r))))
  (gd : grp cols (keyR cols r) (addD r mm L).2 = []) :
  IdxAt N w' x m A c cols (M.del (kl (keyR cols r))) (othG (keyR cols r) Gs ++ []) (addD r mm L).2 ∧ IdxCh w w' (IdxOwn x m A cols Gs) (IdxOwn x m A cols (othG (keyR cols r) Gs ++ [])) := by
 have hM := h.map.isMap
 have hka := keyR_all (cols := cols) hr
 have hki := keyR_in (cols := cols) hi
 refine h.turn [] hr hp hi hN k blk' map' (fun s => ?_) (fun y hy z => ?_) ?_ (by simp) (fun y hy => by cases hy) (fun _ => gd)
 ·rw [List.append_nil]
  by_cases e : s = kl (keyR cols r)
  ·rw [e]
   have h1 : Maps.has (M.del (kl (keyR cols r))) (kl (keyR cols r)) = false := by
    first
     | exact has_del_same
     | exact has_del_same _
     | exact has_false_of_atKey (fun z => atKey_del_same z)
   rw [h1]
   symm
   rw [List.any_eq_false]
   intro g hg q
   obtain ⟨h2,h3⟩ := oth_mem hg
   exact h.kl_ne h2 hka hki h3 (WideAt.sameKey_eq q)
  ·rw [has_del_other e,h.has s]
   symm
   unfold othG
   exact any_filter_keep (f := fun g : Bg => (kl g.key).sameKey s) (g := fun g : Bg => !(kl g.key).sameKey (kl (keyR cols r))) (fun g hg => by
    cases hq : (kl g.key).sameKey (kl (keyR cols r)) with
    | false => rfl
    | true =>
     have e1 := WideAt.sameKey_eq hq
     have hg : (kl g.key).sameKey s = true := hg
     exact absurd ((WideAt.sameKey_eq hg).symm.trans e1) e) Gs
 ·rw [List.append_nil] at hy
  obtain ⟨h1,h2⟩ := oth_mem hy
  rw [atKey_del_other (h.kl_ne h1 hka hki h2)]
  exact h.at_ y h1 z
 ·have h1 := size_del (k := kl (keyR cols r)) (h.map.tidy lawB)
  have h2 := h.oth_len (keyR cols r)
  rw [h.siz] at h1
  rw [List.append_nil]
  omega
theorem IdxAt.back {w' : World} {r : Rw} {mm : Int} {o0 : Nat → Prop} (g g0 : Bg) (h : IdxAt N w x m A c cols M Gs L) (hr : rright r = true) (hp : (pickF r cols []).2 = 0) (hi : InR r) (hN : N ≤ w.heap.size) (h0 : g0 ∈ Gs) (e0 : g0.key = keyR cols r) (eb : g.b = g0.b)
  (k : Turn N w w' x m A cols Gs r o0)
  (blk' : w'.heap[x]? = some (.cells #[.slice A cols.length c,.map (some m),.int .i64 ((addD r mm L).2.length : Int)] tIX (0,0)))
  (map' : w'.ownsMap Try.prog 9 RB m Gs.length M)
  (gk : g.key = keyR cols r) (gb : BagAt w' g.b g.t g.D) (gd : docT g.t = grp cols (keyR cols r) (addD r mm L).2) (gn : docT g.t ≠ []) (go : ∀ i,g.own i → o0 i) :
  IdxAt N w' x m A c cols M (othG (keyR cols r) Gs ++ [g]) (addD r mm L).2 ∧ IdxCh w w' (IdxOwn x m A cols Gs) (IdxOwn x m A cols (othG (keyR cols r) Gs ++ [g])) := by
 have hka := keyR_all (cols := cols) hr
 have hki := keyR_in (cols := cols) hi
 refine h.turn [g] hr hp hi hN k blk' map' (fun s => ?_) (fun y hy z => ?_) ?_ (by simp) (fun y hy => ?_) (fun e => by cases e)
 ·rw [anyG (keyR cols r) Gs [g] s (fun y hy => by rw [List.mem_singleton.1 hy];exact gk) (by simp),h.has s]
  cases hs : (kl (keyR cols r)).sameKey s with
  | false => rfl
  | true =>
   rw [Bool.true_or,List.any_eq_true]
   exact ⟨g0,h0,by rw [e0];exact hs⟩
 ·rcases List.mem_append.1 hy with hy | hy
  ·exact h.at_ y (oth_mem hy).1 z
  ·rw [List.mem_singleton.1 hy,gk,← e0,eb]
   exact h.at_ g0 h0 z
 ·rw [h.siz,List.length_append]
  have := h.oth_len (keyR cols r)
  rw [if_pos ((h.there hka hki).2 ⟨g0,h0,e0⟩)] at this
  simp only [List.length_singleton]
  omega
 ·rw [List.mem_singleton.1 hy]
  exact ⟨gk,gb,gd,gn,go⟩
end
end Go.Proofs.Ythmbfcfomcaaaaa.Z
end
section
namespace Go.Proofs.Ythmbfcfomcaaaaa.Z
set_option linter.unusedVariables false
set_option linter.unusedSimpArgs false
open Go.RowKit Go.Shelf Go.Maps Go.Proofs.YthmbfcfomcaaaaaW.PrintWords Go.Proofs.YthmbfcfomcaaaaaW.PrintLast Go.Proofs.YthmbfcfomcaaaaaW.PrintMore Go.Proofs.Ythmbfcfomcaaaaa.Cmp
attribute [local go_sem] Oper.semAt_some
theorem rdI_get {xs : List Int} {i : Nat} (h : i < xs.length) : rd xs (i : Int) = xs[i] := by unfold rd;simp [List.getD,List.getElem?_eq_getElem h]
theorem dropI_rd {xs : List Int} {i : Nat} (h : i < xs.length) : xs.drop i = rd xs (i : Int) :: xs.drop (i + 1) := by rw [rdI_get h];exact List.drop_eq_getElem_cons h
theorem pick_l0 (r : Rw) (cols : List Int) (hl : cols.length ≤ 1000000000) : ∀ d i k acc,cols.length - i = d → i ≤ cols.length → acc.length ≤ i → d < k → row_Pick.l0 k r acc cols (cols.length : Int) (i : Int) = some (pickF r (cols.drop i) acc) := by
 intro d
 induction d with
 | zero =>
  intro i k acc hd hi ha hk
  obtain ⟨k,rfl⟩ : ∃ m,k = m + 1 := ⟨k - 1,by omega⟩
  simp only [row_Pick.l0]
  rw [if_neg (by omega),List.drop_eq_nil_of_le (by omega)]
  rfl
 | succ d ih =>
  intro i k acc hd hi ha hk
  obtain ⟨k,rfl⟩ : ∃ m,k = m + 1 := ⟨k - 1,by omega⟩
  have hlt : i < cols.length := by omega
  simp only [row_Pick.l0]
  rw [if_pos (by omega),if_pos (by omega),if_pos (by omega),dropI_rd hlt]
  simp only [pickF]
  by_cases h1 : rd cols (i : Int) < 0
  ·rw [if_pos h1,if_pos (.inl h1)]
  ·by_cases h2 : rd cols (i : Int) ≥ (r.length : Int)
   ·rw [if_neg h1,if_pos h2,if_pos (.inr h2)]
   ·rw [if_neg h1,if_neg h2,if_pos (by omega),if_pos (by omega),if_pos (by omega),if_neg (by omega),wrap_succ hlt (by omega)]
    exact ih (i + 1) k _ (by omega) (by omega) (by simp;omega) (by omega)
theorem pick_f (r : Rw) (cols : List Int) (hl : cols.length ≤ 1000000000) (k : Nat) (hk : cols.length < k) : row_Pick.f k r cols = some (pickF r cols []) := by
 unfold row_Pick.f
 have h := pick_l0 r cols hl cols.length 0 k [] (by omega) (by omega) (by simp) hk
 rw [show ((0 : Nat) : Int) = 0 from rfl] at h
 rw [if_pos (by omega),if_pos (by omega),h]
 rfl
theorem pick_at (A0 A1 : Option Addr) (c0 c1 : Nat) (r : Rw) (cols : List Int) (w : World) (h0 : RowC w A0 c0 r) (h1 : Kd.C (Kd.int .i64) w A1 cols.length cols) (hc : cols.length ≤ c1) (hl : cols.length ≤ 1048576) :
  Calls Try.prog 80 #[.slice A0 r.length c0,.slice A1 cols.length c1] w fun e w' => ∃ v,e = .returned (.tuple #[v,.int .i64 (pickF r cols []).2]) ∧ Kd.R k66 66 w' w.heap.size (fun _ => True) v (keyR cols r) ∧ Below w.heap.size w w' :=
 row_Pick.calls 1048577 A0 c0 r A1 c1 cols (keyR cols r) (pickF r cols []).2 w h0.row h0.cap h1 hc (pick_f r cols (by omega) 1048577 (by omega))
theorem packValue_g (v : S66) (k : Nat) (hk : 510 ≤ k) : pack_Value.f k v.f0 v.f1 v.f2 v.f3 = some (encV v) := by
 by_cases h : vright v = true
 ·exact packValue_f v (by have := vright_text h;omega) k hk
 ·unfold pack_Value.f encV
  rw [vright_f,Option.bind_some,if_neg h,if_neg h]
theorem encV_le (v : S66) : (encV v).length ≤ 129 := by
 unfold encV
 split
 ·rename_i h
  have := encG_len (vright_text h)
  omega
 ·simp
theorem packRow_h (r : Rw) (hl : r.length ≤ 1048576) : ∀ d i k (acc : List Int),r.length - i = d → i ≤ r.length → acc.length ≤ 129 * i → d + 510 < k → pack_Row.l0 k acc r (r.length : Int) (i : Int) = some (encR (r.drop i) acc) := by
 intro d
 induction d with
 | zero =>
  intro i k acc hd hi ha hk
  obtain ⟨k,rfl⟩ : ∃ m,k = m + 1 := ⟨k - 1,by omega⟩
  simp only [pack_Row.l0]
  rw [if_neg (by omega),List.drop_eq_nil_of_le (by omega),if_pos (by omega)]
  rfl
 | succ d ih =>
  intro i k acc hd hi ha hk
  obtain ⟨k,rfl⟩ : ∃ m,k = m + 1 := ⟨k - 1,by omega⟩
  have hlt : i < r.length := by omega
  have hlen := encV_le (q0f r (i : Int))
  simp only [pack_Row.l0]
  rw [if_pos (by omega),if_pos (by omega),if_pos (by omega),packValue_g _ k (by omega),drop_rd hlt]
  simp only [Option.bind_some,encR]
  by_cases hz : ((encV (q0f r (i : Int))).length : Int) = 0
  ·rw [if_pos hz,if_pos hz]
  ·rw [if_neg hz,if_neg hz,if_pos (by omega),wrap_succ hlt (by omega)]
   exact ih (i + 1) k _ (by omega) (by omega) (by simp;omega) (by omega)
theorem pack_at (A : Option Addr) (c : Nat) (r : Rw) (w : World) (h : RowC w A c r) (hl : r.length ≤ 1048576) :
  Calls Try.prog 81 #[.slice A r.length c] w fun e w' => ∃ v,e = .returned v ∧ Kd.R (Kd.int .u8) 5 w' w.heap.size (fun _ => True) v (encR r []) ∧ Below w.heap.size w w' :=
 pack_Row.calls 1050000 A c r (encR r []) w h.row h.cap (by
  have := packRow_h r hl r.length 0 1050000 [] (by omega) (by omega) (by simp) (by omega)
  exact this)
theorem encR_all {r : Rw} (h : AllV r) : encR r [] = encA r := by
 rcases encR_cases r [] with ⟨_,v,hv,h2⟩ | ⟨h1,_⟩
 ·rw [h v hv] at h2;cases h2
 ·simpa using h1
theorem encR_not {r : Rw} (h : ¬ AllV r) : encR r [] = [] := by
 rcases encR_cases r [] with ⟨h1,_⟩ | ⟨_,h2⟩
 ·exact h1
 ·exact absurd h2 h
theorem kB_size {r : Rw} (h : AllV r) (hl : r.length ≤ 1048576) : (kB r).size ≤ maxLen := by
 have h1 := encA_len r (fun v hv => by have := vright_text (h v hv);omega)
 have h2 : (kB r).size = (encA r).length := by
  show ((encA r).map fun n => UInt8.ofNat n.toNat).toArray.size = _
  rw [List.size_toArray,List.length_map]
 unfold maxLen
 omega
end Go.Proofs.Ythmbfcfomcaaaaa.Z
end
section
namespace Go.Proofs.Ythmbfcfomcaaaaa.Z
open Go.RowKit Go.Proofs.YthmbfcfomcaaaaaW.PrintWords Go.Proofs.YthmbfcfomcaaaaaW.PrintLast Go.Proofs.YthmbfcfomcaaaaaW.PrintMore
attribute [local go_sem] max2_int min2_int max_two min_two max_three min_three max_four min_four
set_option linter.unusedVariables false
set_option linter.unusedSimpArgs false
def verdererlaw05_few.l0 : Nat → List (S34) → Int → Option (Bool)
 | 0,_,_ => none
 | k + 1,x0,x3 => if x3 < (x0.length : Int) then (if 0 ≤ x3 then (if (((rd_T34 x0 x3).f0).length : Int) > 50 then (some false) else (verdererlaw05_few.l0 k x0 (wrap64 (x3 + 1)))) else (none)) else (some true)
def verdererlaw05_few.f (k : Nat) (l0 : List (S34)) : Option (Bool) := if (l0.length : Int) > 120 then (some false) else (verdererlaw05_few.l0 k l0 0)
theorem verdererlaw05_few.mono_l : ∀ k,(∀ y0 y1,LeO (verdererlaw05_few.l0 k y0 y1) (verdererlaw05_few.l0 (k + 1) y0 y1))
 | 0 => fun _ _ r h => by simp [verdererlaw05_few.l0] at h
 | k + 1 => by
  have ih0 := verdererlaw05_few.mono_l k
  ·intro y0 y1
   unfold verdererlaw05_few.l0
   repeat' first
   | (with_reducible exact ih0 _ _)
   | (with_reducible exact LeO.refl _)
   | (with_reducible exact LeO.none _)
   | (with_reducible refine LeO.ite ?_ ?_)
   | (with_reducible refine LeO.bind ?_ (fun _ => ?_))
   | exact ih0 _ _
   | exact LeO.none _
   | refine LeO.ite ?_ ?_
   | refine LeO.bind ?_ (fun _ => ?_)
theorem verdererlaw05_few.mono : ∀ a0 k,LeO (verdererlaw05_few.f k a0) (verdererlaw05_few.f (k + 1) a0) := by
 intro a0 k
 have ih0 := verdererlaw05_few.mono_l k
 unfold verdererlaw05_few.f
 repeat' first
   | (with_reducible exact ih0 _ _)
   | (with_reducible exact LeO.refl _)
   | (with_reducible exact LeO.none _)
   | (with_reducible refine LeO.ite ?_ ?_)
   | (with_reducible refine LeO.bind ?_ (fun _ => ?_))
   | exact ih0 _ _
   | exact LeO.none _
   | refine LeO.ite ?_ ?_
   | refine LeO.bind ?_ (fun _ => ?_)
end Go.Proofs.Ythmbfcfomcaaaaa.Z
end
section
namespace Go.Proofs.Ythmbfcfomcaaaaa.Z
set_option linter.unusedVariables false
set_option linter.unusedSimpArgs false
open Go.RowKit Go.Proofs.YthmbfcfomcaaaaaW.PrintWords Go.Proofs.YthmbfcfomcaaaaaW.PrintLast Go.Proofs.YthmbfcfomcaaaaaW.PrintMore Go.Proofs.Ythmbfcfomcaaaaa.Cmp
theorem ent_get {w : World} {A : Option Addr} {n : Nat} {L : List En} (h : Kd.C k34 w A n L) {i : Nat} (hi : i < n) {x : En} (hx : L[i]? = some x) :
  ∃ ad A0 c0,A = some ad ∧ w.cell? (ad.add (i * 2)) = some (.slice A0 x.f0.length c0) ∧ w.cell? ⟨(ad.add (i * 2)).block,(ad.add (i * 2)).off + 1,none⟩ = some (.int .i64 x.f1) ∧ RowC w A0 c0 x.f0 := by
 obtain ⟨ad,cs,e1,hcl,hK,hcc⟩ := Kd.C_get h z34 (i : Int) (by omega) (by omega)
 simp only [Int.toNat_natCast] at hK hcc
 rw [List.getD_eq_getElem?_getD,hx] at hK
 obtain ⟨A0,c0,e2,hl,hF⟩ := k34_open hK
 subst e2
 have hc : ∀ j u,[Value.slice A0 x.f0.length c0,Value.int .i64 x.f1][j]? = some u → w.cell? (ad.add (i * 2 + j)) = some u := hcc
 exact ⟨ad,A0,c0,e1,hc 0 _ rfl,by rw [← add_field _ _ 1 (by omega)];exact hc 1 _ rfl,hl,hF⟩
end Go.Proofs.Ythmbfcfomcaaaaa.Z
end
section
namespace Go.Proofs.Ythmbfcfomcaaaaa.Z
open Go.RowKit Go.Proofs.YthmbfcfomcaaaaaW.PrintWords Go.Proofs.YthmbfcfomcaaaaaW.PrintLast Go.Proofs.YthmbfcfomcaaaaaW.PrintMore
attribute [local go_sem] max2_int min2_int max_two min_two max_three min_three max_four min_four
set_option linter.unusedVariables false
set_option linter.unusedSimpArgs false
def index_clean.f (a0_0 : Int) (a0_1 : Bool) (a0_2 : Int) (a0_3 : ByteArray) : Option (Int × Bool × Int × ByteArray) := if a0_0 = 0 then ((value_Null.f).bind fun bt286 => (some (bt286.1,bt286.2.1,bt286.2.2.1,bt286.2.2.2))) else (if a0_0 = 1 then ((value_Bool.f a0_1).bind fun bt290 => (some (bt290.1,bt290.2.1,bt290.2.2.1,bt290.2.2.2))) else (if a0_0 = 2 then ((value_Int.f a0_2).bind fun bt294 => (some (bt294.1,bt294.2.1,bt294.2.2.1,bt294.2.2.2))) else (if a0_0 = 3 then ((value_Text.f a0_3).bind fun bt298 => (some (bt298.1,bt298.2.1,bt298.2.2.1,bt298.2.2.2))) else (some (a0_0,a0_1,a0_2,a0_3)))))
set_option maxHeartbeats 8000000 in
set_option maxRecDepth 100000 in
theorem index_clean.calls (a0_0 : Int) (a0_1 : Bool) (a0_2 : Int) (a0_3 : ByteArray) (r1 : Int) (r2 : Bool) (r3 : Int) (r4 : ByteArray) (w : World) (h : index_clean.f a0_0 a0_1 a0_2 a0_3 = some (r1,r2,r3,r4)) :
  Calls Try.prog 101 #[.agg #[.int .i64 a0_0,.bool a0_1,.int .i64 a0_2,.string a0_3]] w fun e w' => e = .returned (.agg #[.int .i64 r1,.bool r2,.int .i64 r3,.string r4]) ∧ Below w.heap.size w w' := by
 have hu66 := Try.underlying66
 have HB := Aside0.mk (Below.refl w.heap.size w)
 have H : (if a0_0 = 0 then ((value_Null.f).bind fun bt286 => (some (bt286.1,bt286.2.1,bt286.2.2.1,bt286.2.2.2))) else (if a0_0 = 1 then ((value_Bool.f a0_1).bind fun bt290 => (some (bt290.1,bt290.2.1,bt290.2.2.1,bt290.2.2.2))) else (if a0_0 = 2 then ((value_Int.f a0_2).bind fun bt294 => (some (bt294.1,bt294.2.1,bt294.2.2.1,bt294.2.2.2))) else (if a0_0 = 3 then ((value_Text.f a0_3).bind fun bt298 => (some (bt298.1,bt298.2.1,bt298.2.2.1,bt298.2.2.2))) else (some (a0_0,a0_1,a0_2,a0_3)))))) = some (r1,r2,r3,r4) := h
 clear h
 by_cases c2 : a0_0 = 0
 ·rw [if_pos c2] at H
  have c2b0 : (a0_0 == 0) = true := beq_iff_eq.mpr c2
  have c2b1 : (a0_0 != 0) = false := bne_eq_false_iff_eq.mpr c2
  clear c2
  replace H := Option.bind_eq_some_iff.mp H
  obtain ⟨⟨t286,t287,t288,t289⟩,A30,H⟩ := H
  replace H : (some (t286,t287,t288,t289)) = some (r1,r2,r3,r4) := H
  have A3 := Aside0.mk A30
  clear A30
  simp only [Option.some.injEq,Prod.mk.injEq] at H
  obtain ⟨rfl,rfl,rfl,rfl⟩ := H
  go_enter Try.func101,Try.ntmps101
  go_wp2_with (first | ((with_reducible refine q0p (N := 1) rfl ?_);refine q0o ?hg (N := 1) ?hd (cs := #[.int .i64 a0_0,.bool a0_1,.int .i64 a0_2,.string a0_3]) (t := 66) ?hr ?_;(case hd => rfl);(case hg => rfl);(case hr => first | (go_simp;done) | (go_simp;rfl));intro gb284 hg w4 hbox hb;have n0_ := Aside0.mk (q0n (by repeat (first | (with_reducible first | exact HB.out | apply q0b | apply q0a | apply q0c) | exact HB.out)) hb);have n1_ := Aside0.mk (hbox);have n2_ := Aside0.mk ((by rw [hg];exact (q0g (by repeat (first | (with_reducible first | exact HB.out | apply q0b | apply q0a | apply q0c) | exact HB.out))) : w.heap.size ≤ gb284));have n3_ := Aside0.mk ((by rw [hg];exact (q0g (by repeat (first | (with_reducible first | exact HB.out | apply q0b | apply q0a | apply q0c) | exact HB.out))) : w.heap.size ≤ gb284));clear HB;have HB := n0_;have BK284 := n1_;have GW284 := n2_;have GE284 := n3_;clear n0_ n1_ n2_ n3_;clear hb hbox hg) | ((with_reducible refine q0p (N := 2) rfl ?_);refine q0o ?hg (N := 2) ?hd (cs := #[.int .i64 0,.bool false,.int .i64 0,.string (⟨#[]⟩ : ByteArray)]) (t := 66) ?hr ?_;(case hd => rfl);(case hg => rfl);(case hr => first | (go_simp;done) | (go_simp;rfl));intro gb285 hg w5 hbox hb;have n0_ := Aside0.mk (q0s (g := gb284) (o := .cells #[.int .i64 a0_0,.bool a0_1,.int .i64 a0_2,.string a0_3] 66 (0,0)) (by (with_reducible repeat (first | refine q0j ?_ _ | refine q0k ?_ | refine q0h ?_ _));exact BK284.out) hb);have n1_ := Aside0.mk (q0n (by repeat (first | (with_reducible first | exact HB.out | apply q0b | apply q0a | apply q0c | refine q0i ?_ GE284.out) | exact HB.out)) hb);have n2_ := Aside0.mk (hbox);have n3_ := Aside0.mk ((by rw [hg];exact (q0g (by repeat (first | (with_reducible first | exact HB.out | apply q0b | apply q0a | apply q0c | refine q0i ?_ GE284.out) | exact HB.out))) : w.heap.size ≤ gb285));have n4_ := Aside0.mk ((by rw [hg];exact (q0g (by repeat (first | (with_reducible first | exact HB.out | apply q0b | apply q0a | apply q0c | refine q0i ?_ GE284.out) | exact HB.out))) : w.heap.size ≤ gb285));have n5_ := Aside0.mk ((by rw [hg];exact Nat.ne_of_lt (blk_lt (g := gb284) (o := .cells #[.int .i64 a0_0,.bool a0_1,.int .i64 a0_2,.string a0_3] 66 (0,0)) (by (with_reducible repeat (first | refine q0j ?_ _ | refine q0k ?_ | refine q0h ?_ _));exact BK284.out)) : gb284 ≠ gb285));have n6_ := Aside0.mk ((by rw [hg];exact Nat.ne_of_gt (blk_lt (g := gb284) (o := .cells #[.int .i64 a0_0,.bool a0_1,.int .i64 a0_2,.string a0_3] 66 (0,0)) (by (with_reducible repeat (first | refine q0j ?_ _ | refine q0k ?_ | refine q0h ?_ _));exact BK284.out)) : gb285 ≠ gb284));clear BK284;clear HB;have BK284 := n0_;have HB := n1_;have BK285 := n2_;have GW285 := n3_;have GE285 := n4_;have NB284_285 := n5_;have NB285_284 := n6_;clear n0_ n1_ n2_ n3_ n4_ n5_ n6_;clear hb hbox hg;have hnb6 := NB284_285.out;have hnc6 := NB285_284.out;have hcz7_0 : w5.cell? ⟨gb284,0,none⟩ = some (.int .i64 a0_0) := (q0d BK284.out 0).trans rfl;have hcz7_1 : w5.cell? ⟨gb284,1,none⟩ = some (.bool a0_1) := (q0d BK284.out 1).trans rfl;have hcz7_2 : w5.cell? ⟨gb284,2,none⟩ = some (.int .i64 a0_2) := (q0d BK284.out 2).trans rfl;have hcz7_3 : w5.cell? ⟨gb284,3,none⟩ = some (.string a0_3) := (q0d BK284.out 3).trans rfl;have hfz7_0 := q0e BK284.out 0;have hfz7_1 := q0e BK284.out 1;have hfz7_2 := q0e BK284.out 2;have hfz7_3 := q0e BK284.out 3) | ((with_reducible refine q0u (f := 106) rfl ?_);refine goesL_ (some 7) rfl rfl Try.func106 (by kernel_rfl) rfl #[] rfl (by (try simp only [List.map_toArray,List.map_cons,List.map_nil]);first | done | rfl | (simp only [List.length_drop,List.length_take];rfl)) ?_;(with_reducible refine (value_Null.calls  t286 t287 t288 t289 _ A3.out).mono ?_);rintro e w8 ⟨rfl,hb⟩;refine ⟨_,rfl,?_⟩;have n0_ := Aside0.mk (q0s (g := gb284) (o := .cells #[.int .i64 a0_0,.bool a0_1,.int .i64 a0_2,.string a0_3] 66 (0,0)) (by (with_reducible repeat (first | refine q0j ?_ _ | refine q0k ?_ | refine q0h ?_ _));exact BK284.out) hb);have n1_ := Aside0.mk (q0s (g := gb285) (o := .cells #[.int .i64 0,.bool false,.int .i64 0,.string (⟨#[]⟩ : ByteArray)] 66 (0,0)) (by (with_reducible repeat (first | refine q0j ?_ _ | refine q0k ?_ | refine q0h ?_ _));exact BK285.out) hb);have n2_ := Aside0.mk (q0n (by repeat (first | (with_reducible first | exact HB.out | apply q0b | apply q0a | apply q0c | refine q0i ?_ GE284.out | refine q0i ?_ GE285.out) | exact HB.out)) hb);clear BK284;clear BK285;clear HB;have BK284 := n0_;have BK285 := n1_;have HB := n2_;clear n0_ n1_ n2_;(try clear hb);(try clear hb2);(try clear hk);(try clear hi);have hcz9_0 : w8.cell? ⟨gb285,0,none⟩ = some (.int .i64 0) := (q0d BK285.out 0).trans rfl;have hcz9_1 : w8.cell? ⟨gb285,1,none⟩ = some (.bool false) := (q0d BK285.out 1).trans rfl;have hcz9_2 : w8.cell? ⟨gb285,2,none⟩ = some (.int .i64 0) := (q0d BK285.out 2).trans rfl;have hcz9_3 : w8.cell? ⟨gb285,3,none⟩ = some (.string (⟨#[]⟩ : ByteArray)) := (q0d BK285.out 3).trans rfl;have hfz9_0 := q0e BK285.out 0;have hfz9_1 := q0e BK285.out 1;have hfz9_2 := q0e BK285.out 2;have hfz9_3 := q0e BK285.out 3))
  refine bodyPost_ret (results_cell_row rfl _ _ gb285 66 #[.int .i64 t286,.bool t287,.int .i64 t288,.string t289] (0,0) _ rfl (by (with_reducible repeat (first | refine q0j ?_ _ | refine q0k ?_ | refine q0h ?_ _));refine q0r (cs := #[.int .i64 t286,.bool t287,.int .i64 t288,.string (⟨#[]⟩ : ByteArray)]) ?_ 3 _ rfl;(with_reducible repeat (first | refine q0j ?_ _ | refine q0k ?_ | refine q0h ?_ _));refine q0r (cs := #[.int .i64 t286,.bool t287,.int .i64 0,.string (⟨#[]⟩ : ByteArray)]) ?_ 2 _ rfl;(with_reducible repeat (first | refine q0j ?_ _ | refine q0k ?_ | refine q0h ?_ _));refine q0r (cs := #[.int .i64 t286,.bool false,.int .i64 0,.string (⟨#[]⟩ : ByteArray)]) ?_ 1 _ rfl;(with_reducible repeat (first | refine q0j ?_ _ | refine q0k ?_ | refine q0h ?_ _));refine q0r (cs := #[.int .i64 0,.bool false,.int .i64 0,.string (⟨#[]⟩ : ByteArray)]) ?_ 0 _ rfl;(with_reducible repeat (first | refine q0j ?_ _ | refine q0k ?_ | refine q0h ?_ _));exact BK285.out) Try.underlying66 rfl (by kernel_rfl)) rfl ?_
  exact ⟨by first | rfl | (simp [q0m,q0l] <;> rfl) | (simp [*,q0m,q0l] <;> rfl),by repeat (first | (with_reducible first | exact HB.out | apply q0b | apply q0a | apply q0c | refine q0i ?_ GE284.out | refine q0i ?_ GE285.out) | exact HB.out)⟩
 ·rw [if_neg c2] at H
  have c2b0 : (a0_0 == 0) = false := beq_eq_false_iff_ne.mpr c2
  have c2b1 : (a0_0 != 0) = true := bne_iff_ne.mpr c2
  by_cases c10 : a0_0 = 1
  ·rw [if_pos c10] at H
   have c10b0 : (a0_0 == 1) = true := beq_iff_eq.mpr c10
   have c10b1 : (a0_0 != 1) = false := bne_eq_false_iff_eq.mpr c10
   clear c10
   replace H := Option.bind_eq_some_iff.mp H
   obtain ⟨⟨t290,t291,t292,t293⟩,A110,H⟩ := H
   replace H : (some (t290,t291,t292,t293)) = some (r1,r2,r3,r4) := H
   have A11 := Aside0.mk A110
   clear A110
   simp only [Option.some.injEq,Prod.mk.injEq] at H
   obtain ⟨rfl,rfl,rfl,rfl⟩ := H
   go_enter Try.func101,Try.ntmps101
   go_wp2_with (first | ((with_reducible refine q0p (N := 1) rfl ?_);refine q0o ?hg (N := 1) ?hd (cs := #[.int .i64 a0_0,.bool a0_1,.int .i64 a0_2,.string a0_3]) (t := 66) ?hr ?_;(case hd => rfl);(case hg => rfl);(case hr => first | (go_simp;done) | (go_simp;rfl));intro gb284 hg w12 hbox hb;have n0_ := Aside0.mk (q0n (by repeat (first | (with_reducible first | exact HB.out | apply q0b | apply q0a | apply q0c) | exact HB.out)) hb);have n1_ := Aside0.mk (hbox);have n2_ := Aside0.mk ((by rw [hg];exact (q0g (by repeat (first | (with_reducible first | exact HB.out | apply q0b | apply q0a | apply q0c) | exact HB.out))) : w.heap.size ≤ gb284));have n3_ := Aside0.mk ((by rw [hg];exact (q0g (by repeat (first | (with_reducible first | exact HB.out | apply q0b | apply q0a | apply q0c) | exact HB.out))) : w.heap.size ≤ gb284));clear HB;have HB := n0_;have BK284 := n1_;have GW284 := n2_;have GE284 := n3_;clear n0_ n1_ n2_ n3_;clear hb hbox hg) | ((with_reducible refine q0p (N := 2) rfl ?_);refine q0o ?hg (N := 2) ?hd (cs := #[.int .i64 0,.bool false,.int .i64 0,.string (⟨#[]⟩ : ByteArray)]) (t := 66) ?hr ?_;(case hd => rfl);(case hg => rfl);(case hr => first | (go_simp;done) | (go_simp;rfl));intro gb285 hg w13 hbox hb;have n0_ := Aside0.mk (q0s (g := gb284) (o := .cells #[.int .i64 a0_0,.bool a0_1,.int .i64 a0_2,.string a0_3] 66 (0,0)) (by (with_reducible repeat (first | refine q0j ?_ _ | refine q0k ?_ | refine q0h ?_ _));exact BK284.out) hb);have n1_ := Aside0.mk (q0n (by repeat (first | (with_reducible first | exact HB.out | apply q0b | apply q0a | apply q0c | refine q0i ?_ GE284.out) | exact HB.out)) hb);have n2_ := Aside0.mk (hbox);have n3_ := Aside0.mk ((by rw [hg];exact (q0g (by repeat (first | (with_reducible first | exact HB.out | apply q0b | apply q0a | apply q0c | refine q0i ?_ GE284.out) | exact HB.out))) : w.heap.size ≤ gb285));have n4_ := Aside0.mk ((by rw [hg];exact (q0g (by repeat (first | (with_reducible first | exact HB.out | apply q0b | apply q0a | apply q0c | refine q0i ?_ GE284.out) | exact HB.out))) : w.heap.size ≤ gb285));have n5_ := Aside0.mk ((by rw [hg];exact Nat.ne_of_lt (blk_lt (g := gb284) (o := .cells #[.int .i64 a0_0,.bool a0_1,.int .i64 a0_2,.string a0_3] 66 (0,0)) (by (with_reducible repeat (first | refine q0j ?_ _ | refine q0k ?_ | refine q0h ?_ _));exact BK284.out)) : gb284 ≠ gb285));have n6_ := Aside0.mk ((by rw [hg];exact Nat.ne_of_gt (blk_lt (g := gb284) (o := .cells #[.int .i64 a0_0,.bool a0_1,.int .i64 a0_2,.string a0_3] 66 (0,0)) (by (with_reducible repeat (first | refine q0j ?_ _ | refine q0k ?_ | refine q0h ?_ _));exact BK284.out)) : gb285 ≠ gb284));clear BK284;clear HB;have BK284 := n0_;have HB := n1_;have BK285 := n2_;have GW285 := n3_;have GE285 := n4_;have NB284_285 := n5_;have NB285_284 := n6_;clear n0_ n1_ n2_ n3_ n4_ n5_ n6_;clear hb hbox hg;have hnb14 := NB284_285.out;have hnc14 := NB285_284.out;have hcz15_0 : w13.cell? ⟨gb284,0,none⟩ = some (.int .i64 a0_0) := (q0d BK284.out 0).trans rfl;have hcz15_1 : w13.cell? ⟨gb284,1,none⟩ = some (.bool a0_1) := (q0d BK284.out 1).trans rfl;have hcz15_2 : w13.cell? ⟨gb284,2,none⟩ = some (.int .i64 a0_2) := (q0d BK284.out 2).trans rfl;have hcz15_3 : w13.cell? ⟨gb284,3,none⟩ = some (.string a0_3) := (q0d BK284.out 3).trans rfl;have hfz15_0 := q0e BK284.out 0;have hfz15_1 := q0e BK284.out 1;have hfz15_2 := q0e BK284.out 2;have hfz15_3 := q0e BK284.out 3) | ((with_reducible refine q0u (f := 107) rfl ?_);refine goesL_ (some 12) rfl rfl Try.func107 (by kernel_rfl) rfl #[.bool a0_1] rfl (by (try simp only [List.map_toArray,List.map_cons,List.map_nil]);first | done | rfl | (simp only [List.length_drop,List.length_take];rfl)) ?_;(with_reducible refine (value_Bool.calls a0_1 t290 t291 t292 t293 _ A11.out).mono ?_);rintro e w16 ⟨rfl,hb⟩;refine ⟨_,rfl,?_⟩;have n0_ := Aside0.mk (q0s (g := gb284) (o := .cells #[.int .i64 a0_0,.bool a0_1,.int .i64 a0_2,.string a0_3] 66 (0,0)) (by (with_reducible repeat (first | refine q0j ?_ _ | refine q0k ?_ | refine q0h ?_ _));exact BK284.out) hb);have n1_ := Aside0.mk (q0s (g := gb285) (o := .cells #[.int .i64 0,.bool false,.int .i64 0,.string (⟨#[]⟩ : ByteArray)] 66 (0,0)) (by (with_reducible repeat (first | refine q0j ?_ _ | refine q0k ?_ | refine q0h ?_ _));exact BK285.out) hb);have n2_ := Aside0.mk (q0n (by repeat (first | (with_reducible first | exact HB.out | apply q0b | apply q0a | apply q0c | refine q0i ?_ GE284.out | refine q0i ?_ GE285.out) | exact HB.out)) hb);clear BK284;clear BK285;clear HB;have BK284 := n0_;have BK285 := n1_;have HB := n2_;clear n0_ n1_ n2_;(try clear hb);(try clear hb2);(try clear hk);(try clear hi);have hcz17_0 : w16.cell? ⟨gb285,0,none⟩ = some (.int .i64 0) := (q0d BK285.out 0).trans rfl;have hcz17_1 : w16.cell? ⟨gb285,1,none⟩ = some (.bool false) := (q0d BK285.out 1).trans rfl;have hcz17_2 : w16.cell? ⟨gb285,2,none⟩ = some (.int .i64 0) := (q0d BK285.out 2).trans rfl;have hcz17_3 : w16.cell? ⟨gb285,3,none⟩ = some (.string (⟨#[]⟩ : ByteArray)) := (q0d BK285.out 3).trans rfl;have hfz17_0 := q0e BK285.out 0;have hfz17_1 := q0e BK285.out 1;have hfz17_2 := q0e BK285.out 2;have hfz17_3 := q0e BK285.out 3))
   refine bodyPost_ret (results_cell_row rfl _ _ gb285 66 #[.int .i64 t290,.bool t291,.int .i64 t292,.string t293] (0,0) _ rfl (by (with_reducible repeat (first | refine q0j ?_ _ | refine q0k ?_ | refine q0h ?_ _));refine q0r (cs := #[.int .i64 t290,.bool t291,.int .i64 t292,.string (⟨#[]⟩ : ByteArray)]) ?_ 3 _ rfl;(with_reducible repeat (first | refine q0j ?_ _ | refine q0k ?_ | refine q0h ?_ _));refine q0r (cs := #[.int .i64 t290,.bool t291,.int .i64 0,.string (⟨#[]⟩ : ByteArray)]) ?_ 2 _ rfl;(with_reducible repeat (first | refine q0j ?_ _ | refine q0k ?_ | refine q0h ?_ _));refine q0r (cs := #[.int .i64 t290,.bool false,.int .i64 0,.string (⟨#[]⟩ : ByteArray)]) ?_ 1 _ rfl;(with_reducible repeat (first | refine q0j ?_ _ | refine q0k ?_ | refine q0h ?_ _));refine q0r (cs := #[.int .i64 0,.bool false,.int .i64 0,.string (⟨#[]⟩ : ByteArray)]) ?_ 0 _ rfl;(with_reducible repeat (first | refine q0j ?_ _ | refine q0k ?_ | refine q0h ?_ _));exact BK285.out) Try.underlying66 rfl (by kernel_rfl)) rfl ?_
   exact ⟨by first | rfl | (simp [q0m,q0l] <;> rfl) | (simp [*,q0m,q0l] <;> rfl),by repeat (first | (with_reducible first | exact HB.out | apply q0b | apply q0a | apply q0c | refine q0i ?_ GE284.out | refine q0i ?_ GE285.out) | exact HB.out)⟩
  ·rw [if_neg c10] at H
   have c10b0 : (a0_0 == 1) = false := beq_eq_false_iff_ne.mpr c10
   have c10b1 : (a0_0 != 1) = true := bne_iff_ne.mpr c10
   by_cases c18 : a0_0 = 2
   ·rw [if_pos c18] at H
    have c18b0 : (a0_0 == 2) = true := beq_iff_eq.mpr c18
    have c18b1 : (a0_0 != 2) = false := bne_eq_false_iff_eq.mpr c18
    clear c18
    replace H := Option.bind_eq_some_iff.mp H
    obtain ⟨⟨t294,t295,t296,t297⟩,A190,H⟩ := H
    replace H : (some (t294,t295,t296,t297)) = some (r1,r2,r3,r4) := H
    have A19 := Aside0.mk A190
    clear A190
    simp only [Option.some.injEq,Prod.mk.injEq] at H
    obtain ⟨rfl,rfl,rfl,rfl⟩ := H
    go_enter Try.func101,Try.ntmps101
    go_wp2_with (first | ((with_reducible refine q0p (N := 1) rfl ?_);refine q0o ?hg (N := 1) ?hd (cs := #[.int .i64 a0_0,.bool a0_1,.int .i64 a0_2,.string a0_3]) (t := 66) ?hr ?_;(case hd => rfl);(case hg => rfl);(case hr => first | (go_simp;done) | (go_simp;rfl));intro gb284 hg w20 hbox hb;have n0_ := Aside0.mk (q0n (by repeat (first | (with_reducible first | exact HB.out | apply q0b | apply q0a | apply q0c) | exact HB.out)) hb);have n1_ := Aside0.mk (hbox);have n2_ := Aside0.mk ((by rw [hg];exact (q0g (by repeat (first | (with_reducible first | exact HB.out | apply q0b | apply q0a | apply q0c) | exact HB.out))) : w.heap.size ≤ gb284));have n3_ := Aside0.mk ((by rw [hg];exact (q0g (by repeat (first | (with_reducible first | exact HB.out | apply q0b | apply q0a | apply q0c) | exact HB.out))) : w.heap.size ≤ gb284));clear HB;have HB := n0_;have BK284 := n1_;have GW284 := n2_;have GE284 := n3_;clear n0_ n1_ n2_ n3_;clear hb hbox hg) | ((with_reducible refine q0p (N := 2) rfl ?_);refine q0o ?hg (N := 2) ?hd (cs := #[.int .i64 0,.bool false,.int .i64 0,.string (⟨#[]⟩ : ByteArray)]) (t := 66) ?hr ?_;(case hd => rfl);(case hg => rfl);(case hr => first | (go_simp;done) | (go_simp;rfl));intro gb285 hg w21 hbox hb;have n0_ := Aside0.mk (q0s (g := gb284) (o := .cells #[.int .i64 a0_0,.bool a0_1,.int .i64 a0_2,.string a0_3] 66 (0,0)) (by (with_reducible repeat (first | refine q0j ?_ _ | refine q0k ?_ | refine q0h ?_ _));exact BK284.out) hb);have n1_ := Aside0.mk (q0n (by repeat (first | (with_reducible first | exact HB.out | apply q0b | apply q0a | apply q0c | refine q0i ?_ GE284.out) | exact HB.out)) hb);have n2_ := Aside0.mk (hbox);have n3_ := Aside0.mk ((by rw [hg];exact (q0g (by repeat (first | (with_reducible first | exact HB.out | apply q0b | apply q0a | apply q0c | refine q0i ?_ GE284.out) | exact HB.out))) : w.heap.size ≤ gb285));have n4_ := Aside0.mk ((by rw [hg];exact (q0g (by repeat (first | (with_reducible first | exact HB.out | apply q0b | apply q0a | apply q0c | refine q0i ?_ GE284.out) | exact HB.out))) : w.heap.size ≤ gb285));have n5_ := Aside0.mk ((by rw [hg];exact Nat.ne_of_lt (blk_lt (g := gb284) (o := .cells #[.int .i64 a0_0,.bool a0_1,.int .i64 a0_2,.string a0_3] 66 (0,0)) (by (with_reducible repeat (first | refine q0j ?_ _ | refine q0k ?_ | refine q0h ?_ _));exact BK284.out)) : gb284 ≠ gb285));have n6_ := Aside0.mk ((by rw [hg];exact Nat.ne_of_gt (blk_lt (g := gb284) (o := .cells #[.int .i64 a0_0,.bool a0_1,.int .i64 a0_2,.string a0_3] 66 (0,0)) (by (with_reducible repeat (first | refine q0j ?_ _ | refine q0k ?_ | refine q0h ?_ _));exact BK284.out)) : gb285 ≠ gb284));clear BK284;clear HB;have BK284 := n0_;have HB := n1_;have BK285 := n2_;have GW285 := n3_;have GE285 := n4_;have NB284_285 := n5_;have NB285_284 := n6_;clear n0_ n1_ n2_ n3_ n4_ n5_ n6_;clear hb hbox hg;have hnb22 := NB284_285.out;have hnc22 := NB285_284.out;have hcz23_0 : w21.cell? ⟨gb284,0,none⟩ = some (.int .i64 a0_0) := (q0d BK284.out 0).trans rfl;have hcz23_1 : w21.cell? ⟨gb284,1,none⟩ = some (.bool a0_1) := (q0d BK284.out 1).trans rfl;have hcz23_2 : w21.cell? ⟨gb284,2,none⟩ = some (.int .i64 a0_2) := (q0d BK284.out 2).trans rfl;have hcz23_3 : w21.cell? ⟨gb284,3,none⟩ = some (.string a0_3) := (q0d BK284.out 3).trans rfl;have hfz23_0 := q0e BK284.out 0;have hfz23_1 := q0e BK284.out 1;have hfz23_2 := q0e BK284.out 2;have hfz23_3 := q0e BK284.out 3) | ((with_reducible refine q0u (f := 108) rfl ?_);refine goesL_ (some 17) rfl rfl Try.func108 (by kernel_rfl) rfl #[.int .i64 a0_2] rfl (by (try simp only [List.map_toArray,List.map_cons,List.map_nil]);first | done | rfl | (simp only [List.length_drop,List.length_take];rfl)) ?_;(with_reducible refine (value_Int.calls a0_2 t294 t295 t296 t297 _ A19.out).mono ?_);rintro e w24 ⟨rfl,hb⟩;refine ⟨_,rfl,?_⟩;have n0_ := Aside0.mk (q0s (g := gb284) (o := .cells #[.int .i64 a0_0,.bool a0_1,.int .i64 a0_2,.string a0_3] 66 (0,0)) (by (with_reducible repeat (first | refine q0j ?_ _ | refine q0k ?_ | refine q0h ?_ _));exact BK284.out) hb);have n1_ := Aside0.mk (q0s (g := gb285) (o := .cells #[.int .i64 0,.bool false,.int .i64 0,.string (⟨#[]⟩ : ByteArray)] 66 (0,0)) (by (with_reducible repeat (first | refine q0j ?_ _ | refine q0k ?_ | refine q0h ?_ _));exact BK285.out) hb);have n2_ := Aside0.mk (q0n (by repeat (first | (with_reducible first | exact HB.out | apply q0b | apply q0a | apply q0c | refine q0i ?_ GE284.out | refine q0i ?_ GE285.out) | exact HB.out)) hb);clear BK284;clear BK285;clear HB;have BK284 := n0_;have BK285 := n1_;have HB := n2_;clear n0_ n1_ n2_;(try clear hb);(try clear hb2);(try clear hk);(try clear hi);have hcz25_0 : w24.cell? ⟨gb285,0,none⟩ = some (.int .i64 0) := (q0d BK285.out 0).trans rfl;have hcz25_1 : w24.cell? ⟨gb285,1,none⟩ = some (.bool false) := (q0d BK285.out 1).trans rfl;have hcz25_2 : w24.cell? ⟨gb285,2,none⟩ = some (.int .i64 0) := (q0d BK285.out 2).trans rfl;have hcz25_3 : w24.cell? ⟨gb285,3,none⟩ = some (.string (⟨#[]⟩ : ByteArray)) := (q0d BK285.out 3).trans rfl;have hfz25_0 := q0e BK285.out 0;have hfz25_1 := q0e BK285.out 1;have hfz25_2 := q0e BK285.out 2;have hfz25_3 := q0e BK285.out 3))
    refine bodyPost_ret (results_cell_row rfl _ _ gb285 66 #[.int .i64 t294,.bool t295,.int .i64 t296,.string t297] (0,0) _ rfl (by (with_reducible repeat (first | refine q0j ?_ _ | refine q0k ?_ | refine q0h ?_ _));refine q0r (cs := #[.int .i64 t294,.bool t295,.int .i64 t296,.string (⟨#[]⟩ : ByteArray)]) ?_ 3 _ rfl;(with_reducible repeat (first | refine q0j ?_ _ | refine q0k ?_ | refine q0h ?_ _));refine q0r (cs := #[.int .i64 t294,.bool t295,.int .i64 0,.string (⟨#[]⟩ : ByteArray)]) ?_ 2 _ rfl;(with_reducible repeat (first | refine q0j ?_ _ | refine q0k ?_ | refine q0h ?_ _));refine q0r (cs := #[.int .i64 t294,.bool false,.int .i64 0,.string (⟨#[]⟩ : ByteArray)]) ?_ 1 _ rfl;(with_reducible repeat (first | refine q0j ?_ _ | refine q0k ?_ | refine q0h ?_ _));refine q0r (cs := #[.int .i64 0,.bool false,.int .i64 0,.string (⟨#[]⟩ : ByteArray)]) ?_ 0 _ rfl;(with_reducible repeat (first | refine q0j ?_ _ | refine q0k ?_ | refine q0h ?_ _));exact BK285.out) Try.underlying66 rfl (by kernel_rfl)) rfl ?_
    exact ⟨by first | rfl | (simp [q0m,q0l] <;> rfl) | (simp [*,q0m,q0l] <;> rfl),by repeat (first | (with_reducible first | exact HB.out | apply q0b | apply q0a | apply q0c | refine q0i ?_ GE284.out | refine q0i ?_ GE285.out) | exact HB.out)⟩
   ·rw [if_neg c18] at H
    have c18b0 : (a0_0 == 2) = false := beq_eq_false_iff_ne.mpr c18
    have c18b1 : (a0_0 != 2) = true := bne_iff_ne.mpr c18
    by_cases c26 : a0_0 = 3
    ·rw [if_pos c26] at H
     have c26b0 : (a0_0 == 3) = true := beq_iff_eq.mpr c26
     have c26b1 : (a0_0 != 3) = false := bne_eq_false_iff_eq.mpr c26
     clear c26
     replace H := Option.bind_eq_some_iff.mp H
     obtain ⟨⟨t298,t299,t300,t301⟩,A270,H⟩ := H
     replace H : (some (t298,t299,t300,t301)) = some (r1,r2,r3,r4) := H
     have A27 := Aside0.mk A270
     clear A270
     simp only [Option.some.injEq,Prod.mk.injEq] at H
     obtain ⟨rfl,rfl,rfl,rfl⟩ := H
     go_enter Try.func101,Try.ntmps101
     go_wp2_with (first | ((with_reducible refine q0p (N := 1) rfl ?_);refine q0o ?hg (N := 1) ?hd (cs := #[.int .i64 a0_0,.bool a0_1,.int .i64 a0_2,.string a0_3]) (t := 66) ?hr ?_;(case hd => rfl);(case hg => rfl);(case hr => first | (go_simp;done) | (go_simp;rfl));intro gb284 hg w28 hbox hb;have n0_ := Aside0.mk (q0n (by repeat (first | (with_reducible first | exact HB.out | apply q0b | apply q0a | apply q0c) | exact HB.out)) hb);have n1_ := Aside0.mk (hbox);have n2_ := Aside0.mk ((by rw [hg];exact (q0g (by repeat (first | (with_reducible first | exact HB.out | apply q0b | apply q0a | apply q0c) | exact HB.out))) : w.heap.size ≤ gb284));have n3_ := Aside0.mk ((by rw [hg];exact (q0g (by repeat (first | (with_reducible first | exact HB.out | apply q0b | apply q0a | apply q0c) | exact HB.out))) : w.heap.size ≤ gb284));clear HB;have HB := n0_;have BK284 := n1_;have GW284 := n2_;have GE284 := n3_;clear n0_ n1_ n2_ n3_;clear hb hbox hg) | ((with_reducible refine q0p (N := 2) rfl ?_);refine q0o ?hg (N := 2) ?hd (cs := #[.int .i64 0,.bool false,.int .i64 0,.string (⟨#[]⟩ : ByteArray)]) (t := 66) ?hr ?_;(case hd => rfl);(case hg => rfl);(case hr => first | (go_simp;done) | (go_simp;rfl));intro gb285 hg w29 hbox hb;have n0_ := Aside0.mk (q0s (g := gb284) (o := .cells #[.int .i64 a0_0,.bool a0_1,.int .i64 a0_2,.string a0_3] 66 (0,0)) (by (with_reducible repeat (first | refine q0j ?_ _ | refine q0k ?_ | refine q0h ?_ _));exact BK284.out) hb);have n1_ := Aside0.mk (q0n (by repeat (first | (with_reducible first | exact HB.out | apply q0b | apply q0a | apply q0c | refine q0i ?_ GE284.out) | exact HB.out)) hb);have n2_ := Aside0.mk (hbox);have n3_ := Aside0.mk ((by rw [hg];exact (q0g (by repeat (first | (with_reducible first | exact HB.out | apply q0b | apply q0a | apply q0c | refine q0i ?_ GE284.out) | exact HB.out))) : w.heap.size ≤ gb285));have n4_ := Aside0.mk ((by rw [hg];exact (q0g (by repeat (first | (with_reducible first | exact HB.out | apply q0b | apply q0a | apply q0c | refine q0i ?_ GE284.out) | exact HB.out))) : w.heap.size ≤ gb285));have n5_ := Aside0.mk ((by rw [hg];exact Nat.ne_of_lt (blk_lt (g := gb284) (o := .cells #[.int .i64 a0_0,.bool a0_1,.int .i64 a0_2,.string a0_3] 66 (0,0)) (by (with_reducible repeat (first | refine q0j ?_ _ | refine q0k ?_ | refine q0h ?_ _));exact BK284.out)) : gb284 ≠ gb285));have n6_ := Aside0.mk ((by rw [hg];exact Nat.ne_of_gt (blk_lt (g := gb284) (o := .cells #[.int .i64 a0_0,.bool a0_1,.int .i64 a0_2,.string a0_3] 66 (0,0)) (by (with_reducible repeat (first | refine q0j ?_ _ | refine q0k ?_ | refine q0h ?_ _));exact BK284.out)) : gb285 ≠ gb284));clear BK284;clear HB;have BK284 := n0_;have HB := n1_;have BK285 := n2_;have GW285 := n3_;have GE285 := n4_;have NB284_285 := n5_;have NB285_284 := n6_;clear n0_ n1_ n2_ n3_ n4_ n5_ n6_;clear hb hbox hg;have hnb30 := NB284_285.out;have hnc30 := NB285_284.out;have hcz31_0 : w29.cell? ⟨gb284,0,none⟩ = some (.int .i64 a0_0) := (q0d BK284.out 0).trans rfl;have hcz31_1 : w29.cell? ⟨gb284,1,none⟩ = some (.bool a0_1) := (q0d BK284.out 1).trans rfl;have hcz31_2 : w29.cell? ⟨gb284,2,none⟩ = some (.int .i64 a0_2) := (q0d BK284.out 2).trans rfl;have hcz31_3 : w29.cell? ⟨gb284,3,none⟩ = some (.string a0_3) := (q0d BK284.out 3).trans rfl;have hfz31_0 := q0e BK284.out 0;have hfz31_1 := q0e BK284.out 1;have hfz31_2 := q0e BK284.out 2;have hfz31_3 := q0e BK284.out 3) | ((with_reducible refine q0u (f := 109) rfl ?_);refine goesL_ (some 22) rfl rfl Try.func109 (by kernel_rfl) rfl #[.string a0_3] rfl (by (try simp only [List.map_toArray,List.map_cons,List.map_nil]);first | done | rfl | (simp only [List.length_drop,List.length_take];rfl)) ?_;(with_reducible refine (value_Text.calls a0_3 t298 t299 t300 t301 _ A27.out).mono ?_);rintro e w32 ⟨rfl,hb⟩;refine ⟨_,rfl,?_⟩;have n0_ := Aside0.mk (q0s (g := gb284) (o := .cells #[.int .i64 a0_0,.bool a0_1,.int .i64 a0_2,.string a0_3] 66 (0,0)) (by (with_reducible repeat (first | refine q0j ?_ _ | refine q0k ?_ | refine q0h ?_ _));exact BK284.out) hb);have n1_ := Aside0.mk (q0s (g := gb285) (o := .cells #[.int .i64 0,.bool false,.int .i64 0,.string (⟨#[]⟩ : ByteArray)] 66 (0,0)) (by (with_reducible repeat (first | refine q0j ?_ _ | refine q0k ?_ | refine q0h ?_ _));exact BK285.out) hb);have n2_ := Aside0.mk (q0n (by repeat (first | (with_reducible first | exact HB.out | apply q0b | apply q0a | apply q0c | refine q0i ?_ GE284.out | refine q0i ?_ GE285.out) | exact HB.out)) hb);clear BK284;clear BK285;clear HB;have BK284 := n0_;have BK285 := n1_;have HB := n2_;clear n0_ n1_ n2_;(try clear hb);(try clear hb2);(try clear hk);(try clear hi);have hcz33_0 : w32.cell? ⟨gb285,0,none⟩ = some (.int .i64 0) := (q0d BK285.out 0).trans rfl;have hcz33_1 : w32.cell? ⟨gb285,1,none⟩ = some (.bool false) := (q0d BK285.out 1).trans rfl;have hcz33_2 : w32.cell? ⟨gb285,2,none⟩ = some (.int .i64 0) := (q0d BK285.out 2).trans rfl;have hcz33_3 : w32.cell? ⟨gb285,3,none⟩ = some (.string (⟨#[]⟩ : ByteArray)) := (q0d BK285.out 3).trans rfl;have hfz33_0 := q0e BK285.out 0;have hfz33_1 := q0e BK285.out 1;have hfz33_2 := q0e BK285.out 2;have hfz33_3 := q0e BK285.out 3))
     refine bodyPost_ret (results_cell_row rfl _ _ gb285 66 #[.int .i64 t298,.bool t299,.int .i64 t300,.string t301] (0,0) _ rfl (by (with_reducible repeat (first | refine q0j ?_ _ | refine q0k ?_ | refine q0h ?_ _));refine q0r (cs := #[.int .i64 t298,.bool t299,.int .i64 t300,.string (⟨#[]⟩ : ByteArray)]) ?_ 3 _ rfl;(with_reducible repeat (first | refine q0j ?_ _ | refine q0k ?_ | refine q0h ?_ _));refine q0r (cs := #[.int .i64 t298,.bool t299,.int .i64 0,.string (⟨#[]⟩ : ByteArray)]) ?_ 2 _ rfl;(with_reducible repeat (first | refine q0j ?_ _ | refine q0k ?_ | refine q0h ?_ _));refine q0r (cs := #[.int .i64 t298,.bool false,.int .i64 0,.string (⟨#[]⟩ : ByteArray)]) ?_ 1 _ rfl;(with_reducible repeat (first | refine q0j ?_ _ | refine q0k ?_ | refine q0h ?_ _));refine q0r (cs := #[.int .i64 0,.bool false,.int .i64 0,.string (⟨#[]⟩ : ByteArray)]) ?_ 0 _ rfl;(with_reducible repeat (first | refine q0j ?_ _ | refine q0k ?_ | refine q0h ?_ _));exact BK285.out) Try.underlying66 rfl (by kernel_rfl)) rfl ?_
     exact ⟨by first | rfl | (simp [q0m,q0l] <;> rfl) | (simp [*,q0m,q0l] <;> rfl),by repeat (first | (with_reducible first | exact HB.out | apply q0b | apply q0a | apply q0c | refine q0i ?_ GE284.out | refine q0i ?_ GE285.out) | exact HB.out)⟩
    ·rw [if_neg c26] at H
     have c26b0 : (a0_0 == 3) = false := beq_eq_false_iff_ne.mpr c26
     have c26b1 : (a0_0 != 3) = true := bne_iff_ne.mpr c26
     simp only [Option.some.injEq,Prod.mk.injEq] at H
     obtain ⟨rfl,rfl,rfl,rfl⟩ := H
     go_enter Try.func101,Try.ntmps101
     go_wp2_with (first | ((with_reducible refine q0p (N := 1) rfl ?_);refine q0o ?hg (N := 1) ?hd (cs := #[.int .i64 a0_0,.bool a0_1,.int .i64 a0_2,.string a0_3]) (t := 66) ?hr ?_;(case hd => rfl);(case hg => rfl);(case hr => first | (go_simp;done) | (go_simp;rfl));intro gb284 hg w34 hbox hb;have n0_ := Aside0.mk (q0n (by repeat (first | (with_reducible first | exact HB.out | apply q0b | apply q0a | apply q0c) | exact HB.out)) hb);have n1_ := Aside0.mk (hbox);have n2_ := Aside0.mk ((by rw [hg];exact (q0g (by repeat (first | (with_reducible first | exact HB.out | apply q0b | apply q0a | apply q0c) | exact HB.out))) : w.heap.size ≤ gb284));have n3_ := Aside0.mk ((by rw [hg];exact (q0g (by repeat (first | (with_reducible first | exact HB.out | apply q0b | apply q0a | apply q0c) | exact HB.out))) : w.heap.size ≤ gb284));clear HB;have HB := n0_;have BK284 := n1_;have GW284 := n2_;have GE284 := n3_;clear n0_ n1_ n2_ n3_;clear hb hbox hg) | ((with_reducible refine q0p (N := 2) rfl ?_);refine q0o ?hg (N := 2) ?hd (cs := #[.int .i64 0,.bool false,.int .i64 0,.string (⟨#[]⟩ : ByteArray)]) (t := 66) ?hr ?_;(case hd => rfl);(case hg => rfl);(case hr => first | (go_simp;done) | (go_simp;rfl));intro gb285 hg w35 hbox hb;have n0_ := Aside0.mk (q0s (g := gb284) (o := .cells #[.int .i64 a0_0,.bool a0_1,.int .i64 a0_2,.string a0_3] 66 (0,0)) (by (with_reducible repeat (first | refine q0j ?_ _ | refine q0k ?_ | refine q0h ?_ _));exact BK284.out) hb);have n1_ := Aside0.mk (q0n (by repeat (first | (with_reducible first | exact HB.out | apply q0b | apply q0a | apply q0c | refine q0i ?_ GE284.out) | exact HB.out)) hb);have n2_ := Aside0.mk (hbox);have n3_ := Aside0.mk ((by rw [hg];exact (q0g (by repeat (first | (with_reducible first | exact HB.out | apply q0b | apply q0a | apply q0c | refine q0i ?_ GE284.out) | exact HB.out))) : w.heap.size ≤ gb285));have n4_ := Aside0.mk ((by rw [hg];exact (q0g (by repeat (first | (with_reducible first | exact HB.out | apply q0b | apply q0a | apply q0c | refine q0i ?_ GE284.out) | exact HB.out))) : w.heap.size ≤ gb285));have n5_ := Aside0.mk ((by rw [hg];exact Nat.ne_of_lt (blk_lt (g := gb284) (o := .cells #[.int .i64 a0_0,.bool a0_1,.int .i64 a0_2,.string a0_3] 66 (0,0)) (by (with_reducible repeat (first | refine q0j ?_ _ | refine q0k ?_ | refine q0h ?_ _));exact BK284.out)) : gb284 ≠ gb285));have n6_ := Aside0.mk ((by rw [hg];exact Nat.ne_of_gt (blk_lt (g := gb284) (o := .cells #[.int .i64 a0_0,.bool a0_1,.int .i64 a0_2,.string a0_3] 66 (0,0)) (by (with_reducible repeat (first | refine q0j ?_ _ | refine q0k ?_ | refine q0h ?_ _));exact BK284.out)) : gb285 ≠ gb284));clear BK284;clear HB;have BK284 := n0_;have HB := n1_;have BK285 := n2_;have GW285 := n3_;have GE285 := n4_;have NB284_285 := n5_;have NB285_284 := n6_;clear n0_ n1_ n2_ n3_ n4_ n5_ n6_;clear hb hbox hg;have hnb36 := NB284_285.out;have hnc36 := NB285_284.out;have hcz37_0 : w35.cell? ⟨gb284,0,none⟩ = some (.int .i64 a0_0) := (q0d BK284.out 0).trans rfl;have hcz37_1 : w35.cell? ⟨gb284,1,none⟩ = some (.bool a0_1) := (q0d BK284.out 1).trans rfl;have hcz37_2 : w35.cell? ⟨gb284,2,none⟩ = some (.int .i64 a0_2) := (q0d BK284.out 2).trans rfl;have hcz37_3 : w35.cell? ⟨gb284,3,none⟩ = some (.string a0_3) := (q0d BK284.out 3).trans rfl;have hfz37_0 := q0e BK284.out 0;have hfz37_1 := q0e BK284.out 1;have hfz37_2 := q0e BK284.out 2;have hfz37_3 := q0e BK284.out 3;have hcz38_0 : w35.cell? ⟨gb285,0,none⟩ = some (.int .i64 0) := (q0d BK285.out 0).trans rfl;have hcz38_1 : w35.cell? ⟨gb285,1,none⟩ = some (.bool false) := (q0d BK285.out 1).trans rfl;have hcz38_2 : w35.cell? ⟨gb285,2,none⟩ = some (.int .i64 0) := (q0d BK285.out 2).trans rfl;have hcz38_3 : w35.cell? ⟨gb285,3,none⟩ = some (.string (⟨#[]⟩ : ByteArray)) := (q0d BK285.out 3).trans rfl;have hfz38_0 := q0e BK285.out 0;have hfz38_1 := q0e BK285.out 1;have hfz38_2 := q0e BK285.out 2;have hfz38_3 := q0e BK285.out 3))
     refine bodyPost_ret (results_cell_row rfl _ _ gb285 66 #[.int .i64 a0_0,.bool a0_1,.int .i64 a0_2,.string a0_3] (0,0) _ rfl (by (with_reducible repeat (first | refine q0j ?_ _ | refine q0k ?_ | refine q0h ?_ _));refine q0r (cs := #[.int .i64 a0_0,.bool a0_1,.int .i64 a0_2,.string (⟨#[]⟩ : ByteArray)]) ?_ 3 _ rfl;(with_reducible repeat (first | refine q0j ?_ _ | refine q0k ?_ | refine q0h ?_ _));refine q0r (cs := #[.int .i64 a0_0,.bool a0_1,.int .i64 0,.string (⟨#[]⟩ : ByteArray)]) ?_ 2 _ rfl;(with_reducible repeat (first | refine q0j ?_ _ | refine q0k ?_ | refine q0h ?_ _));refine q0r (cs := #[.int .i64 a0_0,.bool false,.int .i64 0,.string (⟨#[]⟩ : ByteArray)]) ?_ 1 _ rfl;(with_reducible repeat (first | refine q0j ?_ _ | refine q0k ?_ | refine q0h ?_ _));refine q0r (cs := #[.int .i64 0,.bool false,.int .i64 0,.string (⟨#[]⟩ : ByteArray)]) ?_ 0 _ rfl;(with_reducible repeat (first | refine q0j ?_ _ | refine q0k ?_ | refine q0h ?_ _));exact BK285.out) Try.underlying66 rfl (by kernel_rfl)) rfl ?_
     exact ⟨by first | rfl | (simp [q0m,q0l] <;> rfl) | (simp [*,q0m,q0l] <;> rfl),by repeat (first | (with_reducible first | exact HB.out | apply q0b | apply q0a | apply q0c | refine q0i ?_ GE284.out | refine q0i ?_ GE285.out) | exact HB.out)⟩
end Go.Proofs.Ythmbfcfomcaaaaa.Z
end
section
namespace Go.Proofs.Ythmbfcfomcaaaaa.Z
set_option linter.unusedVariables false
set_option linter.unusedSimpArgs false
open Go.RowKit Go.Shelf Go.Maps Go.Proofs.YthmbfcfomcaaaaaW.PrintWords Go.Proofs.YthmbfcfomcaaaaaW.PrintLast Go.Proofs.YthmbfcfomcaaaaaW.PrintMore Go.Proofs.Ythmbfcfomcaaaaa.Cmp
attribute [local go_sem] Oper.semAt_some
set_option maxHeartbeats 4000000 in
set_option maxRecDepth 100000 in
theorem idx_len {N x m c : Nat} {w : World} {A : Option Addr} {cols : List Int} {M : DataW Unit} {Gs : List Bg} {L : List En} (h : IdxAt N w x m A c cols M Gs L) :
  Calls Try.prog 40 #[.pointer (some ⟨x,0,none⟩)] w fun e w' => e = .returned (.int .i64 (L.length : Int)) ∧ w = w' := by
 have g2 := (q0d h.blk 2).trans rfl
 obtain ⟨n,hn⟩ : ∃ n,L.length = n := ⟨_,rfl⟩
 rw [hn] at g2 ⊢
 clear h hn
 go_enter Try.func40,Try.ntmps40
 go_wp2
 go_ret
 exact ⟨rfl,rfl⟩
set_option maxHeartbeats 4000000 in
set_option maxRecDepth 100000 in
theorem idx_keys {N x m c : Nat} {w : World} {A : Option Addr} {cols : List Int} {M : DataW Unit} {Gs : List Bg} {L : List En} (h : IdxAt N w x m A c cols M Gs L) :
  Calls Try.prog 45 #[.pointer (some ⟨x,0,none⟩)] w fun e w' => e = .returned (.int .i64 (Gs.length : Int)) ∧ w = w' := by
 have g1 := (q0d h.blk 1).trans rfl
 have HM := Aside0.mk h.map
 have HS := Aside0.mk h.siz
 clear h
 go_enter Try.func45,Try.ntmps45
 go_wp2_with (at_len;refine wpList_len_own w rfl _ tIM rfl 9 26 Try.underlying104 RB m Gs.length M rfl HM.out ?_;rw [HS.out])
 go_ret
 exact ⟨rfl,rfl⟩
theorem clean_f (v : S66) : index_clean.f v.f0 v.f1 v.f2 v.f3 = some ((cleanV v).f0,(cleanV v).f1,(cleanV v).f2,(cleanV v).f3) := by
 unfold index_clean.f cleanV
 by_cases h0 : v.f0 = 0
 ·simp [h0,value_Null.f]
 ·by_cases h1 : v.f0 = 1
  ·simp [h1,value_Bool.f]
  ·by_cases h2 : v.f0 = 2
   ·simp [h2,value_Int.f]
   ·by_cases h3 : v.f0 = 3
    ·simp [h3,value_Text.f]
    ·simp [h0,h1,h2,h3]
theorem clean_at (v : S66) (w : World) : Calls Try.prog 101 #[.agg #[.int .i64 v.f0,.bool v.f1,.int .i64 v.f2,.string v.f3]] w fun e w' => e = .returned (.agg #[.int .i64 (cleanV v).f0,.bool (cleanV v).f1,.int .i64 (cleanV v).f2,.string (cleanV v).f3]) ∧ Below w.heap.size w w' :=
 index_clean.calls v.f0 v.f1 v.f2 v.f3 _ _ _ _ w (clean_f v)
theorem cell_val {w : World} {A : Option Addr} {n : Nat} {r : Rw} (h : Kd.C k66 w A n r) {i : Nat} (hi : i < n) {v : S66} (hv : r[i]? = some v) :
  ∃ ad,A = some ad ∧ w.cell? (ad.add (i * 4)) = some (.int .i64 v.f0) ∧ w.cell? ⟨(ad.add (i * 4)).block,(ad.add (i * 4)).off + 1,none⟩ = some (.bool v.f1) ∧ w.cell? ⟨(ad.add (i * 4)).block,(ad.add (i * 4)).off + 2,none⟩ = some (.int .i64 v.f2) ∧ w.cell? ⟨(ad.add (i * 4)).block,(ad.add (i * 4)).off + 3,none⟩ = some (.string v.f3) := by
 obtain ⟨ad,cs,e1,hcl,hK,hcc⟩ := Kd.C_get h z66 (i : Int) (by omega) (by omega)
 simp only [Int.toNat_natCast] at hK hcc
 rw [List.getD_eq_getElem?_getD,hv] at hK
 have e2 := k66_open hK
 simp only [Option.getD_some] at e2
 subst e2
 have hc : ∀ j u,[Value.int .i64 v.f0,Value.bool v.f1,Value.int .i64 v.f2,Value.string v.f3][j]? = some u → w.cell? (ad.add (i * 4 + j)) = some u := hcc
 exact ⟨ad,e1,hc 0 _ rfl,by rw [← add_field _ _ 1 (by omega)];exact hc 1 _ rfl,by rw [← add_field _ _ 2 (by omega)];exact hc 2 _ rfl,by rw [← add_field _ _ 3 (by omega)];exact hc 3 _ rfl⟩
theorem zeroB (w : World) : (zeroValue 26).run Try.prog w = .ok (.pointer none) w := by kernel_rfl
theorem take_succ_map {α β : Type} (f : α → β) {l : List α} {i : Nat} {v : α} (hv : l[i]? = some v) : (l.take (i + 1)).map f = (l.take i).map f ++ [f v] := by
 rw [List.take_add_one,hv]
 simp
set_option maxHeartbeats 8000000 in
set_option maxRecDepth 100000 in
theorem idx_of {N x m c : Nat} {w : World} {A : Option Addr} {cols : List Int} {M : DataW Unit} {Gs : List Bg} {L : List En} (h : IdxAt N w x m A c cols M Gs L) (Ak : Option Addr) (ck : Nat) (key : Rw) (hk : RowC w Ak ck key) (hi : InR key) (hl : cols.length ≤ 1048576) :
  Calls Try.prog 83 #[.pointer (some ⟨x,0,none⟩),.slice Ak key.length ck] w fun e w' => ∃ p,e = .returned (.pointer p) ∧ Below w.heap.size w w' ∧ ((p = none ∧ grp cols key L = []) ∨ ∃ g ∈ Gs,p = some ⟨g.b,0,none⟩ ∧ docT g.t = grp cols key L) := by
 have HA := Aside0.mk h
 have HK := Aside0.mk hk
 have HI := Aside0.mk hi
 have HL := Aside0.mk hl
 have g0 := (q0d h.blk 0).trans rfl
 have G1 := Aside0.mk ((q0d h.blk 1).trans rfl : w.cell? ⟨x,1,none⟩ = some (.map (some m)))
 obtain ⟨n,hn⟩ : ∃ n,key.length = n := ⟨_,rfl⟩
 have LN := Aside0.mk hn
 obtain ⟨p,hp⟩ : ∃ p,cols.length = p := ⟨_,rfl⟩
 have LP := Aside0.mk hp
 have HB := Aside0.mk (Below.refl w.heap.size w)
 rw [hp] at g0
 rw [hn]
 clear h hk hi hl hn hp
 by_cases hnp : n = p
 ·subst hnp
  go_enter Try.func83,Try.ntmps83
  go_wp2_with (fail)
  clear g0
  have hn6 : n ≤ 1048576 := by have := HL.out;have := LP.out;omega
  go_loopw [23,5] (fun iv cv wr => ∃ i : Nat,iv = .int .i64 (i : Int) ∧ i ≤ n ∧ Aside0 (Kd.R k66 66 wr w.heap.size (fun _ => True) cv ((key.take i).map cleanV)) ∧ Aside0 (Below w.heap.size w wr)) (fun iv _ _ => n - (intOf iv).toNat)
  case atStart => exact ⟨0,rfl,Nat.zero_le _,⟨Kd.R_nil _ _ _ _ _⟩,HB⟩
  case round =>
   clear HB
   obtain ⟨i,rfl,hin,HO,HB⟩ := hrel
   by_cases hlt : i < n
   ·have k0 : decide ((i : Int) < (n : Int)) = true := decide_eq_true (by omega)
    have k0' : decide (i < n) = true := decide_eq_true hlt
    have p0 : (0 : Int) ≤ (i : Int) := by omega
    have p1 : (i : Int) < (n : Int) := by omega
    obtain ⟨v,hv⟩ : ∃ v,key[i]? = some v := ⟨key[i]'(by have := LN.out;omega),List.getElem?_eq_getElem _⟩
    obtain ⟨ad,e1,x0,x1,x2,x3⟩ := cell_val (HK.out.below HB.out).row (by have := LN.out;omega) hv
    subst e1
    have HV := Aside0.mk hv
    clear hv
    obtain ⟨v0,v1,v2,v3⟩ := v
    have WL := Aside0.mk (HB.out.size)
    go_wp2_with (fail)
    have BA := Aside0.mk (HB.out.trans ((q0b (Below.refl wr.heap.size wr) (Obj.cells #[.int .i64 v0,.bool v1,.int .i64 v2,.string v3] 66)).mono HB.out.size))
    have HOA := Aside0.mk (Kd.R_below HO.out (q0b (Below.refl wr.heap.size wr) (Obj.cells #[.int .i64 v0,.bool v1,.int .i64 v2,.string v3] 66)))
    clear HO HB x0 x1 x2 x3
    generalize wr.alloc (Obj.cells #[.int .i64 v0,.bool v1,.int .i64 v2,.string v3] 66) = w5 at *
    refine (clean_at ⟨v0,v1,v2,v3⟩ w5).mono ?_
    rintro e w6 ⟨rfl,hb⟩
    have B6 := Aside0.mk (BA.out.trans (hb.mono BA.out.size))
    have HO6 := Aside0.mk (Kd.R_below HOA.out hb)
    have VV := Aside0.mk (take_succ_map cleanV HV.out)
    obtain ⟨u,hu⟩ : ∃ u,cleanV ⟨v0,v1,v2,v3⟩ = u := ⟨_,rfl⟩
    rw [hu] at VV ⊢
    clear hb BA HOA hu HV
    have AL := Aside0.mk (show ((key.take i).map cleanV).length ≤ 1048576 by rw [List.length_map];have := List.length_take_le i key;have := HL.out;have := LP.out;omega)
    go_wp2_with (first | ((with_reducible refine q0v (b := .append) (xs := #[.tmp 27,.tmp 30]) rfl ?_);at_builtin;refine Kd.R_append k66 (w0 := w) w.heap.size rfl (.tmp 27) (.tmp 30) 23 66 (.agg #[(.int .i64 0),(.bool false),(.int .i64 0),(.string ⟨#[]⟩)]) 40 rfl Try.underlying23 info66 rfl (by decide) (by omega) u5 ((key.take i).map cleanV) u [.int .i64 u.f0,.bool u.f1,.int .i64 u.f2,.string u.f3] (fun _ => True) (fun _ => False) rfl rfl ?aP (fun _ hk => hk.elim) ?aF ?aO ?aB ?aS ?aL ?_;(case aP => exact k66_mkM _ _ _ u);(case aB => exact B6.out);(case aF => exact (fun _ _ => trivial));(case aO => exact HO6.out);(case aS => exact B6.out.size);(case aL => have := AL.out;omega);intro v8 w8 ho hb hg hat;have HO8 := Aside0.mk ho;have B8 := Aside0.mk hb;clear ho hb hg hat))
    go_roundw
    case rel => exact ⟨i + 1,by go_num,hlt,⟨by rw [VV.out];exact HO8.out⟩,B8⟩
    case measure => simp [intOf];omega
   ·have k0 : decide ((i : Int) < (n : Int)) = false := decide_eq_false (by omega)
    have k0' : decide (i < n) = false := decide_eq_false hlt
    have ei : key.take i = key := List.take_of_length_le (by have := LN.out;omega)
    rw [ei] at HO
    obtain ⟨A5,c5,e5⟩ := Kd.R_slice HO.out
    subst e5
    rw [List.length_map,LN.out] at HO ⊢
    obtain ⟨key',hk'⟩ : ∃ key',key.map cleanV = key' := ⟨_,rfl⟩
    rw [hk'] at HO
    have KE := Aside0.mk hk'
    have LK := Aside0.mk (show key'.length = n by rw [← hk',List.length_map];exact LN.out)
    have RC := Aside0.mk (show RowC wr A5 c5 key' by have := Kd.R_reads' HO.out;exact ⟨by rw [LK.out];exact this.2.1,this.2.2⟩)
    have PK := Aside0.mk (pack_at A5 c5 key' wr RC.out (by have := LK.out;omega))
    rw [LK.out] at PK
    clear hk' HO RC
    go_wp2_with (fail)
    refine PK.out.mono ?_
    rintro e w8 ⟨v8,rfl,hv,hb⟩
    have B8 := Aside0.mk (HB.out.trans (hb.mono HB.out.size))
    have A8 := Aside0.mk (HA.out.below B8.out)
    obtain ⟨Ab,cb,eb⟩ := Kd.R_slice hv
    subst eb
    have RD := Aside0.mk (Kd.R_reads' hv)
    clear hv hb PK HB
    by_cases hall : AllV key'
    ·have EE := Aside0.mk (encR_all hall)
     rw [EE.out] at RD ⊢
     obtain ⟨lb,hlb⟩ : ∃ lb,(encA key').length = lb := ⟨_,rfl⟩
     have pos : 0 < lb := by
      rw [← hlb]
      cases key' with
      | nil => simp [encA]
      | cons v vs => simp only [encA,List.length_append];obtain ⟨x1,q1,e1,_⟩ := encG_pos v;rw [e1];simp;omega
     rw [hlb] at RD ⊢
     have q0 : ((lb : Int) == 0) = false := by rw [beq_eq_false_iff_ne];omega
     have q1 : decide ((lb : Int) = 0) = false := decide_eq_false (by omega)
     have q2 : decide (lb = 0) = false := decide_eq_false (by omega)
     have g1 : w8.cell? ⟨x,1,none⟩ = some (.map (some m)) := (q0d A8.out.blk 1).trans rfl
     have ki : InR key' := fun v hv => by
      rw [← KE.out] at hv
      obtain ⟨u,hu,rfl⟩ := List.mem_map.1 hv
      have := HI.out u hu
      unfold cleanV
      repeat' split
      all_goals first | exact this | (simp;done) | (simp;omega)
     have hcv2 : ∀ n,(convert 108 9 (.slice Ab lb cb)).run Try.prog (w8.drewN n) = .ok (.string (kB key')) (w8.drewN n) := fun n => Kd.C_string Try.underlying108 Try.underlying5 Try.underlying9 (Kd.C_below RD.out.2.2 ((SameW.drewN w8 n).below _))
     by_cases hth : ∃ g ∈ Gs,g.key = key'
     ·obtain ⟨g,hg,ek⟩ := hth
      have e1 : M.atKey (kl key') .nil = .lit (.int .i64 (g.b : Int)) := by rw [← ek];exact A8.out.at_ g hg _
      have hlook : ∀ n,(Instr.lookup tIM (.map (some m)) (.string (kB key')) false).run Try.prog (w8.drewN n) = .ok (.pointer (some ⟨g.b,0,none⟩)) (w8.drewN n) := fun n => by
       obtain ⟨vv,ps,h1,h2⟩ := (ownsMap_heap (w1 := w8.drewN n) A8.out.map rfl).lookup lawB Try.underlying104 (zeroB _) RB_none (Go.WideMaps.keyOf_string_mk Try.underlying9 (kB_size hall (by have := LK.out;omega)))
       have e9 := RB_inv (v := vv) (b := g.b) (ps := ps) (by rw [← e1];exact h2)
       rw [h1,e9]
      have GG := Aside0.mk (show docT g.t = grp cols key L by rw [(A8.out.kok g hg).2.2.1,ek,← KE.out,grp_clean])
      have GM := Aside0.mk hg
      clear e1 ek hg ki hall
      go_wp2_with (fail)
      go_quiet (fail)
      go_wp2_with (fail)
      go_ret
      exact ⟨_,rfl,B8.out.trans (((SameW.drewN w8 _).below _).mono B8.out.size),.inr ⟨g,GM.out,rfl,GG.out⟩⟩
     ·have e0 : Maps.has M (kl key') = false := by
       rw [Bool.eq_false_iff]
       intro q
       exact hth ((A8.out.there hall ki).1 q)
      have e1 : M.atKey (kl key') .nil = .nil := atKey_of_not_has e0 _
      have hlook : ∀ n,(Instr.lookup tIM (.map (some m)) (.string (kB key')) false).run Try.prog (w8.drewN n) = .ok (.pointer none) (w8.drewN n) := fun n => by
       obtain ⟨vv,ps,h1,h2⟩ := (ownsMap_heap (w1 := w8.drewN n) A8.out.map rfl).lookup lawB Try.underlying104 (zeroB _) RB_none (Go.WideMaps.keyOf_string_mk Try.underlying9 (kB_size hall (by have := LK.out;omega)))
       have e9 := RB_nil (v := vv) (ps := ps) (by rw [← e1];exact h2)
       rw [h1,e9]
      have GG := Aside0.mk (show grp cols key L = [] by
       rw [← grp_clean,KE.out]
       exact A8.out.grp_none hall (fun g hg q => hth ⟨g,hg,q⟩))
      clear e1 hth ki hall e0
      go_wp2_with (fail)
      go_quiet (fail)
      go_wp2_with (fail)
      go_ret
      exact ⟨_,rfl,B8.out.trans (((SameW.drewN w8 _).below _).mono B8.out.size),.inl ⟨rfl,GG.out⟩⟩
    ·have GG := Aside0.mk (show grp cols key L = [] by
      unfold grp
      refine filter_none (fun e he => decide_eq_false (fun q => hall ?_))
      have ha := keyR_all (cols := cols) (A8.out.idl.ok e he).1
      rw [← KE.out,clean_row ha q]
      exact ha)
     rw [encR_not hall]
     clear hall
     go_wp2_with (fail)
     go_ret
     exact ⟨_,rfl,B8.out,.inl ⟨rfl,GG.out⟩⟩
 ·have q0 : ((n : Int) != (p : Int)) = true := by rw [bne_iff_ne];omega
  have q1 : ((n : Int) == (p : Int)) = false := by rw [beq_eq_false_iff_ne];omega
  have q2 : decide ((n : Int) = (p : Int)) = false := decide_eq_false (by omega)
  have q3 : decide (n = p) = false := decide_eq_false hnp
  have GG := Aside0.mk (show grp cols key L = [] by
   unfold grp
   refine filter_none (fun e he => decide_eq_false (fun q => ?_))
   have h1 := (pickF_mem e.f0 cols [] (HA.out.idl.pick e he)).2
   have h2 := clean_row (keyR_all (cols := cols) (HA.out.idl.ok e he).1) q
   have h3 : (keyR cols e.f0).length = key.length := by rw [← h2,List.length_map]
   have h4 : (keyR cols e.f0).length = cols.length := by unfold keyR;rw [h1];simp
   have := LN.out
   have := LP.out
   omega)
  clear hnp
  go_enter Try.func83,Try.ntmps83
  go_wp2_with (fail)
  go_ret
  exact ⟨_,rfl,HB.out,.inl ⟨rfl,GG.out⟩⟩
theorem grp_len (cols : List Int) (key : Rw) (L : List En) : (grp cols key L).length ≤ L.length := List.length_filter_le _ _
set_option maxHeartbeats 4000000 in
set_option maxRecDepth 100000 in
theorem idx_find {N x m c : Nat} {w : World} {A : Option Addr} {cols : List Int} {M : DataW Unit} {Gs : List Bg} {L : List En} (h : IdxAt N w x m A c cols M Gs L) (Ak : Option Addr) (ck : Nat) (key : Rw) (hk : RowC w Ak ck key) (hi : InR key) (hl : cols.length ≤ 1048576) (hL : L.length ≤ 100000) :
  Calls Try.prog 41 #[.pointer (some ⟨x,0,none⟩),.slice Ak key.length ck] w fun e w' => ∃ v,e = .returned v ∧ Kd.R k34 34 w' w.heap.size (fun _ => True) v (grp cols key L) ∧ Below w.heap.size w w' := by
 have OF := Aside0.mk (idx_of h Ak ck key hk hi hl)
 have HA := Aside0.mk h
 have GL := Aside0.mk (show (grp cols key L).length ≤ 100000 from Nat.le_trans (grp_len cols key L) hL)
 obtain ⟨n,hn⟩ : ∃ n,key.length = n := ⟨_,rfl⟩
 rw [hn] at OF ⊢
 clear h hk hi hl hL hn
 go_enter Try.func41,Try.ntmps41
 go_wp2_with (fail)
 refine OF.out.mono ?_
 rintro e w1 ⟨p,rfl,hb,hp⟩
 have B1 := Aside0.mk hb
 clear hb OF
 rcases hp with ⟨rfl,hg⟩ | ⟨g,hg,rfl,hd⟩
 ·have HG := Aside0.mk hg
  clear hg
  go_wp2_with (fail)
  refine (rows_nil w1).mono ?_
  rintro e w2 ⟨rfl,rfl⟩
  go_wp2_with (fail)
  go_ret
  exact ⟨_,rfl,by rw [HG.out];exact Kd.R_nil _ _ _ _ _,B1.out⟩
 ·have BG := Aside0.mk (((HA.out.below B1.out).bag g hg))
  have DG := Aside0.mk hd
  clear hg hd
  go_wp2_with (fail)
  refine (bag_rows g.b g.t w1 BG.out (by rw [← doc_len,DG.out];have := GL.out;omega)).mono ?_
  rintro e w2 ⟨v,rfl,hv,hb⟩
  have HV := Aside0.mk hv
  have B2 := Aside0.mk (B1.out.trans (hb.mono B1.out.size))
  rw [DG.out] at HV
  clear hv hb
  go_wp2_with (fail)
  go_ret
  exact ⟨_,rfl,Kd.R_lower HV.out B1.out.size,B2.out⟩
def sumM (l : List En) : Int := (l.map fun e => e.f1).sum
theorem sumM_take {l : List En} {i : Nat} {x : En} (hx : l[i]? = some x) : sumM (l.take (i + 1)) = sumM (l.take i) + x.f1 := by
 unfold sumM
 rw [take_succ_map _ hx,List.sum_append]
 simp
theorem sumM_bd {l : List En} (h : ∀ e ∈ l,-1073741824 ≤ e.f1 ∧ e.f1 ≤ 1073741824) : -(1073741824 * (l.length : Int)) ≤ sumM l ∧ sumM l ≤ 1073741824 * (l.length : Int) := by
 unfold sumM
 induction l with
 | nil => simp
 | cons a l ih =>
  have h1 := h a List.mem_cons_self
  have h2 := ih (fun e he => h e (List.mem_cons_of_mem _ he))
  simp only [List.map_cons,List.sum_cons,List.length_cons]
  omega
set_option maxHeartbeats 8000000 in
set_option maxRecDepth 100000 in
theorem idx_has {N x m c : Nat} {w : World} {A : Option Addr} {cols : List Int} {M : DataW Unit} {Gs : List Bg} {L : List En} (h : IdxAt N w x m A c cols M Gs L) (Ak : Option Addr) (ck : Nat) (key : Rw) (hk : RowC w Ak ck key) (hi : InR key) (hl : cols.length ≤ 1048576) (hL : L.length ≤ 100000) :
  Calls Try.prog 43 #[.pointer (some ⟨x,0,none⟩),.slice Ak key.length ck] w fun e w' => e = .returned (.int .i64 (sumM (grp cols key L))) ∧ Below w.heap.size w w' := by
 have FN := Aside0.mk (idx_find h Ak ck key hk hi hl hL)
 have OKG := Aside0.mk (show OkD (grp cols key L) from fun e he => h.idl.ok e (List.mem_filter.1 he).1)
 have GL := Aside0.mk (show (grp cols key L).length ≤ 100000 from Nat.le_trans (grp_len cols key L) hL)
 obtain ⟨n,hn⟩ : ∃ n,key.length = n := ⟨_,rfl⟩
 rw [hn] at FN ⊢
 obtain ⟨G,hG⟩ : ∃ G,grp cols key L = G := ⟨_,rfl⟩
 rw [hG] at FN OKG GL ⊢
 clear h hk hi hl hL hn hG
 go_enter Try.func43,Try.ntmps43
 go_wp2_with (fail)
 refine FN.out.mono ?_
 rintro e w1 ⟨v,rfl,hv,hb⟩
 obtain ⟨Ag,cg,eg⟩ := Kd.R_slice hv
 subst eg
 have RV := Aside0.mk (Kd.R_reads' hv).2.2
 have B1 := Aside0.mk hb
 obtain ⟨g,hg⟩ : ∃ g,G.length = g := ⟨_,rfl⟩
 have LG := Aside0.mk hg
 have hg6 : g ≤ 100000 := by rw [← hg];exact GL.out
 rw [hg] at RV ⊢
 have SB := Aside0.mk (fun i => show -(1073741824 * 100000) ≤ sumM (G.take i) ∧ sumM (G.take i) ≤ 1073741824 * 100000 by
  have h1 := sumM_bd (l := G.take i) (fun e he => ⟨(OKG.out e (List.mem_of_mem_take he)).2.2.1,(OKG.out e (List.mem_of_mem_take he)).2.2.2⟩)
  have h2 := List.length_take_le i G
  have h3 := GL.out
  have h4 : (G.take i).length ≤ 100000 := by rw [List.length_take];omega
  omega)
 clear hv hb hg FN
 go_wp2_with (fail)
 go_loopw [12,5] (fun iv cv wr => ∃ i : Nat,iv = .int .i64 (i : Int) ∧ i ≤ g ∧ cv = .int .i64 (sumM (G.take i)) ∧ Aside0 (Below w1.heap.size w1 wr)) (fun iv _ _ => g - (intOf iv).toNat)
 case atStart => exact ⟨0,rfl,Nat.zero_le _,rfl,⟨Below.refl _ _⟩⟩
 case round =>
  obtain ⟨i,rfl,hin,rfl,HB⟩ := hrel
  by_cases hlt : i < g
  ·have k0 : decide ((i : Int) < (g : Int)) = true := decide_eq_true (by omega)
   have k0' : decide (i < g) = true := decide_eq_true hlt
   have p0 : (0 : Int) ≤ (i : Int) := by omega
   have p1 : (i : Int) < (g : Int) := by omega
   obtain ⟨e,he⟩ : ∃ e,G[i]? = some e := ⟨G[i]'(by have := LG.out;omega),List.getElem?_eq_getElem _⟩
   obtain ⟨ad,Ax,cx,e1,x0,x1,_⟩ := ent_get (Kd.C_below RV.out HB.out) hlt he
   subst e1
   have ST := Aside0.mk (sumM_take he)
   have S1 := SB.out (i + 1)
   rw [ST.out] at S1
   obtain ⟨er,em⟩ := e
   obtain ⟨s,hs⟩ : ∃ s,sumM (G.take i) = s := ⟨_,rfl⟩
   rw [hs] at ST S1 ⊢
   simp only at ST S1
   clear he hs
   go_wp2_with (fail)
   go_roundw
   case rel => exact ⟨i + 1,by go_num,hlt,by rw [ST.out],⟨HB.out.trans ((q0b (Below.refl _ _) _).mono HB.out.size)⟩⟩
   case measure => first | (simp [intOf];done) | (simp [intOf];omega)
  ·have k0 : decide ((i : Int) < (g : Int)) = false := decide_eq_false (by omega)
   have k0' : decide (i < g) = false := decide_eq_false hlt
   have ei : G.take i = G := List.take_of_length_le (by have := LG.out;omega)
   rw [ei]
   clear ei
   go_wp2_with (fail)
   go_ret
   exact ⟨rfl,B1.out.trans (HB.out.mono B1.out.size)⟩
end Go.Proofs.Ythmbfcfomcaaaaa.Z
end
section
namespace Go.Proofs.Ythmbfcfomcaaaaa.Z
open Go.RowKit Go.Proofs.YthmbfcfomcaaaaaW.PrintWords Go.Proofs.YthmbfcfomcaaaaaW.PrintLast Go.Proofs.YthmbfcfomcaaaaaW.PrintMore
attribute [local go_sem] max2_int min2_int max_two min_two max_three min_three max_four min_four
set_option linter.unusedVariables false
set_option linter.unusedSimpArgs false
def index_New_1.f (a0 : Int) : Option (Bool) := if a0 < 0 then (some true) else (some (decide (a0 ≥ 40)))
set_option maxHeartbeats 8000000 in
set_option maxRecDepth 100000 in
theorem index_New_1.calls (a0 : Int) (r : Bool) (w : World) (h : index_New_1.f a0 = some r) :
  Calls Try.prog 78 #[.int .i64 a0] w fun e w' => e = .returned (.bool r) ∧ Drawn0 w w' := by
 have H : (if a0 < 0 then (some true) else (some (decide (a0 ≥ 40)))) = some r := h
 clear h
 by_cases c2 : a0 < 0
 ·rw [if_pos c2] at H
  have c2b0 : decide (a0 < 0) = true := decide_eq_true c2
  clear c2
  obtain rfl := Option.some.inj H
  go_enter Try.func78,Try.ntmps78
  go_wp2
  go_ret
  exact ⟨by first | rfl | (simp;done) | (simp [*];done),by repeat (first | exact Drawn0.refl _ | apply Drawn0.step)⟩
 ·rw [if_neg c2] at H
  have c2b0 : decide (a0 < 0) = false := decide_eq_false c2
  clear c2
  obtain rfl := Option.some.inj H
  go_enter Try.func78,Try.ntmps78
  go_wp2
  go_ret
  exact ⟨by first | rfl | (simp;done) | (simp [*];done),by repeat (first | exact Drawn0.refl _ | apply Drawn0.step)⟩
end Go.Proofs.Ythmbfcfomcaaaaa.Z
end
section
namespace Go.Proofs.Ythmbfcfomcaaaaa.Z
open Go.RowKit Go.Proofs.YthmbfcfomcaaaaaW.PrintWords Go.Proofs.YthmbfcfomcaaaaaW.PrintLast Go.Proofs.YthmbfcfomcaaaaaW.PrintMore
attribute [local go_sem] max2_int min2_int max_two min_two max_three min_three max_four min_four
set_option linter.unusedVariables false
set_option linter.unusedSimpArgs false
def slices_IndexFunc_99.l0 : Nat → List Int → Int → Int → Option (Int)
 | 0,_,_,_ => none
 | k + 1,x0,x7,x8 => if x8 < x7 then (if 0 ≤ x8 then (if x8 < (x0.length : Int) then ((index_New_1.f (rd x0 x8)).bind fun t303 => (if t303 = true then (some x8) else (slices_IndexFunc_99.l0 k x0 x7 (wrap64 (x8 + 1))))) else (none)) else (none)) else (some (-1))
def slices_IndexFunc_99.f (k : Nat) (l0 : List Int) (a1 : Int) : Option (Int) := slices_IndexFunc_99.l0 k l0 (l0.length : Int) 0
theorem slices_IndexFunc_99.mono_l : ∀ k,(∀ y0 y1 y2,LeO (slices_IndexFunc_99.l0 k y0 y1 y2) (slices_IndexFunc_99.l0 (k + 1) y0 y1 y2))
 | 0 => fun _ _ _ r h => by simp [slices_IndexFunc_99.l0] at h
 | k + 1 => by
  have ih0 := slices_IndexFunc_99.mono_l k
  ·intro y0 y1 y2
   unfold slices_IndexFunc_99.l0
   repeat' first
   | (with_reducible exact ih0 _ _ _)
   | (with_reducible exact LeO.refl _)
   | (with_reducible exact LeO.none _)
   | (with_reducible refine LeO.ite ?_ ?_)
   | (with_reducible refine LeO.bind ?_ (fun _ => ?_))
   | exact ih0 _ _ _
   | exact LeO.none _
   | refine LeO.ite ?_ ?_
   | refine LeO.bind ?_ (fun _ => ?_)
theorem slices_IndexFunc_99.mono : ∀ a0 a1 k,LeO (slices_IndexFunc_99.f k a0 a1) (slices_IndexFunc_99.f (k + 1) a0 a1) := by
 intro a0 a1 k
 have ih0 := slices_IndexFunc_99.mono_l k
 unfold slices_IndexFunc_99.f
 repeat' first
   | (with_reducible exact ih0 _ _ _)
   | (with_reducible exact LeO.refl _)
   | (with_reducible exact LeO.none _)
   | (with_reducible refine LeO.ite ?_ ?_)
   | (with_reducible refine LeO.bind ?_ (fun _ => ?_))
   | exact ih0 _ _ _
   | exact LeO.none _
   | refine LeO.ite ?_ ?_
   | refine LeO.bind ?_ (fun _ => ?_)
set_option maxHeartbeats 8000000 in
set_option maxRecDepth 100000 in
theorem slices_IndexFunc_99.calls (k : Nat) (A0 : Option Addr) (c0 : Nat) (l0 : List Int) (a1 : Int) (r : Int) (w : World) (hr0 : Kd.C (Kd.int .i64) w A0 l0.length l0) (hc0 : l0.length ≤ c0) (h : slices_IndexFunc_99.f k l0 a1 = some r) :
  Calls Try.prog 99 #[.slice A0 l0.length c0,.func (.func 78) #[] #[]] w fun e w' => e = .returned (.int .i64 r) ∧ Drawn0 w w' := by
 have HR0 := Aside0.mk hr0
 have HC0 := Aside0.mk hc0
 clear hr0 hc0
 have H : (slices_IndexFunc_99.l0 k l0 (l0.length : Int) 0) = some r := h
 clear h
 have H' := Aside0.mk H
 clear H
 go_enter Try.func99,Try.ntmps99
 go_wp2
 go_loopg [8] k (fun kq v8 w' => ∃ (x8_1 : Int),v8 = .int .i64 x8_1 ∧ Aside0 (slices_IndexFunc_99.l0 kq l0 (l0.length : Int) x8_1 = some r) ∧ Aside0 (kq ≤ k) ∧ Drawn0 w w')
 case atStart => exact ⟨(0),(by first | rfl | (simp;done) | (simp [*];done)),H',⟨Nat.le_refl _⟩,by repeat (first | exact Drawn0.refl _ | apply Drawn0.step)⟩
 case round =>
  clear H'
  try clear p2
  obtain ⟨x8_1,rfl,HA,HK1,⟨m1,rfl⟩⟩ := hrel
  cases gk with
  | zero => exact absurd HA.out (by simp [slices_IndexFunc_99.l0])
  | succ k1 =>
   have H := HA.out
   clear HA
   simp only [slices_IndexFunc_99.l0] at H
   by_cases c3 : x8_1 < (l0.length : Int)
   ·rw [if_pos c3] at H
    have c3b0 : decide (x8_1 < (l0.length : Int)) = true := decide_eq_true c3
    clear c3
    by_cases c4 : 0 ≤ x8_1
    ·rw [if_pos c4] at H
     have c4b0 : decide (0 ≤ x8_1) = true := decide_eq_true c4
     clear c4
     by_cases c5 : x8_1 < (l0.length : Int)
     ·rw [if_pos c5] at H
      have c5b0 : decide (x8_1 < (l0.length : Int)) = true := decide_eq_true c5
      clear c5
      replace H := Option.bind_eq_some_iff.mp H
      obtain ⟨t303,A60,H⟩ := H
      replace H : (if t303 = true then (some x8_1) else (slices_IndexFunc_99.l0 k1 l0 (l0.length : Int) (wrap64 (x8_1 + 1)))) = some r := H
      have A6 := Aside0.mk A60
      clear A60
      by_cases c7 : t303 = true
      ·subst c7
       have H1 : (some x8_1) = some r := by rw [if_pos rfl] at H;exact H
       clear H
       have H := H1
       clear H1
       obtain rfl := Option.some.inj H
       have p302 : 0 ≤ (x8_1 : Int) := of_decide_eq_true (by first | (with_reducible assumption) | assumption)
       have q302 : x8_1 < (l0.length : Int) := of_decide_eq_true (by first | (with_reducible assumption) | assumption)
       obtain ⟨ad302,e302,hx302_0⟩ := Kd.at_int HR0.out x8_1 p302 q302
       cases e302
       replace p302 := eq_true p302
       replace q302 := eq_true q302
       go_wp2_with (first | ((with_reducible refine gate_tmp (n := 11) rfl ?_);refine goesT_ (some 16) rfl rfl Try.func78 (by kernel_rfl) rfl #[.int .i64 (rd l0 x8_1)] rfl rfl (by (try simp only [List.map_toArray,List.map_cons,List.map_nil]);first | done | rfl | (simp only [List.length_drop,List.length_take];rfl)) ?_;(with_reducible refine (index_New_1.calls (rd l0 x8_1) true _ A6.out).mono ?_);rintro e w' ⟨rfl,⟨nd,rfl⟩⟩;refine ⟨_,rfl,?_⟩))
       go_ret
       exact ⟨by first | rfl | (simp;done) | (simp [*];done),by repeat (first | exact Drawn0.refl _ | apply Drawn0.step)⟩
      ·replace c7 := Bool.eq_false_iff.mpr c7
       subst c7
       have H1 : (slices_IndexFunc_99.l0 k1 l0 (l0.length : Int) (wrap64 (x8_1 + 1))) = some r := by rw [if_neg (show ¬ (false = true) by decide)] at H;exact H
       clear H
       have H := H1
       clear H1
       have H' := Aside0.mk H
       clear H
       have p302 : 0 ≤ (x8_1 : Int) := of_decide_eq_true (by first | (with_reducible assumption) | assumption)
       have q302 : x8_1 < (l0.length : Int) := of_decide_eq_true (by first | (with_reducible assumption) | assumption)
       obtain ⟨ad302,e302,hx302_0⟩ := Kd.at_int HR0.out x8_1 p302 q302
       cases e302
       replace p302 := eq_true p302
       replace q302 := eq_true q302
       go_wp2_with (first | ((with_reducible refine gate_tmp (n := 11) rfl ?_);refine goesT_ (some 16) rfl rfl Try.func78 (by kernel_rfl) rfl #[.int .i64 (rd l0 x8_1)] rfl rfl (by (try simp only [List.map_toArray,List.map_cons,List.map_nil]);first | done | rfl | (simp only [List.length_drop,List.length_take];rfl)) ?_;(with_reducible refine (index_New_1.calls (rd l0 x8_1) false _ A6.out).mono ?_);rintro e w' ⟨rfl,⟨nd,rfl⟩⟩;refine ⟨_,rfl,?_⟩))
       go_roundg k1
       case measure => have := HK1.out;omega
       case rel => exact ⟨(wrap64 (x8_1 + 1)),(by first | rfl | (simp;done) | (simp [*];done)),H',⟨by have := HK1.out;omega⟩,by repeat (first | exact Drawn0.refl _ | apply Drawn0.step)⟩
     ·rw [if_neg c5] at H
      exact absurd H (by simp)
    ·rw [if_neg c4] at H
     exact absurd H (by simp)
   ·rw [if_neg c3] at H
    have c3b0 : decide (x8_1 < (l0.length : Int)) = false := decide_eq_false c3
    clear c3
    obtain rfl := Option.some.inj H
    go_wp2
    go_ret
    exact ⟨by first | rfl | (simp;done) | (simp [*];done),by repeat (first | exact Drawn0.refl _ | apply Drawn0.step)⟩
end Go.Proofs.Ythmbfcfomcaaaaa.Z
end
section
namespace Go.Proofs.Ythmbfcfomcaaaaa.Z
open Go.RowKit Go.Proofs.YthmbfcfomcaaaaaW.PrintWords Go.Proofs.YthmbfcfomcaaaaaW.PrintLast Go.Proofs.YthmbfcfomcaaaaaW.PrintMore
attribute [local go_sem] max2_int min2_int max_two min_two max_three min_three max_four min_four
set_option linter.unusedVariables false
set_option linter.unusedSimpArgs false
def slices_ContainsFunc_77.f (k : Nat) (l0 : List Int) (a1 : Int) : Option (Bool) := (slices_IndexFunc_99.f k l0 a1).bind fun t304 => (some (decide (t304 ≥ 0)))
theorem slices_ContainsFunc_77.mono : ∀ a0 a1 k,LeO (slices_ContainsFunc_77.f k a0 a1) (slices_ContainsFunc_77.f (k + 1) a0 a1) := by
 intro a0 a1 k
 unfold slices_ContainsFunc_77.f
 repeat' first
   | (with_reducible exact slices_IndexFunc_99.mono _ _ _)
   | (with_reducible exact LeO.refl _)
   | (with_reducible exact LeO.none _)
   | (with_reducible refine LeO.ite ?_ ?_)
   | (with_reducible refine LeO.bind ?_ (fun _ => ?_))
   | exact slices_IndexFunc_99.mono _ _ _
   | exact LeO.none _
   | refine LeO.ite ?_ ?_
   | refine LeO.bind ?_ (fun _ => ?_)
set_option maxHeartbeats 8000000 in
set_option maxRecDepth 100000 in
theorem slices_ContainsFunc_77.calls (k : Nat) (A0 : Option Addr) (c0 : Nat) (l0 : List Int) (a1 : Int) (r : Bool) (w : World) (hr0 : Kd.C (Kd.int .i64) w A0 l0.length l0) (hc0 : l0.length ≤ c0) (h : slices_ContainsFunc_77.f k l0 a1 = some r) :
  Calls Try.prog 77 #[.slice A0 l0.length c0,.func (.func 78) #[] #[]] w fun e w' => e = .returned (.bool r) ∧ Drawn0 w w' := by
 have HR0 := Aside0.mk hr0
 have HC0 := Aside0.mk hc0
 clear hr0 hc0
 have H : ((slices_IndexFunc_99.f k l0 a1).bind fun t304 => (some (decide (t304 ≥ 0)))) = some r := h
 clear h
 replace H := Option.bind_eq_some_iff.mp H
 obtain ⟨t304,A30,H⟩ := H
 replace H : (some (decide (t304 ≥ 0))) = some r := H
 have A3 := Aside0.mk A30
 clear A30
 obtain rfl := Option.some.inj H
 go_enter Try.func77,Try.ntmps77
 go_wp2_with (first | ((with_reducible refine q0u (f := 99) rfl ?_);refine goesL_ (some 7) rfl rfl Try.func99 (by kernel_rfl) rfl #[.slice A0 l0.length c0,.func (.func 78) #[] #[]] rfl (by (try simp only [List.map_toArray,List.map_cons,List.map_nil]);first | done | rfl | (simp only [List.length_drop,List.length_take];rfl)) ?_;(with_reducible refine (slices_IndexFunc_99.calls k _ _ l0 a1 t304 _ ?side1 ?side2 A3.out).mono ?_);(case side1 => repeat (first | exact HR0.out | (with_reducible refine Kd.C_alloc ?_ _) | (with_reducible refine Kd.C_drewN ?_ _) | (with_reducible refine Kd.C_drew ?_)));(case side2 => exact HC0.out);rintro e w' ⟨rfl,⟨nd,rfl⟩⟩;refine ⟨_,rfl,?_⟩))
 go_ret
 exact ⟨by first | rfl | (simp;done) | (simp [*];done),by repeat (first | exact Drawn0.refl _ | apply Drawn0.step)⟩
end Go.Proofs.Ythmbfcfomcaaaaa.Z
end
section
namespace Go.Proofs.Ythmbfcfomcaaaaa.Z
set_option linter.unusedVariables false
set_option linter.unusedSimpArgs false
open Go.RowKit Go.Shelf Go.Maps Go.Proofs.YthmbfcfomcaaaaaW.PrintWords Go.Proofs.YthmbfcfomcaaaaaW.PrintLast Go.Proofs.YthmbfcfomcaaaaaW.PrintMore Go.Proofs.Ythmbfcfomcaaaaa.Cmp
attribute [local go_sem] Oper.semAt_some
theorem RI_made0 (w : World) : Kd.R (Kd.int .i64) 3 (w.alloc (.cells #[] 3)) w.heap.size (fun _ => True) (.slice (some ⟨w.heap.size,0,none⟩) 0 0) ([] : List Int) := by
 refine ⟨fun _ _ => trivial,[],?_,?_⟩
 ·have h2 := World.ownsRow_lit (base := w.heap.size) (e := 3) (size := 1) w #[] 0 (Nat.le_refl _) (by decide) rfl
  have h3 : World.ownsRow (w.alloc (Obj.cells #[] 3)) w.heap.size 3 1 (Value.slice (some ⟨w.heap.size,0,none⟩) 0 0) 0 [] := by simpa using h2
  exact h3
 ·exact ⟨rfl,by simp⟩
set_option maxHeartbeats 4000000 in
set_option maxRecDepth 100000 in
theorem clone_int0 (c : Nat) (w : World) : Calls Try.prog 79 #[.slice none 0 c] w fun e w' => e = .returned (.slice none 0 0) ∧ Below w.heap.size w w' := by
 have HB := Aside0.mk (Below.refl w.heap.size w)
 have hq : (binOp .eql 54 (.slice none 0 c) (.slice none 0 0)).run Try.prog w = .ok (.bool true) w := Lib.run_eql_slice_nil w 54 3 none 0 c 0 0 (by kernel_rfl)
 go_enter Try.func79,Try.ntmps79
 go_wp2
 go_ret
 exact ⟨rfl,HB.out⟩
set_option maxHeartbeats 4000000 in
set_option maxRecDepth 100000 in
theorem clone_int1 (a : Addr) (n c : Nat) (l : List Int) (w : World) (hr : Kd.C (Kd.int .i64) w (some a) n l) (hn : n ≤ 1048576) : Calls Try.prog 79 #[.slice (some a) n c] w fun e w' => ∃ v,e = .returned v ∧ Kd.R (Kd.int .i64) 3 w' w.heap.size (fun _ => True) v l ∧ Below w.heap.size w w' := by
 have hq : (binOp .eql 54 (.slice (some a) n c) (.slice none 0 0)).run Try.prog w = .ok (.bool false) w := Lib.run_eql_slice_nil w 54 3 (some a) n c 0 0 (by kernel_rfl)
 have HR := Aside0.mk (C_int (w1 := w.alloc (.cells #[] 3)) hr (fun ad e h => by
  injection e with e
  subst e
  obtain ⟨ad',e',cs,q,f,hc⟩ := C_int_lt hr h
  injection e' with e'
  subst e'
  exact (q0b (Below.refl w.heap.size w) _).block _ (blk_lt hc)))
 have HO := Aside0.mk (RI_made0 w)
 have HB := Aside0.mk (Below.refl w.heap.size w)
 clear hr
 go_enter Try.func79,Try.ntmps79
 go_wp2_with (first | ((with_reducible refine q0v (b := .append) (xs := #[.tmp 5,.tmp 6]) rfl ?_);at_builtin;refine Kd.R_append_rows (Kd.int .i64) (w0 := w) w.heap.size rfl (.tmp 5) (.tmp 6) 54 3 (.int .i64 0) 8 rfl Try.underlying54 (by kernel_rfl) rfl (show 0 < 1 by decide) (by omega) (.slice (some ⟨w.heap.size,0,none⟩) 0 0) [] l (some a) n c (fun _ => True) (fun _ => False) rfl rfl HO.out HR.out (fun x cs h => h) (fun _ h => h.elim) (fun _ _ => trivial) (q0b HB.out _) (by simp) (by simp;omega) ?_;intro v1 w1 hv hb hg hat;have R1 := Aside0.mk hv;have B1 := Aside0.mk hb;clear hv hb hg hat))
 go_ret
 exact ⟨_,rfl,R1.out,B1.out⟩
theorem clone_int (A : Option Addr) (c : Nat) (l : List Int) (w : World) (hr : Kd.C (Kd.int .i64) w A l.length l) (hn : l.length ≤ 1048576) : Calls Try.prog 79 #[.slice A l.length c] w fun e w' => ∃ v,e = .returned v ∧ Kd.R (Kd.int .i64) 3 w' w.heap.size (fun _ => True) v l ∧ Below w.heap.size w w' := by
 cases A with
 | some a => exact clone_int1 a l.length c l w hr hn
 | none =>
  obtain rfl : l = [] := C_none hr
  refine (clone_int0 c w).mono ?_
  rintro e w1 ⟨rfl,hb⟩
  exact ⟨_,rfl,Kd.R_nil _ _ _ _ _,hb⟩
def badC (cols : List Int) : Bool := cols.any fun c => decide (c < 0) || decide (c ≥ 40)
theorem new1_f (x : Int) : index_New_1.f x = some (decide (x < 0) || decide (x ≥ 40)) := by
 unfold index_New_1.f
 by_cases h : x < 0
 ·rw [if_pos h,decide_eq_true h];rfl
 ·rw [if_neg h,decide_eq_false h];rfl
theorem indexInt_l0 (x : List Int) (hl : x.length ≤ 9223372036854775807) : ∀ d i k,x.length - i = d → i ≤ x.length → d < k → ∃ r,slices_IndexFunc_99.l0 k x (x.length : Int) (i : Int) = some r ∧ decide (r ≥ 0) = badC (x.drop i) := by
 intro d
 induction d with
 | zero =>
  intro i k hd hi hk
  obtain ⟨k,rfl⟩ : ∃ m,k = m + 1 := ⟨k - 1,by omega⟩
  simp only [slices_IndexFunc_99.l0]
  rw [if_neg (by omega),List.drop_eq_nil_of_le (by omega)]
  exact ⟨_,rfl,rfl⟩
 | succ d ih =>
  intro i k hd hi hk
  obtain ⟨k,rfl⟩ : ∃ m,k = m + 1 := ⟨k - 1,by omega⟩
  have hlt : i < x.length := by omega
  simp only [slices_IndexFunc_99.l0]
  rw [if_pos (by omega),if_pos (by omega),if_pos (by omega),new1_f,Option.bind_some,dropI_rd hlt]
  have e : badC (rd x (i : Int) :: x.drop (i + 1)) = ((decide (rd x (i : Int) < 0) || decide (rd x (i : Int) ≥ 40)) || badC (x.drop (i + 1))) := rfl
  rw [e]
  cases hb : (decide (rd x (i : Int) < 0) || decide (rd x (i : Int) ≥ 40)) with
  | true =>
   rw [if_pos rfl,Bool.true_or]
   exact ⟨_,rfl,decide_eq_true (by omega)⟩
  | false =>
   rw [if_neg (by simp),wrap_succ hlt hl,Bool.false_or]
   exact ih (i + 1) k (by omega) (by omega) (by omega)
theorem contains_f (x : List Int) (hl : x.length ≤ 1048576) : slices_ContainsFunc_77.f 1048578 x 0 = some (badC x) := by
 unfold slices_ContainsFunc_77.f slices_IndexFunc_99.f
 obtain ⟨r,h1,h2⟩ := indexInt_l0 x (by omega) x.length 0 1048578 (by omega) (by omega) (by omega)
 rw [show ((0 : Nat) : Int) = 0 from rfl] at h1
 rw [h1]
 simp only [Option.bind_some]
 rw [h2]
 rfl
set_option maxHeartbeats 8000000 in
set_option maxRecDepth 100000 in
theorem idx_new (A : Option Addr) (c : Nat) (cols : List Int) (w : World) (hr : Kd.C (Kd.int .i64) w A cols.length cols) (hc : cols.length ≤ c) (hl : cols.length ≤ 1048576) :
  Calls Try.prog 35 #[.slice A cols.length c] w fun e w' => Below w.heap.size w w' ∧ ((badC cols = true ∧ e = .returned (.tuple #[.pointer none,.int .i64 2])) ∨ (badC cols = false ∧ ∃ x m A' c',e = .returned (.tuple #[.pointer (some ⟨x,0,none⟩),.int .i64 0]) ∧ IdxAt w.heap.size w' x m A' c' cols (.map []) [] [])) := by
 have CF := Aside0.mk (fun w' (hb : Drawn0 w w') => hb)
 have HC := Aside0.mk (slices_ContainsFunc_77.calls 1048578 A c cols 0 (badC cols) w hr hc (contains_f cols hl))
 have HR := Aside0.mk hr
 have HL := Aside0.mk hl
 have hmm := @run_makeMap Try.prog
 obtain ⟨n,hn⟩ : ∃ n,cols.length = n := ⟨_,rfl⟩
 have LN := Aside0.mk hn
 rw [hn] at HC ⊢
 obtain ⟨bad,hbad⟩ : ∃ bad,badC cols = bad := ⟨_,rfl⟩
 rw [hbad] at HC
 have BD := Aside0.mk hbad
 clear hr hc hl hn hbad CF
 go_enter Try.func35,Try.ntmps35
 go_wp2_with (fail)
 refine HC.out.mono ?_
 rintro e w1 ⟨rfl,hd⟩
 have B1 := Aside0.mk hd.below
 have D1 := Aside0.mk hd
 clear hd HC
 cases bad with
 | true =>
  go_wp2_with (fail)
  go_ret2
  exact ⟨B1.out,.inl ⟨BD.out,rfl⟩⟩
 | false =>
  go_wp2_with (fail)
  have CL := Aside0.mk (clone_int A c cols w1 (C_int HR.out (fun ad e h => by
   subst e
   obtain ⟨ad',e',cs,q,f,hc⟩ := C_int_lt HR.out h
   injection e' with e'
   subst e'
   exact B1.out.block _ (blk_lt hc))) HL.out)
  rw [LN.out] at CL
  refine CL.out.mono ?_
  rintro e w2 ⟨v,rfl,hv,hb⟩
  have B2 := Aside0.mk (B1.out.trans (hb.mono B1.out.size))
  obtain ⟨A',c',e'⟩ := Kd.R_slice hv
  subst e'
  have RV := Aside0.mk (Kd.R_reads' hv)
  have OW := Aside0.mk hv
  have S1 := Aside0.mk (B1.out.size)
  rw [LN.out]
  clear hv hb CL
  have HO := Aside0.mk (World.ownsMap_made w2 Try.prog 9 RB)
  have HB := Aside0.mk (q0b (Below.refl w2.heap.size w2) (.map #[] 0))
  go_wp2
  go_ret2
  have hs : (w2.alloc (.map #[] 0)).heap.size = w2.heap.size + 1 := Array.size_push _
  have colo : ∀ k,ColB A' cols k → w1.heap.size ≤ k ∧ k < w2.heap.size := fun k hk => by
   obtain ⟨h0,ad,ea,ek⟩ := hk
   have h1 := OW.out
   rw [ea] at h1
   obtain ⟨g,eg⟩ := Kd.R_head h1
   subst eg
   have h2 := (Kd.R_bound h1).1 g rfl
   rw [ek]
   exact ⟨h2.2.1,h2.2.2.1⟩
  refine ⟨B2.out.trans ((HB.out.trans ((q0b (Below.refl _ _) _).mono HB.out.size)).mono B2.out.size),.inr ⟨BD.out,w2.heap.size + 1,w2.heap.size,A',c',rfl,?_⟩⟩
  have BN := Aside0.mk (HB.out.trans ((q0b (Below.refl (w2.alloc (.map #[] 0)).heap.size (w2.alloc (.map #[] 0))) (.cells #[.slice A' n c',.map (some w2.heap.size),.int .i64 0] tIX)).mono HB.out.size))
  refine ⟨?_,RV.out.2.1,Kd.C_below RV.out.2.2 BN.out,(HO.out.alloc _),fun s => rfl,fun g hg => (by cases hg),rfl,List.nodup_nil,fun g hg => (by cases hg),fun g hg => (by cases hg),fun g hg => (by cases hg),IdxL.nil cols,fun k hk => ?_,fun g hg => (by cases hg),fun g hg => (by cases hg),fun hk => ?_⟩
  ·have h1 := blk_new (w2.alloc (.map #[] 0)) (.cells #[.slice A' n c',.map (some w2.heap.size),.int .i64 0] tIX)
   rw [hs] at h1
   rw [LN.out]
   exact h1
  ·have := B2.out.size
   have := S1.out
   rcases hk with e | e | e | ⟨g,hg,_⟩
   ·omega
   ·omega
   ·have := colo k e;omega
   ·cases hg
  ·have := colo _ hk
   omega
end Go.Proofs.Ythmbfcfomcaaaaa.Z
end
section
namespace Go.Proofs.Ythmbfcfomcaaaaa.Z
set_option linter.unusedVariables false
set_option linter.unusedSimpArgs false
open Go.RowKit Go.Shelf Go.Maps Go.Proofs.YthmbfcfomcaaaaaW.PrintWords Go.Proofs.YthmbfcfomcaaaaaW.PrintLast Go.Proofs.YthmbfcfomcaaaaaW.PrintMore Go.Proofs.Ythmbfcfomcaaaaa.Cmp
attribute [local go_sem] Oper.semAt_some
theorem addD_le (r : Rw) (m : Int) {L : List En} (h : SrtD L) : (addD r m L).2.length ≤ L.length + 1 := by
 unfold addD
 split
 ·split
  ·have := putD_len r (manyD r L + m) h
   simp only
   split at this <;> omega
  ·simp
 ·simp
theorem addD_same {r : Rw} {m : Int} {L : List En} (h : (addD r m L).1 ≠ 0) : (addD r m L).2 = L := by
 unfold addD at h ⊢
 split
 ·rename_i h1
  rw [if_pos h1] at h
  split
  ·rename_i h2
   rw [if_pos h2] at h
   exact absurd rfl h
  ·rfl
 ·rfl
theorem gs_len {N x m c : Nat} {w : World} {A : Option Addr} {cols : List Int} {M : DataW Unit} {Gs : List Bg} {L : List En} (h : IdxAt N w x m A c cols M Gs L) : Gs.length ≤ L.length := by
 have h1 : (Gs.map Bg.key).length ≤ (L.map fun e => keyR cols e.f0).length := nodup_le h.keys (fun k hk => by
  obtain ⟨g,hg,rfl⟩ := List.mem_map.1 hk
  obtain ⟨_,_,h3,h4⟩ := h.kok g hg
  cases hd : docT g.t with
  | nil => exact absurd hd h4
  | cons e es =>
   have h5 : e ∈ grp cols g.key L := by rw [← h3,hd];exact List.mem_cons_self
   obtain ⟨h6,h7⟩ := List.mem_filter.1 h5
   exact List.mem_map.2 ⟨e,h6,key_eq (h.idl.ok e h6).1 (h.kok g hg).1 (of_decide_eq_true h7)⟩)
 simpa using h1
set_option maxHeartbeats 8000000 in
set_option maxRecDepth 100000 in
theorem idx_addP {N x m c : Nat} {w : World} {A : Option Addr} {cols : List Int} {M : DataW Unit} {Gs : List Bg} {L : List En} (h : IdxAt N w x m A c cols M Gs L) (hN : N ≤ w.heap.size) (Ar : Option Addr) (cr : Nat) (r : Rw) (mm : Int) (hr : RowC w Ar cr r) (hi : InR r) (hl : cols.length ≤ 1048576) (hL : L.length ≤ 100000) (hq : (pickF r cols []).2 ≠ 0) :
  Calls Try.prog 38 #[.pointer (some ⟨x,0,none⟩),.slice Ar r.length cr,.int .i64 mm] w fun e w' => ∃ M' Gs',e = .returned (.int .i64 (idxAdd cols r mm L).1) ∧ IdxAt N w' x m A c cols M' Gs' (idxAdd cols r mm L).2 ∧ IdxCh w w' (IdxOwn x m A cols Gs) (IdxOwn x m A cols Gs') := by
 have HA := Aside0.mk h
 have HN := Aside0.mk hN
 have HR := Aside0.mk hr
 have HI := Aside0.mk hi
 have HL := Aside0.mk hl
 have HLL := Aside0.mk hL
 have g0 := (q0d h.blk 0).trans rfl
 have PK := Aside0.mk (pick_at Ar A cr c r cols w hr h.col h.cap hl)
 obtain ⟨p,hp⟩ : ∃ p,cols.length = p := ⟨_,rfl⟩
 have LP := Aside0.mk hp
 obtain ⟨rn,hrn⟩ : ∃ rn,r.length = rn := ⟨_,rfl⟩
 have LR := Aside0.mk hrn
 have Q2 : (pickF r cols []).2 = 2 := by
  rcases pickF_code r cols [] with e | e
  ·exact absurd e hq
  ·rw [e]
 have E0 := Aside0.mk (show idxAdd cols r mm L = (2,L) by unfold idxAdd;rw [if_neg (fun q => hq q.1)])
 rw [Q2,hp,hrn] at PK
 rw [hp] at g0
 rw [hrn,E0.out]
 clear h hN hr hi hl hL hp hrn hq Q2
 go_enter Try.func38,Try.ntmps38
 go_wp2_with (fail)
 refine PK.out.mono ?_
 rintro e w1 ⟨v1,rfl,hv1,hb1⟩
 have B1 := Aside0.mk hb1
 have V1 := Aside0.mk hv1
 obtain ⟨A1,c1,e1⟩ := Kd.R_slice hv1
 subst e1
 clear hb1 hv1 PK g0
 go_wp2_with (fail)
 go_ret
 exact ⟨M,Gs,rfl,HA.out.below B1.out,IdxCh.same B1.out⟩
set_option maxHeartbeats 8000000 in
set_option maxRecDepth 100000 in
theorem idx_addR {N x m c : Nat} {w : World} {A : Option Addr} {cols : List Int} {M : DataW Unit} {Gs : List Bg} {L : List En} (h : IdxAt N w x m A c cols M Gs L) (hN : N ≤ w.heap.size) (Ar : Option Addr) (cr : Nat) (r : Rw) (mm : Int) (hr : RowC w Ar cr r) (hi : InR r) (hl : cols.length ≤ 1048576) (hL : L.length ≤ 100000) (hq : (pickF r cols []).2 = 0) (hrr : rright r = false) :
  Calls Try.prog 38 #[.pointer (some ⟨x,0,none⟩),.slice Ar r.length cr,.int .i64 mm] w fun e w' => ∃ M' Gs',e = .returned (.int .i64 (idxAdd cols r mm L).1) ∧ IdxAt N w' x m A c cols M' Gs' (idxAdd cols r mm L).2 ∧ IdxCh w w' (IdxOwn x m A cols Gs) (IdxOwn x m A cols Gs') := by
 have HA := Aside0.mk h
 have HN := Aside0.mk hN
 have HR := Aside0.mk hr
 have HI := Aside0.mk hi
 have HL := Aside0.mk hl
 have HLL := Aside0.mk hL
 have g0 := (q0d h.blk 0).trans rfl
 have PK := Aside0.mk (pick_at Ar A cr c r cols w hr h.col h.cap hl)
 obtain ⟨p,hp⟩ : ∃ p,cols.length = p := ⟨_,rfl⟩
 have LP := Aside0.mk hp
 obtain ⟨rn,hrn⟩ : ∃ rn,r.length = rn := ⟨_,rfl⟩
 have LR := Aside0.mk hrn
 have E0 := Aside0.mk (show idxAdd cols r mm L = (2,L) by unfold idxAdd;rw [if_neg (fun q => by rw [hrr] at q;cases q.2)])
 have RT := Aside0.mk (fun W (hb : Below w.heap.size w W) => right_at Ar cr r W (hr.below hb))
 rw [hrr] at RT
 rw [hq,hp,hrn] at PK
 rw [hp] at g0
 rw [hrn] at RT
 rw [hrn,E0.out]
 clear h hN hr hi hl hL hp hrn hq hrr
 go_enter Try.func38,Try.ntmps38
 go_wp2_with (fail)
 refine PK.out.mono ?_
 rintro e w1 ⟨v1,rfl,hv1,hb1⟩
 have B1 := Aside0.mk hb1
 have V1 := Aside0.mk hv1
 obtain ⟨A1,c1,e1⟩ := Kd.R_slice hv1
 subst e1
 clear hb1 hv1 PK g0
 go_wp2_with (fail)
 refine (RT.out w1 B1.out).mono ?_
 rintro e w2 ⟨rfl,hb⟩
 have B2 := Aside0.mk (B1.out.trans (hb.mono B1.out.size))
 clear hb RT
 go_wp2_with (fail)
 go_ret
 exact ⟨M,Gs,rfl,HA.out.below B2.out,IdxCh.same B2.out⟩
set_option maxHeartbeats 8000000 in
set_option maxRecDepth 100000 in
theorem idx_addT {N x m c : Nat} {w : World} {A : Option Addr} {cols : List Int} {M : DataW Unit} {Gs : List Bg} {L : List En} (h : IdxAt N w x m A c cols M Gs L) (hN : N ≤ w.heap.size) (Ar : Option Addr) (cr : Nat) (r : Rw) (mm : Int) (hr : RowC w Ar cr r) (hi : InR r) (hl : cols.length ≤ 1048576) (hL : L.length ≤ 100000) (hq : (pickF r cols []).2 = 0) (hrr : rright r = true) (g : Bg) (hg : g ∈ Gs) (gk : g.key = keyR cols r) :
  Calls Try.prog 38 #[.pointer (some ⟨x,0,none⟩),.slice Ar r.length cr,.int .i64 mm] w fun e w' => ∃ M' Gs',e = .returned (.int .i64 (idxAdd cols r mm L).1) ∧ IdxAt N w' x m A c cols M' Gs' (idxAdd cols r mm L).2 ∧ IdxCh w w' (IdxOwn x m A cols Gs) (IdxOwn x m A cols Gs') := by
 have HA := Aside0.mk h
 have HN := Aside0.mk hN
 have HR := Aside0.mk hr
 have HI := Aside0.mk hi
 have HL := Aside0.mk hl
 have HLL := Aside0.mk hL
 have g0 := (q0d h.blk 0).trans rfl
 have PK := Aside0.mk (pick_at Ar A cr c r cols w hr h.col h.cap hl)
 obtain ⟨p,hp⟩ : ∃ p,cols.length = p := ⟨_,rfl⟩
 have LP := Aside0.mk hp
 obtain ⟨rn,hrn⟩ : ∃ rn,r.length = rn := ⟨_,rfl⟩
 have LR := Aside0.mk hrn
 have E0 := Aside0.mk (show idxAdd cols r mm L = addD r mm L by unfold idxAdd;rw [if_pos ⟨hq,hrr⟩])
 have HQ := Aside0.mk hq
 have HRR := Aside0.mk hrr
 have HG := Aside0.mk hg
 have GK := Aside0.mk gk
 have KA := Aside0.mk (keyR_all (cols := cols) hrr)
 have KI := Aside0.mk (keyR_in (cols := cols) hi)
 have KL := Aside0.mk (show (keyR cols r).length ≤ 1048576 by have := (pickF_mem r cols [] hq).2;unfold keyR;rw [this];simpa using hl)
 have RT := Aside0.mk (fun W (hb : Below w.heap.size w W) => right_at Ar cr r W (hr.below hb))
 rw [hrr] at RT
 rw [hq,hp,hrn] at PK
 rw [hp] at g0
 rw [hrn] at RT
 rw [hrn,E0.out]
 obtain ⟨kn,hkn⟩ : ∃ kn,(keyR cols r).length = kn := ⟨_,rfl⟩
 have LK := Aside0.mk hkn
 clear h hN hr hi hl hL hp hrn hq hrr hkn hg gk
 go_enter Try.func38,Try.ntmps38
 go_wp2_with (fail)
 refine PK.out.mono ?_
 rintro e w1 ⟨v1,rfl,hv1,hb1⟩
 have B1 := Aside0.mk hb1
 have V1 := Aside0.mk hv1
 obtain ⟨A1,c1,e1⟩ := Kd.R_slice hv1
 subst e1
 clear hb1 hv1 PK g0
 rw [LK.out] at V1 ⊢
 go_wp2_with (fail)
 refine (RT.out w1 B1.out).mono ?_
 rintro e w2 ⟨rfl,hb⟩
 have B2 := Aside0.mk (B1.out.trans (hb.mono B1.out.size))
 have V2 := Aside0.mk (Kd.R_below V1.out hb)
 have PK2 := Aside0.mk (pack_at A1 c1 (keyR cols r) w2 (by have := Kd.R_reads' V2.out;exact ⟨by rw [LK.out];exact this.2.1,this.2.2⟩) KL.out)
 rw [LK.out,encR_all KA.out] at PK2
 clear hb RT V1
 go_wp2_with (fail)
 refine PK2.out.mono ?_
 rintro e w3 ⟨v3,rfl,hv3,hb⟩
 have B3 := Aside0.mk (B2.out.trans (hb.mono B2.out.size))
 have A3 := Aside0.mk (HA.out.below B3.out)
 obtain ⟨A3s,c3,e3⟩ := Kd.R_slice hv3
 subst e3
 have hcv : (convert 108 9 (.slice A3s (encA (keyR cols r)).length c3)).run Try.prog w3 = .ok (.string (kB (keyR cols r))) w3 := Kd.C_string Try.underlying108 Try.underlying5 Try.underlying9 (Kd.R_reads' hv3).2.2
 obtain ⟨enl,henl⟩ : ∃ enl,(encA (keyR cols r)).length = enl := ⟨_,rfl⟩
 rw [henl] at hcv ⊢
 have g1 : w3.cell? ⟨x,1,none⟩ = some (.map (some m)) := (q0d A3.out.blk 1).trans rfl
 have KS := Aside0.mk (kB_size KA.out KL.out)
 have hth : Maps.has M (kl (keyR cols r)) = true := (A3.out.there KA.out KI.out).2 ⟨g,HG.out,GK.out⟩
 have hlook : (Instr.lookup tIM (.map (some m)) (.string (kB (keyR cols r))) true).run Try.prog w3 = .ok (.tuple #[.pointer (some ⟨g.b,0,none⟩),.bool true]) w3 := by
  obtain ⟨vv,ps,h1,h2⟩ := A3.out.map.look_ok lawB Try.underlying104 (zeroB w3) RB_none (Go.WideMaps.keyOf_string_mk Try.underlying9 KS.out)
  have e1 : M.atKey (kl (keyR cols r)) .nil = .lit (.int .i64 (g.b : Int)) := by rw [← GK.out];exact A3.out.at_ g HG.out _
  have e9 := RB_inv (v := vv) (b := g.b) (ps := ps) (by rw [← e1];exact h2)
  have h1' : (Instr.lookup tIM (.map (some m)) (.string (kB (keyR cols r))) true).run Try.prog w3 = .ok (.tuple #[vv,.bool (Maps.has M (kl (keyR cols r)))]) w3 := h1
  rw [h1',e9,hth]
 have BG3 := Aside0.mk (A3.out.bag g HG.out)
 have DG := Aside0.mk (show docT g.t = grp cols (keyR cols r) L by rw [(A3.out.kok g HG.out).2.2.1,GK.out])
 obtain ⟨gb,gt,gD,egg⟩ : ∃ gb gt gD,g = ⟨keyR cols r,gb,gt,gD⟩ := ⟨g.b,g.t,g.D,by rw [← GK.out]⟩
 subst egg
 clear hv3 hb PK2 V2 henl hth
 go_wp2_with (fail)
 have B4 := B3
 have A4 := A3
 have BG4 := BG3
 have SZ := Aside0.mk (show gt.size ≤ 300000000000000000 by rw [← doc_len,DG.out];have := grp_len cols (keyR cols r) L;have := HLL.out;omega)
 have AG := Aside0.mk (add_grp (cols := cols) mm HA.out.idl.ok HRR.out)
 have HR4 := Aside0.mk (HR.out.below B4.out)
 have LEN4 := Aside0.mk (bag_len gb gt w3 BG4.out)
 have ADD4 := Aside0.mk (bag_add gb gt Ar cr r mm w3 BG4.out HR4.out SZ.out)
 rw [LR.out] at ADD4
 rw [DG.out] at LEN4 ADD4
 rw [AG.out] at ADD4
 have ADL := Aside0.mk (add_len (cols := cols) mm HA.out.idl.srt HA.out.idl.ok HRR.out)
 obtain ⟨l1,hl1⟩ : ∃ l1,(addD r mm L).2.length = l1 := ⟨_,rfl⟩
 obtain ⟨n0,hn0⟩ : ∃ n0,(grp cols (keyR cols r) L).length = n0 := ⟨_,rfl⟩
 obtain ⟨n1,hn1⟩ : ∃ n1,(grp cols (keyR cols r) (addD r mm L).2).length = n1 := ⟨_,rfl⟩
 obtain ⟨l0,hl0⟩ : ∃ l0,L.length = l0 := ⟨_,rfl⟩
 have L1 := Aside0.mk hl1
 have N0 := Aside0.mk hn0
 have N1 := Aside0.mk hn1
 have L0 := Aside0.mk hl0
 have ARI : l1 + n0 = l0 + n1 := by have := ADL.out;omega
 have BD1 : l1 ≤ 100001 := by have := addD_le r mm HA.out.idl.srt;have := HLL.out;omega
 have BD2 : n0 ≤ l0 := by rw [← hn0,← hl0];exact grp_len _ _ _
 have BD3 : n1 ≤ l1 := by rw [← hn1,← hl1];exact grp_len _ _ _
 have BD4 : l0 ≤ 100000 := by rw [← hl0];exact HLL.out
 rw [hn0] at LEN4
 clear hl1 hn0 hn1 hl0 ADL SZ
 refine LEN4.out.mono ?_
 rintro e w' ⟨rfl,ew⟩
 subst ew
 go_wp2_with (fail)
 refine ADD4.out.mono ?_
 rintro e w5 ⟨t5,D5,rfl,hd5,hb5,hc5⟩
 have BG5 := Aside0.mk hb5
 have CH5 := Aside0.mk hc5
 have DG5 := Aside0.mk hd5
 clear hd5 hb5 hc5 LEN4 ADD4
 have OFF := Aside0.mk (show ∀ k,BagOwn gb gt gD k → k ≠ x ∧ k ≠ m from fun k s => ⟨(A4.out.boff _ HG.out k s).1,(A4.out.boff _ HG.out k s).2.1⟩)
 have OF2 := Aside0.mk (show ∀ k,k = gb ∨ k ∈ gt.ids → k ≠ x ∧ k ≠ m from fun k s => OFF.out k (s.elim .inl (fun q => .inr (.inl q))))
 have GSL := Aside0.mk (show Gs.length < maxLen from Nat.lt_of_le_of_lt (gs_len A4.out) (by have := HLL.out;unfold maxLen;omega))
 have X5 := Aside0.mk (show w5.heap[x]? = some (.cells #[.slice A cols.length c,.map (some m),.int .i64 (L.length : Int)] tIX (0,0)) from CH5.out.ch.blk A4.out.blk (fun s => (OF2.out x s).1 rfl))
 have M5 := Aside0.mk (ownsMap_heap (w1 := w5) A4.out.map (CH5.out.ch.block m A4.out.map.lt (fun s => (OF2.out m s).2 rfl)))
 have O0 := Aside0.mk (show ∀ k,BagOwn gb t5 D5 k → (∃ g ∈ Gs,g.key = keyR cols r ∧ g.own k) ∨ w.heap.size ≤ k from fun k s => by
  rcases CH5.out.own k s with q | q
  ·exact .inl ⟨_,HG.out,rfl,q⟩
  ·right;have := B4.out.size;omega)
 have O1 := Aside0.mk (show ∀ k,k = gb ∨ k ∈ gt.ids → (∃ g ∈ Gs,g.key = keyR cols r ∧ g.own k) ∨ w.heap.size ≤ k from fun k s => .inl ⟨_,HG.out,rfl,s.elim .inl (fun q => .inr (.inl q))⟩)
 have CH0 := Aside0.mk (show Ch (fun k => k = gb ∨ k ∈ gt.ids) w w5 from (Ch.of_below (S := fun k => k = gb ∨ k ∈ gt.ids) B4.out).then_ CH5.out.ch (fun k s => .inl s))
 obtain ⟨q,hq⟩ : ∃ q,(addD r mm L).1 = q := ⟨_,rfl⟩
 have QE := Aside0.mk hq
 rw [hq]
 rw [L0.out] at X5
 clear hq
 by_cases hq0 : q = 0
 ·subst hq0
  have x2 : w5.cell? ⟨x,2,none⟩ = some (.int .i64 (l0 : Int)) := (q0d X5.out 2).trans rfl
  have f2 := q0e X5.out 2
  have LEN5 := Aside0.mk (fun W (e : SameW w5 W) => bag_len gb t5 W (BG5.out.below (e.below _)))
  rw [DG5.out,N1.out] at LEN5
  have e1 : wrap64 ((n1 : Int) - (n0 : Int)) = (n1 : Int) - (n0 : Int) := wrap_id (by omega) (by omega)
  have e2 : wrap64 ((l0 : Int) + ((n1 : Int) - (n0 : Int))) = (l1 : Int) := by rw [wrap_id (by omega) (by omega)];omega
  have E12 := Aside0.mk (show wrap64 ((l0 : Int) + wrap64 ((n1 : Int) - (n0 : Int))) = (l1 : Int) by rw [e1,e2])
  have WX5 := Aside0.mk (show Below w5.heap.size w5 w5.drew from (SameW.drew w5).below _)
  clear e1 e2 ARI
  go_upto_region 14 with (fail)
  refine start_ (n := 12) (S := fun w' => w'.cell? ⟨x,2,none⟩ = some (.int .i64 (l0 : Int))) (ds := [11]) #[false,false,false,false,false,false,false,false,false,false,false,false] (by kernel_rfl) rfl rfl (x2) (fun hHeld => ?_)
  refine pure_ (i := 0) (N := some 56) (v := ?_) (a' := ?_) #[true,false,false,false,false,false,false,false,false,false,false,false] rfl rfl (by kernel_rfl) (fun _ _ _ h => h) (Or.inl ⟨by rfl,?_⟩) ?_ ?_
  rotate_left
  ·intro w'
   go_simp
   with_reducible rfl
  rotate_left
  ·simp only [Act.put,zA,zB,zC,i64_w,i32_w]
   rfl
  refine pure_ (i := 1) (N := some 57) (v := ?_) (a' := ?_) #[true,true,false,false,false,false,false,false,false,false,false,false] rfl rfl (by kernel_rfl) (fun _ _ _ h => h) (Or.inl ⟨by rfl,?_⟩) ?_ ?_
  rotate_left
  ·intro w'
   go_simp
   with_reducible rfl
  rotate_left
  ·simp only [Act.put,zA,zB,zC,i64_w,i32_w]
   rfl
  refine pure_ (i := 2) (N := some 58) (v := ?_) (a' := ?_) #[true,true,true,false,false,false,false,false,false,false,false,false] rfl rfl (by kernel_rfl) (fun _ _ _ h => h) (Or.inl ⟨by rfl,?_⟩) ?_ ?_
  rotate_left
  ·intro w'
   go_simp
   with_reducible rfl
  rotate_left
  ·simp only [Act.put,zA,zB,zC,i64_w,i32_w]
   rfl
  refine pure_ (i := 4) (N := some 60) (v := ?_) (a' := ?_) #[true,true,true,false,true,false,false,false,false,false,false,false] rfl rfl (by kernel_rfl) (fun _ _ _ h => h) (Or.inl ⟨by rfl,?_⟩) ?_ ?_
  rotate_left
  ·intro w'
   go_simp
   with_reducible rfl
  rotate_left
  ·simp only [Act.put,zA,zB,zC,i64_w,i32_w]
   rfl
  refine pure_ (i := 6) (N := some 62) (v := ?_) (a' := ?_) #[true,true,true,false,true,false,true,false,false,false,false,false] rfl rfl (by kernel_rfl) (fun _ _ _ h => h) (Or.inl ⟨by rfl,?_⟩) ?_ ?_
  rotate_left
  ·intro w'
   go_simp
   with_reducible rfl
  rotate_left
  ·simp only [Act.put,zA,zB,zC,i64_w,i32_w]
   rfl
  refine take_ (i := 3) (N := some 59) (v := ?_) (a' := ?_) #[true,true,true,true,true,false,true,false,false,false,false,false] rfl rfl (by kernel_rfl) (fun _ _ _ h => h) (Or.inl ⟨by rfl,?_⟩) hHeld ?_ ?_
  rotate_left
  ·rintro w' s0
   go_simp
   with_reducible rfl
  rotate_left
  ·simp only [Act.put,zA,zB,zC,i64_w,i32_w]
   rfl
  refine one_ (i := 5) (N := some 61) #[true,true,true,true,true,true,true,false,false,false,false,false] rfl rfl (by kernel_rfl) (by decide) (fun K hK => ?_)
  refine goes_ Try.func33 (by kernel_rfl) rfl #[.pointer (some ⟨gb,0,none⟩)] (by rfl) rfl rfl (by (try simp only [List.map_toArray,List.map_cons,List.map_nil]);first | done | rfl) ?_
  refine (LEN5.out _ (SameW.drew w5)).mono ?_
  rintro e w6 ⟨rfl,ew⟩
  subst ew
  refine ⟨_,rfl,?_⟩
  refine hK.out _ _ (x2) (fun hHeld => ?_)
  clear hK K
  refine norm_ (a' := ?_) ?_ ?_
  rotate_left
  ·show Act.put _ (some 61) _ = _
   simp only [Act.put,zA,zB,zC,i64_w,i32_w]
   rfl
  refine pure_ (i := 7) (N := some 63) (v := ?_) (a' := ?_) #[true,true,true,true,true,true,true,true,false,false,false,false] rfl rfl (by kernel_rfl) (fun _ _ _ h => h) (Or.inl ⟨by rfl,?_⟩) ?_ ?_
  rotate_left
  ·intro w'
   go_simp
   with_reducible rfl
  rotate_left
  ·simp only [Act.put,zA,zB,zC,i64_w,i32_w]
   rfl
  refine pure_ (i := 8) (N := some 64) (v := ?_) (a' := ?_) #[true,true,true,true,true,true,true,true,true,false,false,false] rfl rfl (by kernel_rfl) (fun _ _ _ h => h) (Or.inl ⟨by rfl,?_⟩) ?_ ?_
  rotate_left
  ·intro w'
   go_simp
   with_reducible rfl
  rotate_left
  ·simp only [Act.put,zA,zB,zC,i64_w,i32_w]
   rfl
  refine pure_ (i := 9) (N := some 65) (v := ?_) (a' := ?_) #[true,true,true,true,true,true,true,true,true,true,false,false] rfl rfl (by kernel_rfl) (fun _ _ _ h => h) (Or.inl ⟨by rfl,?_⟩) ?_ ?_
  rotate_left
  ·intro w'
   go_simp
   with_reducible rfl
  rotate_left
  ·simp only [Act.put,zA,zB,zC,i64_w,i32_w]
   rfl
  refine pure_ (i := 10) (N := some 66) (v := ?_) (a' := ?_) #[true,true,true,true,true,true,true,true,true,true,true,false] rfl rfl (by kernel_rfl) (fun _ _ _ h => h) (Or.inl ⟨by rfl,?_⟩) ?_ ?_
  rotate_left
  ·intro w'
   go_simp
   with_reducible rfl
  rotate_left
  ·simp only [Act.put,zA,zB,zC,i64_w,i32_w]
   rfl
  refine last_ (i := 11) (N := none) #[true,true,true,true,true,true,true,true,true,true,true,true] rfl rfl (by kernel_rfl) (by decide) (fun K hK => ?_)
  refine skip_ (w1 := w5.drew.setCell ⟨x,2,none⟩ (.int .i64 (wrap64 ((l0 : Int) + wrap64 ((n1 : Int) - (n0 : Int)))))) (by rfl) rfl ?_ ?_
  ·have z : w5.drew.frozen? ⟨x,2,none⟩ = false := f2
   have c : w5.drew.cell? ⟨x,2,none⟩ = some (.int .i64 (l0 : Int)) := x2
   go_simp
   try with_reducible rfl
  refine hK.out _ _ ?_
  clear hK K
  refine done_ (by kernel_rfl) ?_
  have X6 := Aside0.mk (show (w5.drew.setCell ⟨x,2,none⟩ (.int .i64 (wrap64 ((l0 : Int) + wrap64 ((n1 : Int) - (n0 : Int)))))).heap[x]? = some (.cells #[.slice A cols.length c,.map (some m),.int .i64 (wrap64 ((l0 : Int) + wrap64 ((n1 : Int) - (n0 : Int))))] tIX (0,0)) from q0r (w := w5.drew) X5.out 2 _ rfl)
  have CS := Aside0.mk (show Ch (fun k => k = x) w5 (w5.drew.setCell ⟨x,2,none⟩ (.int .i64 (wrap64 ((l0 : Int) + wrap64 ((n1 : Int) - (n0 : Int)))))) from (Ch.of_below (S := fun k => k = x) WX5.out).then_ ((Ch.refl (fun k => k = x) w5.drew).setCell (p := ⟨x,2,none⟩) (.inl rfl) _) (fun k s => .inl s))
  rw [E12.out] at X6 CS ⊢
  generalize w5.drew.setCell ⟨x,2,none⟩ (.int .i64 (l1 : Int)) = w6 at *
  have OFB := Aside0.mk (show ∀ k,BagOwn gb t5 D5 k → k ≠ x from fun k s => by
   rcases CH5.out.own k s with q | q
   ·exact (OFF.out k q).1
   ·have := blk_lt X5.out
    have := CH5.out.ch.size
    have := A4.out.lt x (.inl rfl)
    omega)
  have BG6 := Aside0.mk (BG5.out.keep CS.out (fun k s o => OFB.out k o s))
  have M6 := Aside0.mk (ownsMap_heap (w1 := w6) M5.out (CS.out.block m M5.out.lt (fun s => by
   have h1 := M5.out
   obtain ⟨es,cl,h2,_⟩ := h1
   rw [s,X5.out] at h2
   cases h2)))
  have CH6 := Aside0.mk (show Ch (fun k => k = x ∨ k = gb ∨ k ∈ gt.ids) w w6 from (CH0.out.mono (S2 := fun k => k = x ∨ k = gb ∨ k ∈ gt.ids) (fun k s => .inr s)).then_ CS.out (fun k s => .inl (.inl s)))
  have LEN6 := Aside0.mk (bag_len gb t5 w6 BG6.out)
  rw [DG5.out,N1.out] at LEN6
  clear x2 f2 LEN5 CS E12 WX5
  go_wp2_with (fail)
  refine LEN6.out.mono ?_
  rintro e w7 ⟨rfl,ew⟩
  subst ew
  have h1 : w6.cell? ⟨x,1,none⟩ = some (.map (some m)) := (q0d X6.out 1).trans rfl
  have TN := Aside0.mk (fun (w8 : World) (hg8 : w6.grownBy w8 (some m)) => show Turn N w w8 x m A cols Gs r (fun k => BagOwn gb t5 D5 k ∨ k = gb ∨ k ∈ gt.ids) from
   ⟨⟨hg8.os.trans CH6.out.os,hg8.tape.trans CH6.out.tape,hg8.output.trans CH6.out.output,Nat.le_trans CH6.out.size hg8.size,fun k hk hn => (hg8.block k (Nat.lt_of_lt_of_le hk CH6.out.size) (fun e => by injection e with e;exact hn (.inr (.inl e)))).trans (CH6.out.block k hk (fun s => by
    rcases s with s | s
    ·exact hn (.inl s)
    ·exact hn (.inr (.inr (.inr s)))))⟩,fun k s => s.elim (O0.out k) (O1.out k)⟩)
  have BLK := Aside0.mk (fun (w8 : World) (hg8 : w6.grownBy w8 (some m)) => show w8.heap[x]? = some (.cells #[.slice A cols.length c,.map (some m),.int .i64 ((addD r mm L).2.length : Int)] tIX (0,0)) by
   rw [L1.out]
   exact (hg8.block x (blk_lt X6.out) (fun e => by
    injection e with e
    obtain ⟨es,cl,h2,_⟩ := M6.out
    rw [← e,X6.out] at h2
    cases h2)).trans X6.out)
  have BAG8 := Aside0.mk (fun (w8 : World) (hg8 : w6.grownBy w8 (some m)) => show BagAt w8 gb t5 D5 from BG6.out.keep (S := fun k => k = m) ⟨hg8.os,hg8.tape,hg8.output,hg8.size,fun k hk hn => hg8.block k hk (fun e => by injection e with e;exact hn e)⟩ (fun k s o => by
   rcases CH5.out.own k o with q | q
   ·exact (OFF.out k q).2 s
   ·have := A4.out.map.lt
    omega))
  by_cases hn1 : n1 = 0
  ·have q3 : ((n1 : Int) == 0) = true := by rw [hn1];rfl
   have q4 : decide (n1 = 0) = true := decide_eq_true hn1
   have GE := Aside0.mk (show grp cols (keyR cols r) (addD r mm L).2 = [] from List.eq_nil_of_length_eq_zero (N1.out.trans hn1))
   clear hn1
   go_wp2_with (at_delete;refine wpList_delete_own w6 rfl _ _ tIM 9 rfl 26 lawB Try.underlying104 RB m Gs.length M rfl M6.out _ (kl (keyR cols r)) rfl (Go.WideMaps.keyOf_string_mk Try.underlying9 KS.out) ?_;intro w8 hown8 hg8)
   go_ret
   obtain ⟨i1,i2⟩ := HA.out.del HRR.out HQ.out HI.out HN.out (TN.out w8 hg8.grown) (BLK.out w8 hg8.grown) hown8 GE.out
   exact ⟨_,_,by rw [QE.out];rfl,i1,i2⟩
  ·have q3 : ((n1 : Int) == 0) = false := by rw [beq_eq_false_iff_ne];omega
   have q4 : decide (n1 = 0) = false := decide_eq_false hn1
   have GN := Aside0.mk (show docT t5 ≠ [] from fun e => hn1 (by rw [← N1.out,← DG5.out,e];rfl))
   clear hn1
   go_wp2_with (at_mapUpdate;refine wpList_mapUpdate_own w6 rfl _ _ _ tIM rfl 9 26 lawB Try.underlying104 RB m Gs.length M rfl M6.out ?hmx _ _ (kl (keyR cols r)) rfl rfl (Go.WideMaps.keyOf_string_mk Try.underlying9 KS.out) (.lit (.int .i64 (gb : Int))) [] (RB_ptr gb) ?_;(case hmx => exact GSL.out);intro w8 hown8 hg8)
   go_ret
   obtain ⟨i1,i2⟩ := HA.out.put ⟨keyR cols r,gb,t5,D5⟩ HRR.out HQ.out HI.out HN.out (TN.out w8 hg8) (BLK.out w8 hg8) hown8 rfl (BAG8.out w8 hg8) DG5.out GN.out (fun k s => .inl s)
   exact ⟨_,_,by rw [QE.out];rfl,i1,i2⟩
 ·have q1 : (q != 0) = true := by rw [bne_iff_ne];exact hq0
  have q2 : (q == 0) = false := by rw [beq_eq_false_iff_ne];exact hq0
  have ES := Aside0.mk (addD_same (r := r) (m := mm) (L := L) (by rw [QE.out];exact hq0))
  go_wp2_with (fail)
  go_ret
  have TN := show Turn N w w5 x m A cols Gs r (fun k => BagOwn gb t5 D5 k ∨ k = gb ∨ k ∈ gt.ids) from
   ⟨CH0.out.mono (fun k s => .inr (.inr (.inr s))),fun k s => s.elim (O0.out k) (O1.out k)⟩
  obtain ⟨i1,i2⟩ := HA.out.back ⟨keyR cols r,gb,t5,D5⟩ ⟨keyR cols r,gb,gt,gD⟩ HRR.out HQ.out HI.out HN.out HG.out rfl rfl TN (by rw [ES.out,L0.out];exact X5.out) M5.out rfl BG5.out DG5.out (by
   rw [DG5.out,ES.out,← DG.out]
   exact (HA.out.kok _ HG.out).2.2.2) (fun k s => .inl s)
  exact ⟨_,_,by rw [QE.out];rfl,i1,i2⟩
set_option maxHeartbeats 8000000 in
set_option maxRecDepth 100000 in
theorem idx_addN {N x m c : Nat} {w : World} {A : Option Addr} {cols : List Int} {M : DataW Unit} {Gs : List Bg} {L : List En} (h : IdxAt N w x m A c cols M Gs L) (hN : N ≤ w.heap.size) (Ar : Option Addr) (cr : Nat) (r : Rw) (mm : Int) (hr : RowC w Ar cr r) (hi : InR r) (hl : cols.length ≤ 1048576) (hL : L.length ≤ 100000) (hq : (pickF r cols []).2 = 0) (hrr : rright r = true) (hg : ∀ g ∈ Gs,g.key ≠ keyR cols r) :
  Calls Try.prog 38 #[.pointer (some ⟨x,0,none⟩),.slice Ar r.length cr,.int .i64 mm] w fun e w' => ∃ M' Gs',e = .returned (.int .i64 (idxAdd cols r mm L).1) ∧ IdxAt N w' x m A c cols M' Gs' (idxAdd cols r mm L).2 ∧ IdxCh w w' (IdxOwn x m A cols Gs) (IdxOwn x m A cols Gs') := by
 have HA := Aside0.mk h
 have HN := Aside0.mk hN
 have HR := Aside0.mk hr
 have HI := Aside0.mk hi
 have HL := Aside0.mk hl
 have HLL := Aside0.mk hL
 have g0 := (q0d h.blk 0).trans rfl
 have PK := Aside0.mk (pick_at Ar A cr c r cols w hr h.col h.cap hl)
 obtain ⟨p,hp⟩ : ∃ p,cols.length = p := ⟨_,rfl⟩
 have LP := Aside0.mk hp
 obtain ⟨rn,hrn⟩ : ∃ rn,r.length = rn := ⟨_,rfl⟩
 have LR := Aside0.mk hrn
 have E0 := Aside0.mk (show idxAdd cols r mm L = addD r mm L by unfold idxAdd;rw [if_pos ⟨hq,hrr⟩])
 have HQ := Aside0.mk hq
 have HRR := Aside0.mk hrr
 have HG := Aside0.mk hg
 have KA := Aside0.mk (keyR_all (cols := cols) hrr)
 have KI := Aside0.mk (keyR_in (cols := cols) hi)
 have KL := Aside0.mk (show (keyR cols r).length ≤ 1048576 by have := (pickF_mem r cols [] hq).2;unfold keyR;rw [this];simpa using hl)
 have RT := Aside0.mk (fun W (hb : Below w.heap.size w W) => right_at Ar cr r W (hr.below hb))
 rw [hrr] at RT
 rw [hq,hp,hrn] at PK
 rw [hp] at g0
 rw [hrn] at RT
 rw [hrn,E0.out]
 obtain ⟨kn,hkn⟩ : ∃ kn,(keyR cols r).length = kn := ⟨_,rfl⟩
 have LK := Aside0.mk hkn
 clear h hN hr hi hl hL hp hrn hq hrr hkn hg
 go_enter Try.func38,Try.ntmps38
 go_wp2_with (fail)
 refine PK.out.mono ?_
 rintro e w1 ⟨v1,rfl,hv1,hb1⟩
 have B1 := Aside0.mk hb1
 have V1 := Aside0.mk hv1
 obtain ⟨A1,c1,e1⟩ := Kd.R_slice hv1
 subst e1
 clear hb1 hv1 PK g0
 rw [LK.out] at V1 ⊢
 go_wp2_with (fail)
 refine (RT.out w1 B1.out).mono ?_
 rintro e w2 ⟨rfl,hb⟩
 have B2 := Aside0.mk (B1.out.trans (hb.mono B1.out.size))
 have V2 := Aside0.mk (Kd.R_below V1.out hb)
 have PK2 := Aside0.mk (pack_at A1 c1 (keyR cols r) w2 (by have := Kd.R_reads' V2.out;exact ⟨by rw [LK.out];exact this.2.1,this.2.2⟩) KL.out)
 rw [LK.out,encR_all KA.out] at PK2
 clear hb RT V1
 go_wp2_with (fail)
 refine PK2.out.mono ?_
 rintro e w3 ⟨v3,rfl,hv3,hb⟩
 have B3 := Aside0.mk (B2.out.trans (hb.mono B2.out.size))
 have A3 := Aside0.mk (HA.out.below B3.out)
 obtain ⟨A3s,c3,e3⟩ := Kd.R_slice hv3
 subst e3
 have hcv : (convert 108 9 (.slice A3s (encA (keyR cols r)).length c3)).run Try.prog w3 = .ok (.string (kB (keyR cols r))) w3 := Kd.C_string Try.underlying108 Try.underlying5 Try.underlying9 (Kd.R_reads' hv3).2.2
 obtain ⟨enl,henl⟩ : ∃ enl,(encA (keyR cols r)).length = enl := ⟨_,rfl⟩
 rw [henl] at hcv ⊢
 have g1 : w3.cell? ⟨x,1,none⟩ = some (.map (some m)) := (q0d A3.out.blk 1).trans rfl
 have KS := Aside0.mk (kB_size KA.out KL.out)
 have hth : Maps.has M (kl (keyR cols r)) = false := by
  rw [Bool.eq_false_iff]
  intro q
  obtain ⟨g,hg,e⟩ := (A3.out.there KA.out KI.out).1 q
  exact HG.out g hg e
 have hlook : (Instr.lookup tIM (.map (some m)) (.string (kB (keyR cols r))) true).run Try.prog w3 = .ok (.tuple #[.pointer none,.bool false]) w3 := by
  obtain ⟨vv,ps,h1,h2⟩ := A3.out.map.look_ok lawB Try.underlying104 (zeroB w3) RB_none (Go.WideMaps.keyOf_string_mk Try.underlying9 KS.out)
  have e1 : M.atKey (kl (keyR cols r)) .nil = .nil := atKey_of_not_has hth _
  have e9 := RB_nil (v := vv) (ps := ps) (by rw [← e1];exact h2)
  have h1' : (Instr.lookup tIM (.map (some m)) (.string (kB (keyR cols r))) true).run Try.prog w3 = .ok (.tuple #[vv,.bool (Maps.has M (kl (keyR cols r)))]) w3 := h1
  rw [h1',e9,hth]
 clear hv3 hb PK2 V2 henl hth
 go_wp2_with (fail)
 refine (bag_new w3).mono ?_
 rintro e w4 ⟨rfl,hbag,hb⟩
 have BG4 := Aside0.mk hbag
 have B4 := Aside0.mk (B3.out.trans (hb.mono B3.out.size))
 have A4 := Aside0.mk (A3.out.below hb)
 have GE := Aside0.mk (show w.heap.size ≤ w3.heap.size from B3.out.size)
 have DG := Aside0.mk (show docT Tr.nil = grp cols (keyR cols r) L by rw [A4.out.grp_none KA.out HG.out];rfl)
 have HLT := Aside0.mk (show ∀ k,IdxOwn x m A cols Gs k → k < w3.heap.size from A3.out.lt)
 obtain ⟨gb,hgb⟩ : ∃ gb,w3.heap.size = gb := ⟨_,rfl⟩
 rw [hgb] at BG4 GE HLT ⊢
 obtain ⟨gt,hgt⟩ : ∃ gt,Tr.nil = gt := ⟨_,rfl⟩
 have GT := Aside0.mk hgt
 rw [hgt] at BG4 DG
 obtain ⟨gD,hgD⟩ : ∃ gD,gD = fun _ : Nat => False := ⟨_,rfl⟩
 rw [← hgD] at BG4
 have GD := Aside0.mk hgD
 clear hbag hb hgb hgt hgD A3 B3 g1 hcv hlook
 go_wp2_with (fail)
 have SZ := Aside0.mk (show gt.size ≤ 300000000000000000 by rw [← doc_len,DG.out];have := grp_len cols (keyR cols r) L;have := HLL.out;omega)
 have AG := Aside0.mk (add_grp (cols := cols) mm HA.out.idl.ok HRR.out)
 have HR4 := Aside0.mk (HR.out.below B4.out)
 have LEN4 := Aside0.mk (bag_len gb gt w4 BG4.out)
 have ADD4 := Aside0.mk (bag_add gb gt Ar cr r mm w4 BG4.out HR4.out SZ.out)
 rw [LR.out] at ADD4
 rw [DG.out] at LEN4 ADD4
 rw [AG.out] at ADD4
 have ADL := Aside0.mk (add_len (cols := cols) mm HA.out.idl.srt HA.out.idl.ok HRR.out)
 obtain ⟨l1,hl1⟩ : ∃ l1,(addD r mm L).2.length = l1 := ⟨_,rfl⟩
 obtain ⟨n0,hn0⟩ : ∃ n0,(grp cols (keyR cols r) L).length = n0 := ⟨_,rfl⟩
 obtain ⟨n1,hn1⟩ : ∃ n1,(grp cols (keyR cols r) (addD r mm L).2).length = n1 := ⟨_,rfl⟩
 obtain ⟨l0,hl0⟩ : ∃ l0,L.length = l0 := ⟨_,rfl⟩
 have L1 := Aside0.mk hl1
 have N0 := Aside0.mk hn0
 have N1 := Aside0.mk hn1
 have L0 := Aside0.mk hl0
 have ARI : l1 + n0 = l0 + n1 := by have := ADL.out;omega
 have BD1 : l1 ≤ 100001 := by have := addD_le r mm HA.out.idl.srt;have := HLL.out;omega
 have BD2 : n0 ≤ l0 := by rw [← hn0,← hl0];exact grp_len _ _ _
 have BD3 : n1 ≤ l1 := by rw [← hn1,← hl1];exact grp_len _ _ _
 have BD4 : l0 ≤ 100000 := by rw [← hl0];exact HLL.out
 rw [hn0] at LEN4
 clear hl1 hn0 hn1 hl0 ADL SZ
 refine LEN4.out.mono ?_
 rintro e w' ⟨rfl,ew⟩
 subst ew
 go_wp2_with (fail)
 refine ADD4.out.mono ?_
 rintro e w5 ⟨t5,D5,rfl,hd5,hb5,hc5⟩
 have BG5 := Aside0.mk hb5
 have CH5 := Aside0.mk hc5
 have DG5 := Aside0.mk hd5
 clear hd5 hb5 hc5 LEN4 ADD4
 have OFF := Aside0.mk (show ∀ k,BagOwn gb gt gD k → k ≠ x ∧ k ≠ m from fun k s => by
  have h1 := HLT.out x (.inl rfl)
  have h2 := HLT.out m (.inr (.inl rfl))
  rw [← GT.out,GD.out] at s
  rcases s with s | s | s
  ·omega
  ·cases s
  ·exact s.elim)
 have OF2 := Aside0.mk (show ∀ k,k = gb ∨ k ∈ gt.ids → k ≠ x ∧ k ≠ m from fun k s => OFF.out k (s.elim .inl (fun q => .inr (.inl q))))
 have GSL := Aside0.mk (show Gs.length < maxLen from Nat.lt_of_le_of_lt (gs_len A4.out) (by have := HLL.out;unfold maxLen;omega))
 have X5 := Aside0.mk (show w5.heap[x]? = some (.cells #[.slice A cols.length c,.map (some m),.int .i64 (L.length : Int)] tIX (0,0)) from CH5.out.ch.blk A4.out.blk (fun s => (OF2.out x s).1 rfl))
 have M5 := Aside0.mk (ownsMap_heap (w1 := w5) A4.out.map (CH5.out.ch.block m A4.out.map.lt (fun s => (OF2.out m s).2 rfl)))
 have O0 := Aside0.mk (show ∀ k,BagOwn gb t5 D5 k → (∃ g ∈ Gs,g.key = keyR cols r ∧ g.own k) ∨ w.heap.size ≤ k from fun k s => by
  rcases CH5.out.own k s with q | q
  ·right
   rw [← GT.out,GD.out] at q
   have := GE.out
   rcases q with q | q | q
   ·omega
   ·cases q
   ·exact q.elim
  ·right;have := B4.out.size;omega)
 have O1 := Aside0.mk (show ∀ k,k = gb ∨ k ∈ gt.ids → (∃ g ∈ Gs,g.key = keyR cols r ∧ g.own k) ∨ w.heap.size ≤ k from fun k s => by
  rw [← GT.out] at s
  have := GE.out
  rcases s with q | q
  ·right;omega
  ·cases q)
 have CH0 := Aside0.mk (show Ch (fun k => k = gb ∨ k ∈ gt.ids) w w5 from (Ch.of_below (S := fun k => k = gb ∨ k ∈ gt.ids) B4.out).then_ CH5.out.ch (fun k s => .inl s))
 obtain ⟨q,hq⟩ : ∃ q,(addD r mm L).1 = q := ⟨_,rfl⟩
 have QE := Aside0.mk hq
 rw [hq]
 rw [L0.out] at X5
 clear hq
 by_cases hq0 : q = 0
 ·subst hq0
  have x2 : w5.cell? ⟨x,2,none⟩ = some (.int .i64 (l0 : Int)) := (q0d X5.out 2).trans rfl
  have f2 := q0e X5.out 2
  have LEN5 := Aside0.mk (fun W (e : SameW w5 W) => bag_len gb t5 W (BG5.out.below (e.below _)))
  rw [DG5.out,N1.out] at LEN5
  have e1 : wrap64 ((n1 : Int) - (n0 : Int)) = (n1 : Int) - (n0 : Int) := wrap_id (by omega) (by omega)
  have e2 : wrap64 ((l0 : Int) + ((n1 : Int) - (n0 : Int))) = (l1 : Int) := by rw [wrap_id (by omega) (by omega)];omega
  have E12 := Aside0.mk (show wrap64 ((l0 : Int) + wrap64 ((n1 : Int) - (n0 : Int))) = (l1 : Int) by rw [e1,e2])
  have WX5 := Aside0.mk (show Below w5.heap.size w5 w5.drew from (SameW.drew w5).below _)
  clear e1 e2 ARI
  go_upto_region 14 with (fail)
  refine start_ (n := 12) (S := fun w' => w'.cell? ⟨x,2,none⟩ = some (.int .i64 (l0 : Int))) (ds := [11]) #[false,false,false,false,false,false,false,false,false,false,false,false] (by kernel_rfl) rfl rfl (x2) (fun hHeld => ?_)
  refine pure_ (i := 0) (N := some 56) (v := ?_) (a' := ?_) #[true,false,false,false,false,false,false,false,false,false,false,false] rfl rfl (by kernel_rfl) (fun _ _ _ h => h) (Or.inl ⟨by rfl,?_⟩) ?_ ?_
  rotate_left
  ·intro w'
   go_simp
   with_reducible rfl
  rotate_left
  ·simp only [Act.put,zA,zB,zC,i64_w,i32_w]
   rfl
  refine pure_ (i := 1) (N := some 57) (v := ?_) (a' := ?_) #[true,true,false,false,false,false,false,false,false,false,false,false] rfl rfl (by kernel_rfl) (fun _ _ _ h => h) (Or.inl ⟨by rfl,?_⟩) ?_ ?_
  rotate_left
  ·intro w'
   go_simp
   with_reducible rfl
  rotate_left
  ·simp only [Act.put,zA,zB,zC,i64_w,i32_w]
   rfl
  refine pure_ (i := 2) (N := some 58) (v := ?_) (a' := ?_) #[true,true,true,false,false,false,false,false,false,false,false,false] rfl rfl (by kernel_rfl) (fun _ _ _ h => h) (Or.inl ⟨by rfl,?_⟩) ?_ ?_
  rotate_left
  ·intro w'
   go_simp
   with_reducible rfl
  rotate_left
  ·simp only [Act.put,zA,zB,zC,i64_w,i32_w]
   rfl
  refine pure_ (i := 4) (N := some 60) (v := ?_) (a' := ?_) #[true,true,true,false,true,false,false,false,false,false,false,false] rfl rfl (by kernel_rfl) (fun _ _ _ h => h) (Or.inl ⟨by rfl,?_⟩) ?_ ?_
  rotate_left
  ·intro w'
   go_simp
   with_reducible rfl
  rotate_left
  ·simp only [Act.put,zA,zB,zC,i64_w,i32_w]
   rfl
  refine pure_ (i := 6) (N := some 62) (v := ?_) (a' := ?_) #[true,true,true,false,true,false,true,false,false,false,false,false] rfl rfl (by kernel_rfl) (fun _ _ _ h => h) (Or.inl ⟨by rfl,?_⟩) ?_ ?_
  rotate_left
  ·intro w'
   go_simp
   with_reducible rfl
  rotate_left
  ·simp only [Act.put,zA,zB,zC,i64_w,i32_w]
   rfl
  refine take_ (i := 3) (N := some 59) (v := ?_) (a' := ?_) #[true,true,true,true,true,false,true,false,false,false,false,false] rfl rfl (by kernel_rfl) (fun _ _ _ h => h) (Or.inl ⟨by rfl,?_⟩) hHeld ?_ ?_
  rotate_left
  ·rintro w' s0
   go_simp
   with_reducible rfl
  rotate_left
  ·simp only [Act.put,zA,zB,zC,i64_w,i32_w]
   rfl
  refine one_ (i := 5) (N := some 61) #[true,true,true,true,true,true,true,false,false,false,false,false] rfl rfl (by kernel_rfl) (by decide) (fun K hK => ?_)
  refine goes_ Try.func33 (by kernel_rfl) rfl #[.pointer (some ⟨gb,0,none⟩)] (by rfl) rfl rfl (by (try simp only [List.map_toArray,List.map_cons,List.map_nil]);first | done | rfl) ?_
  refine (LEN5.out _ (SameW.drew w5)).mono ?_
  rintro e w6 ⟨rfl,ew⟩
  subst ew
  refine ⟨_,rfl,?_⟩
  refine hK.out _ _ (x2) (fun hHeld => ?_)
  clear hK K
  refine norm_ (a' := ?_) ?_ ?_
  rotate_left
  ·show Act.put _ (some 61) _ = _
   simp only [Act.put,zA,zB,zC,i64_w,i32_w]
   rfl
  refine pure_ (i := 7) (N := some 63) (v := ?_) (a' := ?_) #[true,true,true,true,true,true,true,true,false,false,false,false] rfl rfl (by kernel_rfl) (fun _ _ _ h => h) (Or.inl ⟨by rfl,?_⟩) ?_ ?_
  rotate_left
  ·intro w'
   go_simp
   with_reducible rfl
  rotate_left
  ·simp only [Act.put,zA,zB,zC,i64_w,i32_w]
   rfl
  refine pure_ (i := 8) (N := some 64) (v := ?_) (a' := ?_) #[true,true,true,true,true,true,true,true,true,false,false,false] rfl rfl (by kernel_rfl) (fun _ _ _ h => h) (Or.inl ⟨by rfl,?_⟩) ?_ ?_
  rotate_left
  ·intro w'
   go_simp
   with_reducible rfl
  rotate_left
  ·simp only [Act.put,zA,zB,zC,i64_w,i32_w]
   rfl
  refine pure_ (i := 9) (N := some 65) (v := ?_) (a' := ?_) #[true,true,true,true,true,true,true,true,true,true,false,false] rfl rfl (by kernel_rfl) (fun _ _ _ h => h) (Or.inl ⟨by rfl,?_⟩) ?_ ?_
  rotate_left
  ·intro w'
   go_simp
   with_reducible rfl
  rotate_left
  ·simp only [Act.put,zA,zB,zC,i64_w,i32_w]
   rfl
  refine pure_ (i := 10) (N := some 66) (v := ?_) (a' := ?_) #[true,true,true,true,true,true,true,true,true,true,true,false] rfl rfl (by kernel_rfl) (fun _ _ _ h => h) (Or.inl ⟨by rfl,?_⟩) ?_ ?_
  rotate_left
  ·intro w'
   go_simp
   with_reducible rfl
  rotate_left
  ·simp only [Act.put,zA,zB,zC,i64_w,i32_w]
   rfl
  refine last_ (i := 11) (N := none) #[true,true,true,true,true,true,true,true,true,true,true,true] rfl rfl (by kernel_rfl) (by decide) (fun K hK => ?_)
  refine skip_ (w1 := w5.drew.setCell ⟨x,2,none⟩ (.int .i64 (wrap64 ((l0 : Int) + wrap64 ((n1 : Int) - (n0 : Int)))))) (by rfl) rfl ?_ ?_
  ·have z : w5.drew.frozen? ⟨x,2,none⟩ = false := f2
   have c : w5.drew.cell? ⟨x,2,none⟩ = some (.int .i64 (l0 : Int)) := x2
   go_simp
   try with_reducible rfl
  refine hK.out _ _ ?_
  clear hK K
  refine done_ (by kernel_rfl) ?_
  have X6 := Aside0.mk (show (w5.drew.setCell ⟨x,2,none⟩ (.int .i64 (wrap64 ((l0 : Int) + wrap64 ((n1 : Int) - (n0 : Int)))))).heap[x]? = some (.cells #[.slice A cols.length c,.map (some m),.int .i64 (wrap64 ((l0 : Int) + wrap64 ((n1 : Int) - (n0 : Int))))] tIX (0,0)) from q0r (w := w5.drew) X5.out 2 _ rfl)
  have CS := Aside0.mk (show Ch (fun k => k = x) w5 (w5.drew.setCell ⟨x,2,none⟩ (.int .i64 (wrap64 ((l0 : Int) + wrap64 ((n1 : Int) - (n0 : Int)))))) from (Ch.of_below (S := fun k => k = x) WX5.out).then_ ((Ch.refl (fun k => k = x) w5.drew).setCell (p := ⟨x,2,none⟩) (.inl rfl) _) (fun k s => .inl s))
  rw [E12.out] at X6 CS ⊢
  generalize w5.drew.setCell ⟨x,2,none⟩ (.int .i64 (l1 : Int)) = w6 at *
  have OFB := Aside0.mk (show ∀ k,BagOwn gb t5 D5 k → k ≠ x from fun k s => by
   rcases CH5.out.own k s with q | q
   ·exact (OFF.out k q).1
   ·have := blk_lt X5.out
    have := CH5.out.ch.size
    have := A4.out.lt x (.inl rfl)
    omega)
  have BG6 := Aside0.mk (BG5.out.keep CS.out (fun k s o => OFB.out k o s))
  have M6 := Aside0.mk (ownsMap_heap (w1 := w6) M5.out (CS.out.block m M5.out.lt (fun s => by
   have h1 := M5.out
   obtain ⟨es,cl,h2,_⟩ := h1
   rw [s,X5.out] at h2
   cases h2)))
  have CH6 := Aside0.mk (show Ch (fun k => k = x ∨ k = gb ∨ k ∈ gt.ids) w w6 from (CH0.out.mono (S2 := fun k => k = x ∨ k = gb ∨ k ∈ gt.ids) (fun k s => .inr s)).then_ CS.out (fun k s => .inl (.inl s)))
  have LEN6 := Aside0.mk (bag_len gb t5 w6 BG6.out)
  rw [DG5.out,N1.out] at LEN6
  clear x2 f2 LEN5 CS E12 WX5
  go_wp2_with (fail)
  refine LEN6.out.mono ?_
  rintro e w7 ⟨rfl,ew⟩
  subst ew
  have h1 : w6.cell? ⟨x,1,none⟩ = some (.map (some m)) := (q0d X6.out 1).trans rfl
  have TN := Aside0.mk (fun (w8 : World) (hg8 : w6.grownBy w8 (some m)) => show Turn N w w8 x m A cols Gs r (fun k => BagOwn gb t5 D5 k ∨ k = gb ∨ k ∈ gt.ids) from
   ⟨⟨hg8.os.trans CH6.out.os,hg8.tape.trans CH6.out.tape,hg8.output.trans CH6.out.output,Nat.le_trans CH6.out.size hg8.size,fun k hk hn => (hg8.block k (Nat.lt_of_lt_of_le hk CH6.out.size) (fun e => by injection e with e;exact hn (.inr (.inl e)))).trans (CH6.out.block k hk (fun s => by
    rcases s with s | s
    ·exact hn (.inl s)
    ·exact hn (.inr (.inr (.inr s)))))⟩,fun k s => s.elim (O0.out k) (O1.out k)⟩)
  have BLK := Aside0.mk (fun (w8 : World) (hg8 : w6.grownBy w8 (some m)) => show w8.heap[x]? = some (.cells #[.slice A cols.length c,.map (some m),.int .i64 ((addD r mm L).2.length : Int)] tIX (0,0)) by
   rw [L1.out]
   exact (hg8.block x (blk_lt X6.out) (fun e => by
    injection e with e
    obtain ⟨es,cl,h2,_⟩ := M6.out
    rw [← e,X6.out] at h2
    cases h2)).trans X6.out)
  have BAG8 := Aside0.mk (fun (w8 : World) (hg8 : w6.grownBy w8 (some m)) => show BagAt w8 gb t5 D5 from BG6.out.keep (S := fun k => k = m) ⟨hg8.os,hg8.tape,hg8.output,hg8.size,fun k hk hn => hg8.block k hk (fun e => by injection e with e;exact hn e)⟩ (fun k s o => by
   rcases CH5.out.own k o with q | q
   ·exact (OFF.out k q).2 s
   ·have := A4.out.map.lt
    omega))
  by_cases hn1 : n1 = 0
  ·have q3 : ((n1 : Int) == 0) = true := by rw [hn1];rfl
   have q4 : decide (n1 = 0) = true := decide_eq_true hn1
   have GE := Aside0.mk (show grp cols (keyR cols r) (addD r mm L).2 = [] from List.eq_nil_of_length_eq_zero (N1.out.trans hn1))
   clear hn1
   go_wp2_with (at_delete;refine wpList_delete_own w6 rfl _ _ tIM 9 rfl 26 lawB Try.underlying104 RB m Gs.length M rfl M6.out _ (kl (keyR cols r)) rfl (Go.WideMaps.keyOf_string_mk Try.underlying9 KS.out) ?_;intro w8 hown8 hg8)
   go_ret
   obtain ⟨i1,i2⟩ := HA.out.del HRR.out HQ.out HI.out HN.out (TN.out w8 hg8.grown) (BLK.out w8 hg8.grown) hown8 GE.out
   exact ⟨_,_,by rw [QE.out];rfl,i1,i2⟩
  ·have q3 : ((n1 : Int) == 0) = false := by rw [beq_eq_false_iff_ne];omega
   have q4 : decide (n1 = 0) = false := decide_eq_false hn1
   have GN := Aside0.mk (show docT t5 ≠ [] from fun e => hn1 (by rw [← N1.out,← DG5.out,e];rfl))
   clear hn1
   go_wp2_with (at_mapUpdate;refine wpList_mapUpdate_own w6 rfl _ _ _ tIM rfl 9 26 lawB Try.underlying104 RB m Gs.length M rfl M6.out ?hmx _ _ (kl (keyR cols r)) rfl rfl (Go.WideMaps.keyOf_string_mk Try.underlying9 KS.out) (.lit (.int .i64 (gb : Int))) [] (RB_ptr gb) ?_;(case hmx => exact GSL.out);intro w8 hown8 hg8)
   go_ret
   obtain ⟨i1,i2⟩ := HA.out.put ⟨keyR cols r,gb,t5,D5⟩ HRR.out HQ.out HI.out HN.out (TN.out w8 hg8) (BLK.out w8 hg8) hown8 rfl (BAG8.out w8 hg8) DG5.out GN.out (fun k s => .inl s)
   exact ⟨_,_,by rw [QE.out];rfl,i1,i2⟩
 ·have q1 : (q != 0) = true := by rw [bne_iff_ne];exact hq0
  have q2 : (q == 0) = false := by rw [beq_eq_false_iff_ne];exact hq0
  have ES := Aside0.mk (addD_same (r := r) (m := mm) (L := L) (by rw [QE.out];exact hq0))
  go_wp2_with (fail)
  go_ret
  have hb : Below w.heap.size w w5 := CH0.out.toBelow (Nat.le_refl _) (fun k s => by
   rw [← GT.out] at s
   have := GE.out
   rcases s with q | q
   ·omega
   ·cases q)
  exact ⟨M,Gs,by rw [QE.out];rfl,by rw [ES.out];exact HA.out.below hb,IdxCh.same hb⟩
set_option maxHeartbeats 8000000 in
set_option maxRecDepth 100000 in
theorem idx_add {N x m c : Nat} {w : World} {A : Option Addr} {cols : List Int} {M : DataW Unit} {Gs : List Bg} {L : List En} (h : IdxAt N w x m A c cols M Gs L) (hN : N ≤ w.heap.size) (Ar : Option Addr) (cr : Nat) (r : Rw) (mm : Int) (hr : RowC w Ar cr r) (hi : InR r) (hl : cols.length ≤ 1048576) (hL : L.length ≤ 100000) :
  Calls Try.prog 38 #[.pointer (some ⟨x,0,none⟩),.slice Ar r.length cr,.int .i64 mm] w fun e w' => ∃ M' Gs',e = .returned (.int .i64 (idxAdd cols r mm L).1) ∧ IdxAt N w' x m A c cols M' Gs' (idxAdd cols r mm L).2 ∧ IdxCh w w' (IdxOwn x m A cols Gs) (IdxOwn x m A cols Gs') := by
 by_cases hq : (pickF r cols []).2 = 0
 ·cases hrr : rright r with
  | false => exact idx_addR h hN Ar cr r mm hr hi hl hL hq hrr
  | true =>
   by_cases hg : ∃ g ∈ Gs,g.key = keyR cols r
   ·obtain ⟨g,hg,gk⟩ := hg
    exact idx_addT h hN Ar cr r mm hr hi hl hL hq hrr g hg gk
   ·exact idx_addN h hN Ar cr r mm hr hi hl hL hq hrr (fun g hg' e => hg ⟨g,hg',e⟩)
 ·exact idx_addP h hN Ar cr r mm hr hi hl hL hq
end Go.Proofs.Ythmbfcfomcaaaaa.Z
end
section
namespace Go.Proofs.Ythmbfcfomcaaaaa.Z
set_option linter.unusedVariables false
set_option linter.unusedSimpArgs false
open Go.RowKit Go.Shelf Go.Maps Go.Proofs.YthmbfcfomcaaaaaW.PrintWords Go.Proofs.YthmbfcfomcaaaaaW.PrintLast Go.Proofs.YthmbfcfomcaaaaaW.PrintMore Go.Proofs.Ythmbfcfomcaaaaa.Cmp
theorem gs_met {N x m c : Nat} {w : World} {A : Option Addr} {cols : List Int} {M : DataW Unit} {Gs : List Bg} {L : List En} (h : IdxAt N w x m A c cols M Gs L) {ks : List Rw} (k : Met cols L L.length ks) : Gs.length = ks.length := by
 have h1 : (Gs.map Bg.key).length = ks.length := nodup_len h.keys k.nd (fun y => by
  rw [k.mem,List.take_length]
  constructor
  ·intro hk
   obtain ⟨g,hg,rfl⟩ := List.mem_map.1 hk
   obtain ⟨_,_,h3,h4⟩ := h.kok g hg
   cases hd : docT g.t with
   | nil => exact absurd hd h4
   | cons e es =>
    have h5 : e ∈ grp cols g.key L := by rw [← h3,hd];exact List.mem_cons_self
    obtain ⟨h6,h7⟩ := List.mem_filter.1 h5
    exact ⟨e,h6,key_eq (h.idl.ok e h6).1 (h.kok g hg).1 (of_decide_eq_true h7)⟩
  ·rintro ⟨e,he,rfl⟩
   obtain ⟨g,hg,eg⟩ := h.all e he
   exact List.mem_map.2 ⟨g,hg,eg⟩)
 simpa using h1
theorem row_two {w : World} {g q : Nat} {x y : S66} (h : w.heap[g]? = some (.cells #[.int .i64 x.f0,.bool x.f1,.int .i64 x.f2,.string x.f3,.int .i64 y.f0,.bool y.f1,.int .i64 y.f2,.string y.f3] q (0,0))) : RowC w (some ⟨g,0,none⟩) 2 [x,y] :=
 ⟨Nat.le_refl 2,rfl,by simp,fun _ => ⟨_,rfl,fun j p hj => by
  cases j with
  | zero =>
   simp only [List.getElem?_cons_zero,Option.some.injEq] at hj
   subst hj
   refine ⟨_,rfl,k66_mk w x,fun i u hi => ?_⟩
   rw [Nat.zero_mul,Nat.zero_add,add_plain]
   have h1 := q0d h i
   rw [h1,← hi]
   rcases i with _ | _ | _ | _ | i <;> first | rfl | simp at hi
  | succ j =>
   cases j with
   | zero =>
    simp only [List.getElem?_cons_zero,List.getElem?_cons_succ,Option.some.injEq] at hj
    subst hj
    refine ⟨_,rfl,k66_mk w y,fun i u hi => ?_⟩
    have e : (0 + 1) * k66.sz + i = 4 + i := rfl
    rw [e,add_plain]
    have h1 := q0d h (4 + i)
    rw [h1,← hi]
    rcases i with _ | _ | _ | _ | i <;> first | rfl | simp at hi
   | succ j => simp at hj⟩⟩
theorem row_snd {w : World} {g q : Nat} {x y : S66} (h : w.heap[g]? = some (.cells #[.int .i64 x.f0,.bool x.f1,.int .i64 x.f2,.string x.f3,.int .i64 y.f0,.bool y.f1,.int .i64 y.f2,.string y.f3] q (0,0))) : RowC w (some ⟨g,4,none⟩) 1 [y] :=
 ⟨Nat.le_refl 1,rfl,by simp,fun _ => ⟨_,rfl,fun j p hj => by
  cases j with
  | succ j => simp at hj
  | zero =>
   simp only [List.getElem?_cons_zero,Option.some.injEq] at hj
   subst hj
   refine ⟨_,rfl,k66_mk w y,fun i u hi => ?_⟩
   rw [Nat.zero_mul,Nat.zero_add]
   have e : (⟨g,4,none⟩ : Addr).add i = ⟨g,4 + i,none⟩ := by first | rfl | simp [Addr.add] | (unfold Addr.add;split <;> first | rfl | omega)
   rw [e]
   have h1 := q0d h (4 + i)
   rw [h1,← hi]
   rcases i with _ | _ | _ | _ | i <;> first | rfl | simp at hi⟩⟩
structure Two2 (w : World) (o : Nat → Prop) (g : Nat) (x y : S66) : Prop where
 blk : w.heap[g]? = some (.cells #[.int .i64 x.f0,.bool x.f1,.int .i64 x.f2,.string x.f3,.int .i64 y.f0,.bool y.f1,.int .i64 y.f2,.string y.f3] 66 (0,0))
 off : ¬ o g
theorem Two2.step {w w' : World} {o o' : Nat → Prop} {g : Nat} {x y : S66} (h : Two2 w o g x y) (k : IdxCh w w' o o') : Two2 w' o' g x y :=
 ⟨k.ch.blk h.blk h.off,fun q => (k.own g q).elim h.off (fun e => by have := blk_lt h.blk;omega)⟩
theorem Two2.below {w w' : World} {o : Nat → Prop} {g : Nat} {x y : S66} (h : Two2 w o g x y) (k : Below w.heap.size w w') : Two2 w' o g x y := ⟨(k.block g (blk_lt h.blk)).trans h.blk,h.off⟩
def kI (n : Int) : S66 := ⟨2,false,n,⟨#[]⟩⟩
def kA : S66 := ⟨3,false,0,⟨#[97]⟩⟩
def kL1 : List En := [⟨[kI 1,kA],1⟩]
def kL2 : List En := [⟨[kI 1,kA],1⟩,⟨[kI 2,kA],1⟩]
theorem ik1 : idxAdd [1] [kI 1,kA] 1 [] = (0,kL1) := by kernel_rfl
theorem ik2 : idxAdd [1] [kI 2,kA] 1 kL1 = (0,kL2) := by kernel_rfl
theorem ik3 : (grp [1] [kA] kL2).length = 2 := by kernel_rfl
theorem ik4 : sumM (grp [1] [kA] kL2) = 2 := by kernel_rfl
theorem ik5 : Met [1] kL2 kL2.length [[kA]] := by
 have h0 := Met.zero [1] kL2
 have h1 := h0.new (x := ⟨[kI 1,kA],1⟩) rfl (by simp)
 have e1 : keyR [1] (⟨[kI 1,kA],1⟩ : En).f0 = [kA] := by kernel_rfl
 have e2 : keyR [1] (⟨[kI 2,kA],1⟩ : En).f0 = [kA] := by kernel_rfl
 rw [e1] at h1
 exact h1.old (x := ⟨[kI 2,kA],1⟩) rfl (by rw [e2];simp)
theorem kI_in (n : Int) (h : n = 1 ∨ n = 2) : InR [kI n,kA] := fun v hv => by
 rcases List.mem_cons.1 hv with e | hv
 ·rw [e];show -9223372036854775808 ≤ n ∧ n ≤ 9223372036854775807;omega
 ·rw [List.mem_singleton.1 hv];show -9223372036854775808 ≤ (0 : Int) ∧ (0 : Int) ≤ 9223372036854775807;omega
theorem kA_in : InR [kA] := fun v hv => by
 rw [List.mem_singleton.1 hv];show -9223372036854775808 ≤ (0 : Int) ∧ (0 : Int) ≤ 9223372036854775807;omega
theorem C_one {w : World} {g q : Nat} {v : Int} (h : w.heap[g]? = some (.cells #[.int .i64 v] q (0,0))) : Kd.C (Kd.int .i64) w (some ⟨g,0,none⟩) 1 [v] :=
 ⟨rfl,by simp,fun _ => ⟨_,rfl,fun j p hj => by
  cases j with
  | succ j => simp at hj
  | zero =>
   simp only [List.getElem?_cons_zero,Option.some.injEq] at hj
   subst hj
   refine ⟨[.int .i64 v],rfl,rfl,fun i u hi => ?_⟩
   rw [Nat.zero_mul,Nat.zero_add,add_plain]
   have h1 := q0d h i
   rw [h1,← hi]
   simp⟩⟩
set_option maxHeartbeats 8000000 in
set_option maxRecDepth 100000 in
theorem known06 (w : World) : Calls Try.prog 37 #[] w fun e w' => e = .returned (.bool true) ∧ Below w.heap.size w w' := by
 have HB := Aside0.mk (q0b (Below.refl w.heap.size w) (Obj.cells #[.int .i64 1] 3))
 have NW := Aside0.mk (idx_new (some ⟨w.heap.size,0,none⟩) 1 [1] (w.alloc (Obj.cells #[.int .i64 1] 3)) (C_one (blk_new w _)) (by simp) (by simp))
 go_enter Try.func37,Try.ntmps37
 go_wp2_with (fail)
 refine NW.out.mono ?_
 rintro e w1 ⟨hb,hh⟩
 rcases hh with ⟨hbad,_⟩ | ⟨_,x,m,A,c,rfl,hI⟩
 ·exact absurd hbad (by decide)
 have B1 := Aside0.mk (HB.out.trans (hb.mono HB.out.size))
 have I1 := Aside0.mk hI
 have SZ := Aside0.mk (HB.out.size)
 obtain ⟨N,hN⟩ : ∃ N,(w.alloc (Obj.cells #[.int .i64 1] 3)).heap.size = N := ⟨_,rfl⟩
 rw [hN] at I1 SZ
 have NL1 := Aside0.mk (show N ≤ w1.heap.size by rw [← hN];exact hb.size)
 clear hb hI NW HB hN
 go_upto_region 6 with (fail)
 have BA := q0b (Below.refl w1.heap.size w1) (Obj.cells #[.int .i64 2,.bool false,.int .i64 1,.string ⟨#[]⟩,.int .i64 3,.bool false,.int .i64 0,.string ⟨#[97]⟩] 66)
 have I2 := Aside0.mk (I1.out.below BA)
 have TA2 := Aside0.mk (show Two2 (w1.alloc (Obj.cells #[.int .i64 2,.bool false,.int .i64 1,.string ⟨#[]⟩,.int .i64 3,.bool false,.int .i64 0,.string ⟨#[97]⟩] 66)) (IdxOwn x m A [1] []) w1.heap.size (kI 1) kA from ⟨blk_new w1 _,fun ho => absurd (I1.out.lt _ ho) (Nat.lt_irrefl _)⟩)
 have E2 : (w1.alloc (Obj.cells #[.int .i64 2,.bool false,.int .i64 1,.string ⟨#[]⟩,.int .i64 3,.bool false,.int .i64 0,.string ⟨#[97]⟩] 66)).heap.size = w1.heap.size + 1 := Array.size_push _
 have B2 := Aside0.mk (B1.out.trans (BA.mono B1.out.size))
 have NL2 := Aside0.mk (show N ≤ (w1.alloc (Obj.cells #[.int .i64 2,.bool false,.int .i64 1,.string ⟨#[]⟩,.int .i64 3,.bool false,.int .i64 0,.string ⟨#[97]⟩] 66)).heap.size from Nat.le_trans NL1.out BA.size)
 obtain ⟨ga,hga⟩ : ∃ ga,w1.heap.size = ga := ⟨_,rfl⟩
 rw [hga] at TA2 E2 ⊢
 clear hga I1 BA B1 NL1
 generalize w1.alloc (Obj.cells #[.int .i64 2,.bool false,.int .i64 1,.string ⟨#[]⟩,.int .i64 3,.bool false,.int .i64 0,.string ⟨#[97]⟩] 66) = w2 at *
 have BB := q0b (Below.refl w2.heap.size w2) (Obj.cells #[.int .i64 2,.bool false,.int .i64 2,.string ⟨#[]⟩,.int .i64 3,.bool false,.int .i64 0,.string ⟨#[97]⟩] 66)
 have I3 := Aside0.mk (I2.out.below BB)
 have TB3 := Aside0.mk (show Two2 (w2.alloc (Obj.cells #[.int .i64 2,.bool false,.int .i64 2,.string ⟨#[]⟩,.int .i64 3,.bool false,.int .i64 0,.string ⟨#[97]⟩] 66)) (IdxOwn x m A [1] []) w2.heap.size (kI 2) kA from ⟨blk_new w2 _,fun ho => absurd (I2.out.lt _ ho) (Nat.lt_irrefl _)⟩)
 have TA3 := Aside0.mk (TA2.out.below BB)
 have B3 := Aside0.mk (B2.out.trans (BB.mono B2.out.size))
 have NL3 := Aside0.mk (Nat.le_trans NL2.out BB.size)
 rw [← E2]
 obtain ⟨gb,hgb⟩ : ∃ gb,w2.heap.size = gb := ⟨_,rfl⟩
 rw [hgb] at TB3 ⊢
 clear hgb E2 I2 TA2 B2 NL2 BB
 generalize w2.alloc (Obj.cells #[.int .i64 2,.bool false,.int .i64 2,.string ⟨#[]⟩,.int .i64 3,.bool false,.int .i64 0,.string ⟨#[97]⟩] 66) = w3 at *
 go_wp2_with (fail)
 have AD := Aside0.mk (idx_add I3.out NL3.out (some ⟨ga,0,none⟩) 2 [kI 1,kA] 1 (row_two TA3.out.blk) (kI_in 1 (.inl rfl)) (by simp) (by simp))
 rw [ik1] at AD
 refine AD.out.mono ?_
 rintro e w4 ⟨M4,G4,rfl,hI,hC⟩
 have I4 := Aside0.mk hI
 have TA4 := Aside0.mk (TA3.out.step hC)
 have TB4 := Aside0.mk (TB3.out.step hC)
 have B4 := Aside0.mk (show Below w.heap.size w w4 from B3.out.trans (hC.ch.toBelow B3.out.size (fun k hk => Nat.le_trans SZ.out (I3.out.own k hk))))
 have NL4 := Aside0.mk (Nat.le_trans NL3.out hC.ch.size)
 clear hI hC AD I3 TA3 TB3 B3 NL3
 go_wp2_with (fail)
 have AD := Aside0.mk (idx_add I4.out NL4.out (some ⟨gb,0,none⟩) 2 [kI 2,kA] 1 (row_two TB4.out.blk) (kI_in 2 (.inr rfl)) (by simp) (by simp [kL1]))
 rw [ik2] at AD
 refine AD.out.mono ?_
 rintro e w5 ⟨M5,G5,rfl,hI,hC⟩
 have I5 := Aside0.mk hI
 have TA5 := Aside0.mk (TA4.out.step hC)
 have B5 := Aside0.mk (show Below w.heap.size w w5 from B4.out.trans (hC.ch.toBelow B4.out.size (fun k hk => Nat.le_trans SZ.out (I4.out.own k hk))))
 clear hI hC AD I4 TA4 TB4 B4 NL4
 have FN := Aside0.mk (idx_find I5.out (some ⟨ga,4,none⟩) 1 [kA] (row_snd TA5.out.blk) kA_in (by simp) (by simp [kL2]))
 go_wp2_with (fail)
 refine FN.out.mono ?_
 rintro e w6 ⟨v6,rfl,hv,hb⟩
 obtain ⟨A6,c6,e6⟩ := Kd.R_slice hv
 subst e6
 rw [ik3]
 have I6 := Aside0.mk (I5.out.below hb)
 have TA6 := Aside0.mk (TA5.out.below hb)
 have B6 := Aside0.mk (B5.out.trans (hb.mono B5.out.size))
 clear hv hb FN I5 TA5 B5
 have HS := Aside0.mk (idx_has I6.out (some ⟨ga,4,none⟩) 1 [kA] (row_snd TA6.out.blk) kA_in (by simp) (by simp [kL2]))
 rw [ik4] at HS
 go_wp2_with (fail)
 refine HS.out.mono ?_
 rintro e w7 ⟨rfl,hb⟩
 have I7 := Aside0.mk (I6.out.below hb)
 have B7 := Aside0.mk (B6.out.trans (hb.mono B6.out.size))
 clear hb HS I6 TA6 B6
 have KE := Aside0.mk (idx_keys I7.out)
 rw [gs_met I7.out ik5] at KE
 go_wp2_with (fail)
 refine KE.out.mono ?_
 rintro e w8 ⟨rfl,ew⟩
 subst ew
 go_wp2_with (fail)
 refine (idx_len I7.out).mono ?_
 rintro e w9 ⟨rfl,ew⟩
 subst ew
 go_wp2_with (fail)
 go_ret
 exact ⟨rfl,B7.out⟩
end Go.Proofs.Ythmbfcfomcaaaaa.Z
end
section
namespace Go.Proofs.Ythmbfcfomcaaaaa.Z
set_option linter.unusedVariables false
set_option linter.unusedSimpArgs false
open Go.RowKit Go.Shelf Go.Maps Go.Proofs.YthmbfcfomcaaaaaW.PrintWords Go.Proofs.YthmbfcfomcaaaaaW.PrintLast Go.Proofs.YthmbfcfomcaaaaaW.PrintMore Go.Proofs.Ythmbfcfomcaaaaa.Cmp
end Go.Proofs.Ythmbfcfomcaaaaa.Z
end
section
namespace Go.Proofs.Ythmbfcfomcaaaaa.Z
set_option linter.unusedVariables false
set_option linter.unusedSimpArgs false
open Go.RowKit Go.Proofs.YthmbfcfomcaaaaaW.PrintWords Go.Proofs.YthmbfcfomcaaaaaW.PrintLast Go.Proofs.YthmbfcfomcaaaaaW.PrintMore Go.Proofs.Ythmbfcfomcaaaaa.Cmp
end Go.Proofs.Ythmbfcfomcaaaaa.Z
end
section
namespace Go.Proofs.Ythmbfcfomcaaaaa.Z
set_option linter.unusedVariables false
set_option linter.unusedSimpArgs false
open Go.RowKit Go.Proofs.YthmbfcfomcaaaaaW.PrintWords Go.Proofs.YthmbfcfomcaaaaaW.PrintLast Go.Proofs.YthmbfcfomcaaaaaW.PrintMore Go.Proofs.Ythmbfcfomcaaaaa.Cmp
end Go.Proofs.Ythmbfcfomcaaaaa.Z
end
section
namespace Go.Proofs.Ythmbfcfomcaaaaa.Z
set_option linter.unusedVariables false
set_option linter.unusedSimpArgs false
open Go.RowKit Go.Proofs.YthmbfcfomcaaaaaW.PrintWords Go.Proofs.YthmbfcfomcaaaaaW.PrintLast Go.Proofs.YthmbfcfomcaaaaaW.PrintMore Go.Proofs.Ythmbfcfomcaaaaa.Cmp
structure OneR (N : Nat) (w : World) (g : Nat) (A : Option Addr) (c : Nat) (L : List En) (E : Nat → Prop) : Prop where
 ref : RefV w g A c L E
 g_le : N ≤ g
 e_le : ∀ k,E k → N ≤ k
theorem OneR.below {N : Nat} {w w1 : World} {g : Nat} {A : Option Addr} {c : Nat} {L : List En} {E : Nat → Prop} (h : OneR N w g A c L E) (hb : Below w.heap.size w w1) : OneR N w1 g A c L E := ⟨h.ref.below hb,h.g_le,h.e_le⟩
end Go.Proofs.Ythmbfcfomcaaaaa.Z
end
section
namespace Go.Proofs.Ythmbfcfomcaaaaa.Z
set_option linter.unusedVariables false
set_option linter.unusedSimpArgs false
open Go.RowKit Go.Shelf Go.Maps Go.Proofs.YthmbfcfomcaaaaaW.PrintWords Go.Proofs.YthmbfcfomcaaaaaW.PrintLast Go.Proofs.YthmbfcfomcaaaaaW.PrintMore Go.Proofs.Ythmbfcfomcaaaaa.Cmp
structure IB (N : Nat) (w : World) (x m : Nat) (A : Option Addr) (c : Nat) (cols : List Int) (M : DataW Unit) (Gs : List Bg) (L : List En) (g : Nat) (Ar : Option Addr) (cr : Nat) (L2 : List En) (E : Nat → Prop) : Prop where
 idx : IdxAt N w x m A c cols M Gs L
 ref : RefV w g Ar cr L2 E
 off : ∀ k,IdxOwn x m A cols Gs k → k ≠ g ∧ ¬ E k
 g_le : N ≤ g
 e_le : ∀ k,E k → N ≤ k
section
variable {N x m c g cr : Nat} {w W : World} {A Ar : Option Addr} {cols : List Int} {M : DataW Unit} {Gs : List Bg} {L L2 : List En} {E : Nat → Prop}
theorem IB.below (h : IB N w x m A c cols M Gs L g Ar cr L2 E) (hb : Below w.heap.size w W) : IB N W x m A c cols M Gs L g Ar cr L2 E := ⟨h.idx.below hb,h.ref.below hb,h.off,h.g_le,h.e_le⟩
end
theorem idxAdd_le (cols : List Int) (r : Rw) (m : Int) {L : List En} (h : SrtD L) : (idxAdd cols r m L).2.length ≤ L.length + 1 := by
 unfold idxAdd
 split
 ·exact addD_le r m h
 ·simp
end Go.Proofs.Ythmbfcfomcaaaaa.Z
end
section
namespace Go.Proofs.Ythmbfcfomcaaaaa.Z
namespace Ri
set_option linter.unusedVariables false
set_option linter.unusedSimpArgs false
open Go.RowKit Go.Proofs.YthmbfcfomcaaaaaW.PrintWords Go.Proofs.YthmbfcfomcaaaaaW.PrintLast Go.Proofs.YthmbfcfomcaaaaaW.PrintMore Go.Proofs.Ythmbfcfomcaaaaa.Cmp
variable {V0 : Value}
structure RefV (V0 : Value) (w : World) (g : Nat) (A : Option Addr) (c : Nat) (L : List En) (D : Nat → Prop) : Prop where
 blk : w.heap[g]? = some (.cells #[V0,.slice A L.length c] 62 (0,0))
 cap : L.length ≤ c
 row : Kd.F k34 w D A L.length L
 g_not : ¬ D g
 lt : ∀ k,D k → k < w.heap.size
theorem RefV.keep {w w1 : World} {g : Nat} {A : Option Addr} {c : Nat} {L : List En} {D S : Nat → Prop} (h : RefV V0 w g A c L D) (hc : Ch S w w1) (hg : ¬ S g) (hD : ∀ k,D k → ¬ S k) : RefV V0 w1 g A c L D :=
 ⟨hc.blk h.blk hg,h.cap,Kd.F_step h.row (fun k hk hlt => hc.block k hlt (hD k hk)),h.g_not,fun k hk => Nat.lt_of_lt_of_le (h.lt k hk) hc.size⟩
theorem RefV.below {w w1 : World} {g : Nat} {A : Option Addr} {c : Nat} {L : List En} {D : Nat → Prop} (h : RefV V0 w g A c L D) (hb : Below w.heap.size w w1) : RefV V0 w1 g A c L D :=
 h.keep (Ch.of_below (S := fun _ => False) hb) (fun s => s) (fun _ _ s => s)
theorem RefV.get {w : World} {g : Nat} {A : Option Addr} {c : Nat} {L : List En} {D : Nat → Prop} (h : RefV V0 w g A c L D) {i : Nat} (hi : i < L.length) {x : En} (hx : L[i]? = some x) :
  ∃ ad A0 c0,A = some ad ∧ w.cell? (ad.add (i * 2)) = some (.slice A0 x.f0.length c0) ∧ w.cell? ⟨(ad.add (i * 2)).block,(ad.add (i * 2)).off + 1,none⟩ = some (.int .i64 x.f1) ∧ RowC w A0 c0 x.f0 ∧ x.f0.length ≤ c0 ∧ Kd.F k66 w D A0 x.f0.length x.f0 := by
 obtain ⟨ad,cs,e1,hcl,hK,hcc,_⟩ := Kd.F_get h.row z34 (i : Int) (by omega) (by omega)
 simp only [Int.toNat_natCast] at hK hcc
 rw [List.getD_eq_getElem?_getD,hx] at hK
 obtain ⟨A0,c0,e2,hl,hF⟩ := k34_openF hK
 subst e2
 have hc : ∀ j u,[Value.slice A0 x.f0.length c0,Value.int .i64 x.f1][j]? = some u → w.cell? (ad.add (i * 2 + j)) = some u := hcc
 exact ⟨ad,A0,c0,e1,hc 0 _ rfl,by rw [← add_field _ _ 1 (by omega)];exact hc 1 _ rfl,⟨hl,Kd.F_now hF⟩,hl,hF⟩
set_option maxHeartbeats 4000000 in
set_option maxRecDepth 100000 in
theorem ref_find {D : Nat → Prop} (g : Nat) (A1 : Option Addr) (c1 : Nat) (L : List En) (A : Option Addr) (c : Nat) (r : Rw) (w : World) (h : RefV V0 w g A1 c1 L D) (hs : SrtD L) (hk : OkD L) (hr : RowC w A c r) (hl : L.length ≤ 1000000) :
  Calls Try.prog 67 #[.pointer (some ⟨g,1,none⟩),.slice A r.length c] w fun e w' => e = .returned (.tuple #[.int .i64 ((loD r L).length : Int),.bool (fndD r L).isSome]) ∧ Below w.heap.size w w' := by
 have HV := Aside0.mk h
 have HS := Aside0.mk hs
 have HK := Aside0.mk hk
 have HR := Aside0.mk hr
 have HB := Aside0.mk (Below.refl w.heap.size w)
 obtain ⟨n,hn⟩ : ∃ n,L.length = n := ⟨_,rfl⟩
 obtain ⟨m,hm⟩ : ∃ m,(loD r L).length = m := ⟨_,rfl⟩
 have LN := Aside0.mk hn
 have LM := Aside0.mk hm
 have mn : m ≤ n := by have := lo_len r hs;omega
 obtain ⟨ob,hob⟩ : ∃ ob,(fndD r L).isSome = ob := ⟨_,rfl⟩
 have HO := Aside0.mk hob
 have g0 := (q0d h.blk 1).trans rfl
 rw [hn] at g0 hl
 rw [hm,hob]
 clear h hs hk hr hn hm hob
 go_enter Try.func67,Try.ntmps67
 go_wp2_with (fail)
 go_loopw [6] (fun iv wr => ∃ i : Nat,iv = .int .i64 (i : Int) ∧ i ≤ m ∧ Aside0 (Below w.heap.size w wr)) (fun iv _ => n - (intOf iv).toNat)
 case atStart => exact ⟨0,rfl,Nat.zero_le _,HB⟩
 case round =>
  clear HB
  obtain ⟨i,rfl,hi,HB⟩ := hrel
  have g1 := (HB.out.cell (World.block_lt_of_cell? w _ g0)).trans g0
  by_cases hin : i < n
  ·have q0 : decide ((i : Int) < (n : Int)) = true := decide_eq_true (by omega)
   have q0' : decide (i < n) = true := decide_eq_true hin
   have p0 : (0 : Int) ≤ (i : Int) := by omega
   have p1 : (i : Int) < (n : Int) := by omega
   obtain ⟨x,hx⟩ : ∃ x,L[i]? = some x := ⟨L[i]'(by have := LN.out;omega),List.getElem?_eq_getElem _⟩
   obtain ⟨ad,A0,c0,e1,x0,x1,hxc,_,_⟩ := (HV.out.below HB.out).get (by have := LN.out;omega) hx
   subst e1
   have HX := Aside0.mk hx
   have XC := Aside0.mk hxc
   have XR := Aside0.mk (HK.out x (List.mem_of_getElem? hx)).1
   have RC := Aside0.mk (HR.out.below HB.out)
   clear hx hxc
   go_wp2_with (fail)
   refine (rcmp_at A0 A c0 c x.f0 r wr XC.out RC.out XR.out).mono ?_
   rintro e w2 ⟨rfl,hb⟩
   have HB2 := Aside0.mk (HB.out.trans (hb.mono HB.out.size))
   replace g1 := (hb.cell (World.block_lt_of_cell? wr _ g1)).trans g1
   replace x0 := (hb.cell (World.block_lt_of_cell? wr _ x0)).trans x0
   have XC2 := Aside0.mk (XC.out.below hb)
   have RC2 := Aside0.mk (RC.out.below hb)
   clear hb HB XC RC
   obtain ⟨v,hv⟩ : ∃ v,rcmp x.f0 r = v := ⟨_,rfl⟩
   have VX := Aside0.mk hv
   rw [hv]
   clear hv
   by_cases hlt : i < m
   ·have hv0 : v < 0 := by have h1 := (lo_at (r := r) HS.out HX.out).1 (by have := LM.out;omega);rw [VX.out] at h1;exact h1
    have q1 : decide (v < 0) = true := decide_eq_true hv0
    go_wp2_with (fail)
    go_roundw
    case rel => exact ⟨i + 1,by go_num,hlt,HB2⟩
    case measure => simp [intOf];omega
   ·have hv0 : ¬ v < 0 := by have h1 := (lo_at (r := r) HS.out HX.out).2 (by have := LM.out;omega);rw [VX.out] at h1;exact h1
    have q1 : decide (v < 0) = false := decide_eq_false hv0
    have him : i = m := by omega
    have FA := Aside0.mk (fnd_at (r := r) HS.out (x := x) (by rw [LM.out,← him];exact HX.out))
    subst him
    go_wp2_with (fail)
    refine (rsame_at A0 A c0 c x.f0 r w2 XC2.out RC2.out XR.out).mono ?_
    rintro e w3 ⟨rfl,hb⟩
    have HB3 := Aside0.mk (HB2.out.trans (hb.mono HB2.out.size))
    rw [FA.out.1.trans HO.out]
    clear hb HB2 XC2 RC2 FA HO VX
    go_wp2_with (fail)
    go_ret2
    exact ⟨rfl,HB3.out⟩
  ·have q0 : decide ((i : Int) < (n : Int)) = false := decide_eq_false (by omega)
   have q0' : decide (i < n) = false := decide_eq_false hin
   have b5 : n ≤ i := by omega
   have him : i = m := by omega
   obtain rfl : false = ob := by rw [← HO.out,fnd_end HS.out (by have := LM.out;have := LN.out;omega)];rfl
   subst him
   go_wp2_with (fail)
   go_ret2
   exact ⟨rfl,HB.out⟩
set_option maxHeartbeats 4000000 in
set_option maxRecDepth 100000 in
theorem ref_many {D : Nat → Prop} (g : Nat) (A1 : Option Addr) (c1 : Nat) (L : List En) (A : Option Addr) (c : Nat) (r : Rw) (w : World) (h : RefV V0 w g A1 c1 L D) (hs : SrtD L) (hk : OkD L) (hr : RowC w A c r) (hl : L.length ≤ 1000000) :
  Calls Try.prog 19 #[.pointer (some ⟨g,1,none⟩),.slice A r.length c] w fun e w' => e = .returned (.int .i64 (manyD r L)) ∧ Below w.heap.size w w' := by
 have HV := Aside0.mk h
 have HS := Aside0.mk hs
 have FN := Aside0.mk (ref_find g A1 c1 L A c r w h hs hk hr hl)
 obtain ⟨n,hn⟩ : ∃ n,L.length = n := ⟨_,rfl⟩
 obtain ⟨m,hm⟩ : ∃ m,(loD r L).length = m := ⟨_,rfl⟩
 have LN := Aside0.mk hn
 have LM := Aside0.mk hm
 have g0 := (q0d h.blk 1).trans rfl
 rw [hn] at g0
 rw [hm] at FN
 obtain ⟨mm,hmm⟩ : ∃ mm,manyD r L = mm := ⟨_,rfl⟩
 have MM := Aside0.mk hmm
 rw [hmm]
 cases hf : fndD r L with
 | none =>
  rw [hf] at FN
  obtain rfl : 0 = mm := by rw [← hmm];unfold manyD;rw [hf]
  simp only [Option.isSome_none] at FN
  clear h hs hk hr hn hm hmm hf
  go_enter Try.func19,Try.ntmps19
  go_wp2_with (fail)
  refine FN.out.mono ?_
  rintro e w1 ⟨rfl,hb⟩
  have HB := Aside0.mk hb
  clear hb FN
  go_wp2_with (fail)
  go_ret
  exact ⟨rfl,HB.out⟩
 | some y =>
  rw [hf] at FN
  obtain rfl : y.f1 = mm := by rw [← hmm];unfold manyD;rw [hf]
  simp only [Option.isSome_some] at FN
  have hmn : m < n := by
   rcases Nat.lt_or_ge m n with q | q
   ·exact q
   ·have := lo_len r hs
    rw [fnd_end hs (by omega)] at hf
    cases hf
  have hy : L[m]? = some y := by
   have h1 := List.getElem?_eq_getElem (show m < L.length by omega)
   rcases (fnd_at (r := r) hs (x := L[m]) (by rw [hm];exact h1)).2 with q | q
   ·rw [hf] at q;rw [h1,q]
   ·rw [hf] at q;cases q
  have p0 : (0 : Int) ≤ (m : Int) := by omega
  have p1 : (m : Int) < (n : Int) := by omega
  obtain ⟨ad,A0,c0,e1,x0,x1,_,_,_⟩ := h.get (by omega) hy
  subst e1
  clear h hs hk hr hn hm hmm hf hy
  go_enter Try.func19,Try.ntmps19
  go_wp2_with (fail)
  refine FN.out.mono ?_
  rintro e w1 ⟨rfl,hb⟩
  have HB := Aside0.mk hb
  replace g0 := (hb.cell (World.block_lt_of_cell? w _ g0)).trans g0
  replace x1 := (hb.cell (World.block_lt_of_cell? w _ x1)).trans x1
  clear hb FN x0
  go_wp2_with (fail)
  go_ret
  exact ⟨rfl,HB.out⟩
end Ri
end Go.Proofs.Ythmbfcfomcaaaaa.Z
end
