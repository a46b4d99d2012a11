/- Parts of the proof of PackReads: what its functions answer. -/
import Derived.Test.YtfoaeigoajooeaaMPackReadsa
import Derived.Test.YtfoaeigoajooeaaMPackReadsb
import Derived.Deep.Slices
import Derived.ProofKit
section
namespace Go.Proofs.Ytfoaeigoajooeaa.Z
open Go.RowKit Go.Proofs.YtfoaeigoajooeaaW.PrintWords Go.Proofs.YtfoaeigoajooeaaW.PrintLast Go.Proofs.YtfoaeigoajooeaaW.PrintMore
attribute [local go_sem] max2_int min2_int max_two min_two max_three min_three max_four min_four
set_option linter.unusedVariables false
set_option linter.unusedSimpArgs false
attribute [local go_sem high] eqA50
def verdererlaw04_known.f (k : Nat)  : Option (Bool) := (pack_Row.f k (([(⟨0,false,0,(⟨#[]⟩ : ByteArray)⟩ : S50),(⟨1,true,0,(⟨#[]⟩ : ByteArray)⟩ : S50)] : List (S50)))).bind fun t516 => ((pack_Back.f k t516).bind fun bt519 => ((pack_First.f k (([2,1,7] : List Int))).bind fun bt526 => (if (strOfNums t516).toList = ([1,2,1,0] : List UInt8) then (if (bt519.1.length : Int) = 2 then (if bt519.2 = 0 then (if (bt526.1 == 1 && (bt526.2.1 && (bt526.2.2.1 == 0 && (bt526.2.2.2.1.toList == ([] : List UInt8))))) = true then (if bt526.2.2.2.2.1 = 2 then (some (bt526.2.2.2.2.2 == 0)) else (none)) else (none)) else (none)) else (none)) else (none))))
theorem verdererlaw04_known.mono : ∀ k,LeO (verdererlaw04_known.f k ) (verdererlaw04_known.f (k + 1) ) := by
  intro  k
  unfold verdererlaw04_known.f
  repeat' first
      | (with_reducible exact pack_Back.mono _ _)
      | (with_reducible exact pack_First.mono _ _)
      | (with_reducible exact pack_Row.mono _ _)
      | (with_reducible exact LeO.refl _)
      | (with_reducible exact LeO.none _)
      | (with_reducible refine LeO.ite ?_ ?_)
      | (with_reducible refine LeO.bind ?_ (fun _ => ?_))
      | exact pack_Back.mono _ _
      | exact pack_First.mono _ _
      | exact pack_Row.mono _ _
      | exact LeO.none _
      | refine LeO.ite ?_ ?_
      | refine LeO.bind ?_ (fun _ => ?_)
set_option maxHeartbeats 8000000 in
set_option maxRecDepth 100000 in
theorem verdererlaw04_known.calls (k : Nat)  (r : Bool) (w : World) (h : verdererlaw04_known.f k  = some r) :
    Calls Try.prog 32 #[] w fun e w' => e = .returned (.bool r) ∧ Below w.heap.size w w' := by
  have hu50 := Try.underlying50
  have HB := Aside0.mk (Below.refl w.heap.size w)
  have H : ((pack_Row.f k (([(⟨0,false,0,(⟨#[]⟩ : ByteArray)⟩ : S50),(⟨1,true,0,(⟨#[]⟩ : ByteArray)⟩ : S50)] : List (S50)))).bind fun t516 => ((pack_Back.f k t516).bind fun bt519 => ((pack_First.f k (([2,1,7] : List Int))).bind fun bt526 => (if (strOfNums t516).toList = ([1,2,1,0] : List UInt8) then (if (bt519.1.length : Int) = 2 then (if bt519.2 = 0 then (if (bt526.1 == 1 && (bt526.2.1 && (bt526.2.2.1 == 0 && (bt526.2.2.2.1.toList == ([] : List UInt8))))) = true then (if bt526.2.2.2.2.1 = 2 then (some (bt526.2.2.2.2.2 == 0)) else (none)) else (none)) else (none)) else (none)) else (none))))) = some r := h
  clear h
  obtain ⟨y513,hy513⟩ : ∃ y_ : List (S50),y_ = (([(⟨0,false,0,(⟨#[]⟩ : ByteArray)⟩ : S50),(⟨1,true,0,(⟨#[]⟩ : ByteArray)⟩ : S50)] : List (S50))) := ⟨_,rfl⟩
  replace H : ((pack_Row.f k y513).bind fun t516 => ((pack_Back.f k t516).bind fun bt519 => ((pack_First.f k (([2,1,7] : List Int))).bind fun bt526 => (if (strOfNums t516).toList = ([1,2,1,0] : List UInt8) then (if (bt519.1.length : Int) = 2 then (if bt519.2 = 0 then (if (bt526.1 == 1 && (bt526.2.1 && (bt526.2.2.1 == 0 && (bt526.2.2.2.1.toList == ([] : List UInt8))))) = true then (if bt526.2.2.2.2.1 = 2 then (some (bt526.2.2.2.2.2 == 0)) else (none)) else (none)) else (none)) else (none)) else (none))))) = some r := by first | (rw [hy513];with_reducible exact H) | (have H2_ := (Option.bind_some _ _).symm.trans H;rw [hy513];with_reducible exact H2_) | (have H2_ := (Option.bind_some _ _).symm.trans H;with_reducible exact H2_) | with_reducible exact H | (rw [hy513];exact H) | exact H
  have Ny513 := Aside0.mk hy513
  clear hy513
  replace H := Option.bind_eq_some_iff.mp H
  obtain ⟨t516,A10,H⟩ := H
  replace H : ((pack_Back.f k t516).bind fun bt519 => ((pack_First.f k (([2,1,7] : List Int))).bind fun bt526 => (if (strOfNums t516).toList = ([1,2,1,0] : List UInt8) then (if (bt519.1.length : Int) = 2 then (if bt519.2 = 0 then (if (bt526.1 == 1 && (bt526.2.1 && (bt526.2.2.1 == 0 && (bt526.2.2.2.1.toList == ([] : List UInt8))))) = true then (if bt526.2.2.2.2.1 = 2 then (some (bt526.2.2.2.2.2 == 0)) else (none)) else (none)) else (none)) else (none)) else (none)))) = some r := H
  have A1 := Aside0.mk A10
  clear A10
  replace H := Option.bind_eq_some_iff.mp H
  obtain ⟨⟨t519,t522⟩,A20,H⟩ := H
  replace H : ((pack_First.f k (([2,1,7] : List Int))).bind fun bt526 => (if (strOfNums t516).toList = ([1,2,1,0] : List UInt8) then (if (t519.length : Int) = 2 then (if t522 = 0 then (if (bt526.1 == 1 && (bt526.2.1 && (bt526.2.2.1 == 0 && (bt526.2.2.2.1.toList == ([] : List UInt8))))) = true then (if bt526.2.2.2.2.1 = 2 then (some (bt526.2.2.2.2.2 == 0)) else (none)) else (none)) else (none)) else (none)) else (none))) = some r := H
  have A2 := Aside0.mk A20
  clear A20
  obtain ⟨y523,hy523⟩ : ∃ y_ : List Int,y_ = (([2,1,7] : List Int)) := ⟨_,rfl⟩
  replace H : ((pack_First.f k y523).bind fun bt526 => (if (strOfNums t516).toList = ([1,2,1,0] : List UInt8) then (if (t519.length : Int) = 2 then (if t522 = 0 then (if (bt526.1 == 1 && (bt526.2.1 && (bt526.2.2.1 == 0 && (bt526.2.2.2.1.toList == ([] : List UInt8))))) = true then (if bt526.2.2.2.2.1 = 2 then (some (bt526.2.2.2.2.2 == 0)) else (none)) else (none)) else (none)) else (none)) else (none))) = some r := by first | (rw [hy523];with_reducible exact H) | (have H2_ := (Option.bind_some _ _).symm.trans H;rw [hy523];with_reducible exact H2_) | (have H2_ := (Option.bind_some _ _).symm.trans H;with_reducible exact H2_) | with_reducible exact H | (rw [hy523];exact H) | exact H
  have Ny523 := Aside0.mk hy523
  clear hy523
  replace H := Option.bind_eq_some_iff.mp H
  obtain ⟨⟨t526,t527,t528,t529,t530,t531⟩,A30,H⟩ := H
  replace H : (if (strOfNums t516).toList = ([1,2,1,0] : List UInt8) then (if (t519.length : Int) = 2 then (if t522 = 0 then (if (t526 == 1 && (t527 && (t528 == 0 && (t529.toList == ([] : List UInt8))))) = true then (if t530 = 2 then (some (t531 == 0)) else (none)) else (none)) else (none)) else (none)) else (none)) = some r := H
  have A3 := Aside0.mk A30
  clear A30
  by_cases c4 : (strOfNums t516).toList = ([1,2,1,0] : List UInt8)
  · rw [if_pos c4] at H
    have c4b0 : ((strOfNums t516).toList == ([1,2,1,0] : List UInt8)) = true := beq_iff_eq.mpr c4
    have c4b1 : ((strOfNums t516).toList != ([1,2,1,0] : List UInt8)) = false := bne_eq_false_iff_eq.mpr c4
    clear c4
    by_cases c5 : (t519.length : Int) = 2
    · rw [if_pos c5] at H
      have c5b0 : ((t519.length : Int) == 2) = true := beq_iff_eq.mpr c5
      have c5b1 : ((t519.length : Int) != 2) = false := bne_eq_false_iff_eq.mpr c5
      clear c5
      by_cases c6 : t522 = 0
      · rw [if_pos c6] at H
        have c6b0 : (t522 == 0) = true := beq_iff_eq.mpr c6
        have c6b1 : (t522 != 0) = false := bne_eq_false_iff_eq.mpr c6
        clear c6
        by_cases c7 : (t526 == 1 && (t527 && (t528 == 0 && (t529.toList == ([] : List UInt8))))) = true
        · rw [if_pos c7] at H
          have c7b0 : (t526 == 1 && (t527 && (t528 == 0 && (t529.toList == ([] : List UInt8))))) = true := c7
          have c7b9 : (t526 == 1 && (t527 && (t528 == 0 && (t529.toList.isEmpty)))) = true := by rw [show t529.toList.isEmpty = (t529.toList == ([] : List UInt8)) from by cases t529.toList <;> rfl];exact c7b0
          (try (have c7b1 : decide (t526 = 1 && (t527 && (t528 == 0 && (t529.toList == ([] : List UInt8))))) = true := by simpa using c7))
          (try (have c7b2 : (t526 == 1 && (t527 && (t528 == 0 && (t529.toList == ([] : List UInt8))))) = true := by simpa using c7))
          clear c7
          by_cases c8 : t530 = 2
          · rw [if_pos c8] at H
            have c8b0 : (t530 == 2) = true := beq_iff_eq.mpr c8
            have c8b1 : (t530 != 2) = false := bne_eq_false_iff_eq.mpr c8
            clear c8
            obtain rfl := Option.some.inj H
            go_enter Try.func32,Try.ntmps32
            go_wp2_with (first | ((with_reducible refine gate_dst (N := 9) rfl ?_);(try (refine gate_guard (by rfl) ?_;dsimp only));refine Kd.R_lit k50 _ 50 ?hg (N := 9) ?hd (xs := ([(⟨0,false,0,(⟨#[]⟩ : ByteArray)⟩ : S50),(⟨1,true,0,(⟨#[]⟩ : ByteArray)⟩ : S50)] : List (S50))) (inner := [.int .i64 0,.bool false,.int .i64 0,.string (⟨#[]⟩ : ByteArray),.int .i64 1,.bool true,.int .i64 0,.string (⟨#[]⟩ : ByteArray)]) (ok := fun _ => True) (okp := fun _ => True) ?hr ?hp (fun _ hk => hk) trivial (Below.refl _ _) (Nat.le_refl _) (by simp) ?_;(case hd => rfl);(case hg => rfl);(case hr => first | (go_simp;done) | (go_simp;rfl));(case hp => exact (Reps.c4 (show Kd.M k50 _ _ _ (⟨0,false,0,(⟨#[]⟩ : ByteArray)⟩ : S50) [.int .i64 0,.bool false,.int .i64 0,.string (⟨#[]⟩ : ByteArray)] from (k50_mkM _ _ _ (⟨0,false,0,(⟨#[]⟩ : ByteArray)⟩ : S50) )) (Reps.c4 (show Kd.M k50 _ _ _ (⟨1,true,0,(⟨#[]⟩ : ByteArray)⟩ : S50) [.int .i64 1,.bool true,.int .i64 0,.string (⟨#[]⟩ : ByteArray)] from (k50_mkM _ _ _ (⟨1,true,0,(⟨#[]⟩ : ByteArray)⟩ : S50) )) (Reps.none _ _))));intro v514 w9 ho10 hb hg_ hnew_;clear hg_ hnew_;(first | rw [← Ny513.out] at ho10 | (simp only [Int.reduceToNat] at ho10;rw [← Ny513.out] at ho10));have n0_ := Aside0.mk (Kd.R_lower ho10 (below_size (by repeat (first | (with_reducible first | exact HB.out | apply below_alloc | apply pw_below_drewN | apply below_drew1) | exact HB.out))));have n1_ := Aside0.mk (below_step (by repeat (first | (with_reducible first | exact HB.out | apply below_alloc | apply pw_below_drewN | apply below_drew1) | exact HB.out)) hb);clear HB;have HO515 := n0_;have HB := n1_;clear n0_ n1_;clear hb ho10;obtain ⟨Ao11,co11,eo11⟩ := Kd.R_slice HO515.out;subst eo11) | ((with_reducible refine gate_callee (f := 35) rfl ?_);refine goesL_ (some 10) rfl rfl Try.func35 (by kernel_rfl) rfl #[.slice Ao11 y513.length co11] rfl (by (try simp only [List.map_toArray,List.map_cons,List.map_nil]);first | done | rfl | (simp only [List.length_drop,List.length_take];rfl)) ?_;(with_reducible refine (pack_Row.calls k _ _ y513 t516 _ ?side1 ?side2 A1.out).mono ?_);(case side1 => repeat (first | exact (Kd.R_reads' HO515.out).2.2 | (with_reducible refine Kd.C_alloc ?_ _) | (with_reducible refine Kd.C_drewN ?_ _) | (with_reducible refine Kd.C_drew ?_)));(case side2 => exact (Kd.R_reads' HO515.out).2.1);rintro e w12 ⟨v517,rfl,ho0,hb⟩;refine ⟨_,rfl,?_⟩;have n0_ := Aside0.mk (Kd.R_below (by (with_reducible repeat (first | apply Kd.R_alloc | apply Kd.R_drewN | apply Kd.R_drew));exact HO515.out) hb);have n1_ := Aside0.mk (Kd.R_lower ho0 (below_size (by repeat (first | (with_reducible first | exact HB.out | apply below_alloc | apply pw_below_drewN | apply below_drew1) | exact HB.out))));have n2_ := Aside0.mk (below_step (by repeat (first | (with_reducible first | exact HB.out | apply below_alloc | apply pw_below_drewN | apply below_drew1) | exact HB.out)) hb);clear HO515;clear HB;have HO515 := n0_;have HO518 := n1_;have HB := n2_;clear n0_ n1_ n2_;(try clear hb);(try clear hb2);(try clear hk);(try clear hi);(try clear ho0);obtain ⟨Ao13,co13,eo13⟩ := Kd.R_slice HO518.out;subst eo13) | ((with_reducible refine gate_callee (f := 39) rfl ?_);refine goesL_ (some 13) rfl rfl Try.func39 (by kernel_rfl) rfl #[.slice Ao13 t516.length co13] rfl (by (try simp only [List.map_toArray,List.map_cons,List.map_nil]);first | done | rfl | (simp only [List.length_drop,List.length_take];rfl)) ?_;(with_reducible refine (pack_Back.calls k (fun k_ => some k_ = (.slice Ao13 t516.length co13 : Value).ownBlock) _ _ t516 t519 t522 _ ?side1 A2.out).mono ?_);(case side1 => exact Kd.R_V (Kd.R_tight rfl (Kd.R_apart' (HO518.out) (Kd.R_typed HO515.out) (by decide))));rintro e w14 ⟨v520,rfl,ho0,hb⟩;refine ⟨_,rfl,?_⟩;have n0_ := Aside0.mk (Kd.R_elder' (by (with_reducible repeat (first | apply Kd.R_alloc | apply Kd.R_drewN | apply Kd.R_drew));exact HO515.out) (Kd.R_base ho0) hb);have n1_ := Aside0.mk (Kd.R_below (by (with_reducible repeat (first | apply Kd.R_alloc | apply Kd.R_drewN | apply Kd.R_drew));exact HO518.out) hb);have n2_ := Aside0.mk (Kd.R_lower (Kd.R_new' (Kd.R_mono (ok' := fun k_ => True) ho0 (fun _ hk_ => trivial)) (Kd.R_lt (by (with_reducible repeat (first | apply Kd.R_alloc | apply Kd.R_drewN | apply Kd.R_drew));exact HO515.out))) (below_size (by repeat (first | (with_reducible first | exact HB.out | apply below_alloc | apply pw_below_drewN | apply below_drew1) | exact HB.out))));have n3_ := Aside0.mk (below_step (by repeat (first | (with_reducible first | exact HB.out | apply below_alloc | apply pw_below_drewN | apply below_drew1) | exact HB.out)) hb);clear HO515;clear HO518;clear HB;have HO515 := n0_;have HO518 := n1_;have HO521 := n2_;have HB := n3_;clear n0_ n1_ n2_ n3_;(try clear hb);(try clear hb2);(try clear hk);(try clear hi);(try clear ho0)) | ((with_reducible refine gate_dst (N := 17) rfl ?_);(try (refine gate_guard (by rfl) ?_;dsimp only));refine Kd.R_lit (Kd.int .u8) _ 5 ?hg (N := 17) ?hd (xs := ([2,1,7] : List Int)) (inner := [.int .u8 2,.int .u8 1,.int .u8 7]) (ok := fun _ => True) (okp := fun _ => True) ?hr ?hp (fun _ hk => hk) trivial (Below.refl _ _) (Nat.le_refl _) (by simp) ?_;(case hd => rfl);(case hg => rfl);(case hr => first | (go_simp;done) | (go_simp;rfl));(case hp => exact (Reps.one (show Kd.M (Kd.int .u8) _ _ _ 2 [.int .u8 2] from rfl) (Reps.one (show Kd.M (Kd.int .u8) _ _ _ 1 [.int .u8 1] from rfl) (Reps.one (show Kd.M (Kd.int .u8) _ _ _ 7 [.int .u8 7] from rfl) (Reps.none _ _)))));intro v524 w15 ho16 hb hg_ hnew_;clear hg_ hnew_;(first | rw [← Ny523.out] at ho16 | (simp only [Int.reduceToNat] at ho16;rw [← Ny523.out] at ho16));have n0_ := Aside0.mk (Kd.R_below (by (with_reducible repeat (first | apply Kd.R_alloc | apply Kd.R_drewN | apply Kd.R_drew));exact HO515.out) hb);have n1_ := Aside0.mk (Kd.R_elder' (by (with_reducible repeat (first | apply Kd.R_alloc | apply Kd.R_drewN | apply Kd.R_drew));exact HO518.out) (Kd.R_base ho16) hb);have n2_ := Aside0.mk (Kd.R_below (by (with_reducible repeat (first | apply Kd.R_alloc | apply Kd.R_drewN | apply Kd.R_drew));exact HO521.out) hb);have n3_ := Aside0.mk (Kd.R_lower (Kd.R_new' ho16 (Kd.R_lt (by (with_reducible repeat (first | apply Kd.R_alloc | apply Kd.R_drewN | apply Kd.R_drew));exact HO518.out))) (below_size (by repeat (first | (with_reducible first | exact HB.out | apply below_alloc | apply pw_below_drewN | apply below_drew1) | exact HB.out))));have n4_ := Aside0.mk (below_step (by repeat (first | (with_reducible first | exact HB.out | apply below_alloc | apply pw_below_drewN | apply below_drew1) | exact HB.out)) hb);clear HO515;clear HO518;clear HO521;clear HB;have HO515 := n0_;have HO518 := n1_;have HO521 := n2_;have HO525 := n3_;have HB := n4_;clear n0_ n1_ n2_ n3_ n4_;clear hb ho16;obtain ⟨Ao17,co17,eo17⟩ := Kd.R_slice HO525.out;subst eo17) | ((with_reducible refine gate_callee (f := 37) rfl ?_);refine goesL_ (some 18) rfl rfl Try.func37 (by kernel_rfl) rfl #[.slice Ao17 y523.length co17] rfl (by (try simp only [List.map_toArray,List.map_cons,List.map_nil]);first | done | rfl | (simp only [List.length_drop,List.length_take];rfl)) ?_;(with_reducible refine (pack_First.calls k _ _ y523 t526 t527 t528 t529 t530 t531 _ ?side1 ?side2 A3.out).mono ?_);(case side1 => repeat (first | exact (Kd.R_reads' HO525.out).2.2 | (with_reducible refine Kd.C_alloc ?_ _) | (with_reducible refine Kd.C_drewN ?_ _) | (with_reducible refine Kd.C_drew ?_)));(case side2 => exact (Kd.R_reads' HO525.out).2.1);rintro e w18 ⟨rfl,hb⟩;refine ⟨_,rfl,?_⟩;have n0_ := Aside0.mk (Kd.R_below (by (with_reducible repeat (first | apply Kd.R_alloc | apply Kd.R_drewN | apply Kd.R_drew));exact HO515.out) hb);have n1_ := Aside0.mk (Kd.R_below (by (with_reducible repeat (first | apply Kd.R_alloc | apply Kd.R_drewN | apply Kd.R_drew));exact HO518.out) hb);have n2_ := Aside0.mk (Kd.R_below (by (with_reducible repeat (first | apply Kd.R_alloc | apply Kd.R_drewN | apply Kd.R_drew));exact HO521.out) hb);have n3_ := Aside0.mk (Kd.R_below (by (with_reducible repeat (first | apply Kd.R_alloc | apply Kd.R_drewN | apply Kd.R_drew));exact HO525.out) hb);have n4_ := Aside0.mk (below_step (by repeat (first | (with_reducible first | exact HB.out | apply below_alloc | apply pw_below_drewN | apply below_drew1) | exact HB.out)) hb);clear HO515;clear HO518;clear HO521;clear HO525;clear HB;have HO515 := n0_;have HO518 := n1_;have HO521 := n2_;have HO525 := n3_;have HB := n4_;clear n0_ n1_ n2_ n3_ n4_;(try clear hb);(try clear hb2);(try clear hk);(try clear hi)) | ((with_reducible refine gate_dst (N := 4) rfl ?_);(try (refine gate_guard (by rfl) ?_;dsimp only));refine box_event ?hg (N := 4) ?hd (cs := #[.int .i64 0,.bool false,.int .i64 0,.string (⟨#[]⟩ : ByteArray)]) (t := 50) ?hr ?_;(case hd => rfl);(case hg => rfl);(case hr => first | (go_simp;done) | (go_simp;rfl));intro gb532 hg w19 hbox hb;have n0_ := Aside0.mk (Kd.R_below (Kd.R_elderB (by (with_reducible repeat (first | apply Kd.R_alloc | apply Kd.R_drewN | apply Kd.R_drew));exact HO515.out) gb532 (Nat.le_of_eq hg.symm)) hb);have n1_ := Aside0.mk (Kd.R_below (by (with_reducible repeat (first | apply Kd.R_alloc | apply Kd.R_drewN | apply Kd.R_drew));exact HO518.out) hb);have n2_ := Aside0.mk (Kd.R_below (Kd.R_elderB (by (with_reducible repeat (first | apply Kd.R_alloc | apply Kd.R_drewN | apply Kd.R_drew));exact HO521.out) gb532 (Nat.le_of_eq hg.symm)) hb);have n3_ := Aside0.mk (Kd.R_below (by (with_reducible repeat (first | apply Kd.R_alloc | apply Kd.R_drewN | apply Kd.R_drew));exact HO525.out) hb);have n4_ := Aside0.mk (below_step (by repeat (first | (with_reducible first | exact HB.out | apply below_alloc | apply pw_below_drewN | apply below_drew1) | exact HB.out)) hb);have n5_ := Aside0.mk (hbox);have n6_ := Aside0.mk ((by rw [hg];exact (below_size (by repeat (first | (with_reducible first | exact HB.out | apply below_alloc | apply pw_below_drewN | apply below_drew1) | exact HB.out))) : w.heap.size ≤ gb532));have n7_ := Aside0.mk ((by rw [hg];exact (below_size (by repeat (first | (with_reducible first | exact HB.out | apply below_alloc | apply pw_below_drewN | apply below_drew1) | exact HB.out))) : w.heap.size ≤ gb532));clear HO515;clear HO518;clear HO521;clear HO525;clear HB;have HO515 := n0_;have HO518 := n1_;have HO521 := n2_;have HO525 := n3_;have HB := n4_;have BK532 := n5_;have GW532 := n6_;have GE532 := n7_;clear n0_ n1_ n2_ n3_ n4_ n5_ n6_ n7_;clear hb hbox hg;have hcz20_0 : w19.cell? ⟨gb532,0,none⟩ = some (.int .i64 0) := (blk_cell BK532.out 0).trans rfl;have hcz20_1 : w19.cell? ⟨gb532,1,none⟩ = some (.bool false) := (blk_cell BK532.out 1).trans rfl;have hcz20_2 : w19.cell? ⟨gb532,2,none⟩ = some (.int .i64 0) := (blk_cell BK532.out 2).trans rfl;have hcz20_3 : w19.cell? ⟨gb532,3,none⟩ = some (.string (⟨#[]⟩ : ByteArray)) := (blk_cell BK532.out 3).trans rfl;have hfz20_0 := blk_frozen BK532.out 0;have hfz20_1 := blk_frozen BK532.out 1;have hfz20_2 := blk_frozen BK532.out 2;have hfz20_3 := blk_frozen BK532.out 3;have hcv21 := own_string (P := Try.prog) Try.underlying47 Try.underlying5 Try.underlying9 (Kd.own_of_R HO518.out);have hcvf_ := fun (u0 u1 u2 u3 : Value) => own_string (P := Try.prog) Try.underlying47 Try.underlying5 Try.underlying9 (Kd.own_of_R (Kd.R_mono (Kd.R_far (p := ⟨gb532,3,none⟩) (Kd.R_far (p := ⟨gb532,2,none⟩) (Kd.R_far (p := ⟨gb532,1,none⟩) (Kd.R_far (p := ⟨gb532,0,none⟩) (Kd.R_types HO518.out BK532.out (by decide)) (fun _ hk => hk.2) u0) (fun _ hk => hk.2) u1) (fun _ hk => hk.2) u2) (fun _ hk => hk.2) u3) (fun _ h_ => h_.1)));obtain ⟨Ao22,co22,eo22⟩ := Kd.R_slice HO521.out;subst eo22))
            go_ret
            exact ⟨by first | rfl | (simp [errW_none,errW_some] <;> rfl) | (simp [*,errW_none,errW_some] <;> rfl),by repeat (first | (with_reducible first | exact HB.out | apply below_alloc | apply pw_below_drewN | apply below_drew1 | refine below_set ?_ GE532.out) | exact HB.out)⟩
          · rw [if_neg c8] at H
            exact absurd H (by simp)
        · rw [if_neg c7] at H
          exact absurd H (by simp)
      · rw [if_neg c6] at H
        exact absurd H (by simp)
    · rw [if_neg c5] at H
      exact absurd H (by simp)
  · rw [if_neg c4] at H
    exact absurd H (by simp)
end Go.Proofs.Ytfoaeigoajooeaa.Z
end
section
namespace Go.Proofs.Ytfoaeigoajooeaa.Z
open Go.RowKit Go.Proofs.YtfoaeigoajooeaaW.PrintWords Go.Proofs.YtfoaeigoajooeaaW.PrintLast Go.Proofs.YtfoaeigoajooeaaW.PrintMore
attribute [local go_sem] max2_int min2_int max_two min_two max_three min_three max_four min_four
set_option linter.unusedVariables false
set_option linter.unusedSimpArgs false
def verdererref04_text.l0 : Nat → List Int → List Int → Int → Int → Bool → Int → ByteArray → Option (Int × Bool × Int × ByteArray × Int × Int)
  | 0,_,_,_,_,_,_,_ => none
  | k + 1,x0,x6,x7,x594000,x594001,x594002,x594003 => if x7 < (x0.length : Int) then (if 0 ≤ x7 then (if (rd x0 x7) = 0 then (if (wrap64 (x7 + 1)) ≥ (x0.length : Int) then (some (x594000,x594001,x594002,x594003,0,8)) else (if 0 ≤ (wrap64 (x7 + 1)) then (if (wrap64 (x7 + 1)) < (x0.length : Int) then (if (rd x0 (wrap64 (x7 + 1))) = 1 then (some (3,false,0,strOfNums x6,wrap64 ((wrap64 (x7 + 1)) + 1),0)) else (if (rd x0 (wrap64 (x7 + 1))) = 255 then (if (x6.length : Int) ≥ 60 then (some (x594000,x594001,x594002,x594003,0,9)) else (if x6.length < 140737488355328 then (verdererref04_text.l0 k x0 (x6 ++ [rd x0 x7]) (wrap64 ((wrap64 (x7 + 1)) + 1)) x594000 x594001 x594002 x594003) else (none))) else (some (x594000,x594001,x594002,x594003,0,7)))) else (none)) else (none))) else (if (x6.length : Int) ≥ 60 then (some (x594000,x594001,x594002,x594003,0,9)) else (if x6.length < 140737488355328 then (verdererref04_text.l0 k x0 (x6 ++ [rd x0 x7]) (wrap64 (x7 + 1)) x594000 x594001 x594002 x594003) else (none)))) else (none)) else (some (x594000,x594001,x594002,x594003,0,8))
def verdererref04_text.f (k : Nat) (l0 : List Int) : Option (Int × Bool × Int × ByteArray × Int × Int) := verdererref04_text.l0 k l0 ([] : List Int) 1 0 false 0 (⟨#[]⟩ : ByteArray)
theorem verdererref04_text.mono_l : ∀ k,(∀ y0 y1 y2 y3 y4 y5 y6,LeO (verdererref04_text.l0 k y0 y1 y2 y3 y4 y5 y6) (verdererref04_text.l0 (k + 1) y0 y1 y2 y3 y4 y5 y6))
  | 0 => fun _ _ _ _ _ _ _ r h => by simp [verdererref04_text.l0] at h
  | k + 1 => by
    have ih0 := verdererref04_text.mono_l k
    · intro y0 y1 y2 y3 y4 y5 y6
      unfold verdererref04_text.l0
      repeat' first
      | (with_reducible exact ih0 _ _ _ _ _ _ _)
      | (with_reducible exact LeO.refl _)
      | (with_reducible exact LeO.none _)
      | (with_reducible refine LeO.ite ?_ ?_)
      | (with_reducible refine LeO.bind ?_ (fun _ => ?_))
      | exact ih0 _ _ _ _ _ _ _
      | exact LeO.none _
      | refine LeO.ite ?_ ?_
      | refine LeO.bind ?_ (fun _ => ?_)
theorem verdererref04_text.mono : ∀ a0 k,LeO (verdererref04_text.f k a0) (verdererref04_text.f (k + 1) a0) := by
  intro a0 k
  have ih0 := verdererref04_text.mono_l k
  unfold verdererref04_text.f
  repeat' first
      | (with_reducible exact ih0 _ _ _ _ _ _ _)
      | (with_reducible exact LeO.refl _)
      | (with_reducible exact LeO.none _)
      | (with_reducible refine LeO.ite ?_ ?_)
      | (with_reducible refine LeO.bind ?_ (fun _ => ?_))
      | exact ih0 _ _ _ _ _ _ _
      | exact LeO.none _
      | refine LeO.ite ?_ ?_
      | refine LeO.bind ?_ (fun _ => ?_)
set_option maxHeartbeats 8000000 in
set_option maxRecDepth 100000 in
theorem verdererref04_text.calls (k : Nat) (A0 : Option Addr) (c0 : Nat) (l0 : List Int) (r1 : Int) (r2 : Bool) (r3 : Int) (r4 : ByteArray) (r5 : Int) (r6 : Int) (w : World) (hr0 : Kd.C (Kd.int .u8) w A0 l0.length l0) (hc0 : l0.length ≤ c0) (h : verdererref04_text.f k l0 = some (r1,r2,r3,r4,r5,r6)) :
    Calls Try.prog 62 #[.slice A0 l0.length c0] w fun e w' => e = .returned (.tuple #[.agg #[.int .i64 r1,.bool r2,.int .i64 r3,.string r4],.int .i64 r5,.int .i64 r6]) ∧ Below w.heap.size w w' := by
  have hu50 := Try.underlying50
  have HR0 := Aside0.mk hr0
  have HC0 := Aside0.mk hc0
  clear hr0 hc0
  have HB := Aside0.mk (Below.refl w.heap.size w)
  have H : (verdererref04_text.l0 k l0 ([] : List Int) 1 0 false 0 (⟨#[]⟩ : ByteArray)) = some (r1,r2,r3,r4,r5,r6) := h
  clear h
  have H' := Aside0.mk H
  clear H
  go_enter Try.func62,Try.ntmps62
  go_wp2_with (first | ((with_reducible refine gate_dst (N := 2) rfl ?_);refine box_event ?hg (N := 2) ?hd (cs := #[.int .i64 0,.bool false,.int .i64 0,.string (⟨#[]⟩ : ByteArray)]) (t := 50) ?hr ?_;(case hd => rfl);(case hg => rfl);(case hr => first | (go_simp;done) | (go_simp;rfl));intro gb592 hg w2 hbox hb;have n0_ := Aside0.mk (below_step (by repeat (first | (with_reducible first | exact HB.out | apply below_alloc | apply pw_below_drewN | apply below_drew1) | exact HB.out)) hb);have n1_ := Aside0.mk (hbox);have n2_ := Aside0.mk ((by rw [hg];exact (below_size (by repeat (first | (with_reducible first | exact HB.out | apply below_alloc | apply pw_below_drewN | apply below_drew1) | exact HB.out))) : w.heap.size ≤ gb592));have n3_ := Aside0.mk ((by rw [hg];exact (below_size (by repeat (first | (with_reducible first | exact HB.out | apply below_alloc | apply pw_below_drewN | apply below_drew1) | exact HB.out))) : w.heap.size ≤ gb592));clear HB;have HB := n0_;have BK592 := n1_;have GW592 := n2_;have GE592 := n3_;clear n0_ n1_ n2_ n3_;clear hb hbox hg) | ((with_reducible refine gate_dst (N := 5) rfl ?_);refine box_event ?hg (N := 5) ?hd (cs := #[.int .i64 0,.bool false,.int .i64 0,.string (⟨#[]⟩ : ByteArray)]) (t := 50) ?hr ?_;(case hd => rfl);(case hg => rfl);(case hr => first | (go_simp;done) | (go_simp;rfl));intro gb593 hg w3 hbox hb;have n0_ := Aside0.mk (blk_below (g := gb592) (o := .cells #[.int .i64 0,.bool false,.int .i64 0,.string (⟨#[]⟩ : ByteArray)] 50 (0,0)) (by (with_reducible repeat (first | refine blk_drewN ?_ _ | refine blk_drew ?_ | refine blk_alloc ?_ _));exact BK592.out) hb);have n1_ := Aside0.mk (below_step (by repeat (first | (with_reducible first | exact HB.out | apply below_alloc | apply pw_below_drewN | apply below_drew1 | refine below_set ?_ GE592.out) | exact HB.out)) hb);have n2_ := Aside0.mk (hbox);have n3_ := Aside0.mk ((by rw [hg];exact (below_size (by repeat (first | (with_reducible first | exact HB.out | apply below_alloc | apply pw_below_drewN | apply below_drew1 | refine below_set ?_ GE592.out) | exact HB.out))) : w.heap.size ≤ gb593));have n4_ := Aside0.mk ((by rw [hg];exact (below_size (by repeat (first | (with_reducible first | exact HB.out | apply below_alloc | apply pw_below_drewN | apply below_drew1 | refine below_set ?_ GE592.out) | exact HB.out))) : w.heap.size ≤ gb593));have n5_ := Aside0.mk ((by rw [hg];exact Nat.ne_of_lt (blk_lt (g := gb592) (o := .cells #[.int .i64 0,.bool false,.int .i64 0,.string (⟨#[]⟩ : ByteArray)] 50 (0,0)) (by (with_reducible repeat (first | refine blk_drewN ?_ _ | refine blk_drew ?_ | refine blk_alloc ?_ _));exact BK592.out)) : gb592 ≠ gb593));have n6_ := Aside0.mk ((by rw [hg];exact Nat.ne_of_gt (blk_lt (g := gb592) (o := .cells #[.int .i64 0,.bool false,.int .i64 0,.string (⟨#[]⟩ : ByteArray)] 50 (0,0)) (by (with_reducible repeat (first | refine blk_drewN ?_ _ | refine blk_drew ?_ | refine blk_alloc ?_ _));exact BK592.out)) : gb593 ≠ gb592));clear BK592;clear HB;have BK592 := n0_;have HB := n1_;have BK593 := n2_;have GW593 := n3_;have GE593 := n4_;have NB592_593 := n5_;have NB593_592 := n6_;clear n0_ n1_ n2_ n3_ n4_ n5_ n6_;clear hb hbox hg;have hnb4 := NB593_592.out;have hnc4 := NB592_593.out;have hcz5_0 : w3.cell? ⟨gb593,0,none⟩ = some (.int .i64 0) := (blk_cell BK593.out 0).trans rfl;have hcz5_1 : w3.cell? ⟨gb593,1,none⟩ = some (.bool false) := (blk_cell BK593.out 1).trans rfl;have hcz5_2 : w3.cell? ⟨gb593,2,none⟩ = some (.int .i64 0) := (blk_cell BK593.out 2).trans rfl;have hcz5_3 : w3.cell? ⟨gb593,3,none⟩ = some (.string (⟨#[]⟩ : ByteArray)) := (blk_cell BK593.out 3).trans rfl;have hfz5_0 := blk_frozen BK593.out 0;have hfz5_1 := blk_frozen BK593.out 1;have hfz5_2 := blk_frozen BK593.out 2;have hfz5_3 := blk_frozen BK593.out 3))
  go_loopg [6,7] k (fun kq v6 v7 w' => ∃ (x6_1 : List Int) (x7_1 : Int) (x593000_1 : Int) (x593001_1 : Bool) (x593002_1 : Int) (x593003_1 : ByteArray),v7 = .int .i64 x7_1 ∧ Aside0 (verdererref04_text.l0 kq l0 x6_1 x7_1 0 false 0 (⟨#[]⟩ : ByteArray) = some (r1,r2,r3,r4,r5,r6)) ∧ Aside0 (kq ≤ k) ∧ Aside0 (Kd.R (Kd.int .u8) 5 w' w.heap.size (fun _ => True) v6 x6_1) ∧ Aside0 (w'.heap[gb592]? = some (.cells #[.int .i64 x593000_1,.bool x593001_1,.int .i64 x593002_1,.string x593003_1] 50 (0,0))) ∧ Aside0 (w'.heap[gb593]? = some (.cells #[.int .i64 0,.bool false,.int .i64 0,.string (⟨#[]⟩ : ByteArray)] 50 (0,0))) ∧ Aside0 (Below w.heap.size w w'))
  case atStart => exact ⟨(([] : List Int)),(1),(0),(false),(0),((⟨#[]⟩ : ByteArray)),(by first | rfl | (simp;done) | (simp [*];done)),H',⟨Nat.le_refl _⟩,⟨by first | exact Kd.R_nil _ _ _ _ _ | exact Kd.N_nil _ _ _ _ _ | exact Kd.V_nil _ _ _ _ _ | exact Kd.Q_nil _ _ _ _ _ | exact Kd.S_nil _ _ _ _ _⟩,⟨by (with_reducible repeat (first | refine blk_drewN ?_ _ | refine blk_drew ?_ | refine blk_alloc ?_ _));refine blk_far ?_ NB592_593.out _;(with_reducible repeat (first | refine blk_drewN ?_ _ | refine blk_drew ?_ | refine blk_alloc ?_ _));refine blk_far ?_ NB592_593.out _;(with_reducible repeat (first | refine blk_drewN ?_ _ | refine blk_drew ?_ | refine blk_alloc ?_ _));refine blk_far ?_ NB592_593.out _;(with_reducible repeat (first | refine blk_drewN ?_ _ | refine blk_drew ?_ | refine blk_alloc ?_ _));refine blk_far ?_ NB592_593.out _;(with_reducible repeat (first | refine blk_drewN ?_ _ | refine blk_drew ?_ | refine blk_alloc ?_ _));exact BK592.out⟩,⟨by (with_reducible repeat (first | refine blk_drewN ?_ _ | refine blk_drew ?_ | refine blk_alloc ?_ _));refine blk_put (cs := #[.int .i64 0,.bool false,.int .i64 0,.string (⟨#[]⟩ : ByteArray)]) ?_ 3 _ rfl;(with_reducible repeat (first | refine blk_drewN ?_ _ | refine blk_drew ?_ | refine blk_alloc ?_ _));refine blk_put (cs := #[.int .i64 0,.bool false,.int .i64 0,.string (⟨#[]⟩ : ByteArray)]) ?_ 2 _ rfl;(with_reducible repeat (first | refine blk_drewN ?_ _ | refine blk_drew ?_ | refine blk_alloc ?_ _));refine blk_put (cs := #[.int .i64 0,.bool false,.int .i64 0,.string (⟨#[]⟩ : ByteArray)]) ?_ 1 _ rfl;(with_reducible repeat (first | refine blk_drewN ?_ _ | refine blk_drew ?_ | refine blk_alloc ?_ _));refine blk_put (cs := #[.int .i64 0,.bool false,.int .i64 0,.string (⟨#[]⟩ : ByteArray)]) ?_ 0 _ rfl;(with_reducible repeat (first | refine blk_drewN ?_ _ | refine blk_drew ?_ | refine blk_alloc ?_ _));exact BK593.out⟩,⟨by repeat (first | (with_reducible first | exact HB.out | apply below_alloc | apply pw_below_drewN | apply below_drew1 | refine below_set ?_ GE592.out | refine below_set ?_ GE593.out) | exact HB.out)⟩⟩
  case round =>
    clear H'
    try clear p2
    try clear c4
    try clear hcz5_0
    try clear hcz5_1
    try clear hcz5_2
    try clear hcz5_3
    try clear hfz5_0
    try clear hfz5_1
    try clear hfz5_2
    try clear hfz5_3
    obtain ⟨x6_1,x7_1,x593000_1,x593001_1,x593002_1,x593003_1,rfl,HA,HK1,HO_6,BK592,BK593,HB⟩ := hrel
    cases gk with
    | zero => exact absurd HA.out (by simp [verdererref04_text.l0])
    | succ k1 =>
      have H := HA.out
      clear HA
      simp only [verdererref04_text.l0] at H
      by_cases c6 : x7_1 < (l0.length : Int)
      · rw [if_pos c6] at H
        have c6b0 : decide (x7_1 < (l0.length : Int)) = true := decide_eq_true c6
        clear c6
        by_cases c7 : 0 ≤ x7_1
        · rw [if_pos c7] at H
          have c7b0 : decide (0 ≤ x7_1) = true := decide_eq_true c7
          clear c7
          by_cases c8 : (rd l0 x7_1) = 0
          · rw [if_pos c8] at H
            have c8b0 : ((rd l0 x7_1) == 0) = true := beq_iff_eq.mpr c8
            have c8b1 : ((rd l0 x7_1) != 0) = false := bne_eq_false_iff_eq.mpr c8
            clear c8
            by_cases c9 : (wrap64 (x7_1 + 1)) ≥ (l0.length : Int)
            · rw [if_pos c9] at H
              have c9b0 : decide ((l0.length : Int) ≤ (wrap64 (x7_1 + 1))) = true := decide_eq_true c9
              clear c9
              simp only [Option.some.injEq,Prod.mk.injEq] at H
              obtain ⟨rfl,rfl,rfl,rfl,rfl,rfl⟩ := H
              have p594 : 0 ≤ (x7_1 : Int) := of_decide_eq_true (by first | (with_reducible assumption) | assumption)
              have q594 : x7_1 < (l0.length : Int) := of_decide_eq_true (by first | (with_reducible assumption) | assumption)
              obtain ⟨ad594,e594,hx594_0⟩ := Kd.at_int HR0.out x7_1 p594 q594
              cases e594
              replace hx594_0 := (HB.out.cell (World.block_lt_of_cell? w _ hx594_0)).trans hx594_0
              replace p594 := eq_true p594
              replace q594 := eq_true q594
              have hnb10 := NB593_592.out
              have hnc10 := NB592_593.out
              have hcz11_0 : wr.cell? ⟨gb593,0,none⟩ = some (.int .i64 0) := (blk_cell BK593.out 0).trans rfl
              have hcz11_1 : wr.cell? ⟨gb593,1,none⟩ = some (.bool false) := (blk_cell BK593.out 1).trans rfl
              have hcz11_2 : wr.cell? ⟨gb593,2,none⟩ = some (.int .i64 0) := (blk_cell BK593.out 2).trans rfl
              have hcz11_3 : wr.cell? ⟨gb593,3,none⟩ = some (.string (⟨#[]⟩ : ByteArray)) := (blk_cell BK593.out 3).trans rfl
              have hfz11_0 := blk_frozen BK593.out 0
              have hfz11_1 := blk_frozen BK593.out 1
              have hfz11_2 := blk_frozen BK593.out 2
              have hfz11_3 := blk_frozen BK593.out 3
              have hcz12_0 : wr.cell? ⟨gb592,0,none⟩ = some (.int .i64 x593000_1) := (blk_cell BK592.out 0).trans rfl
              have hcz12_1 : wr.cell? ⟨gb592,1,none⟩ = some (.bool x593001_1) := (blk_cell BK592.out 1).trans rfl
              have hcz12_2 : wr.cell? ⟨gb592,2,none⟩ = some (.int .i64 x593002_1) := (blk_cell BK592.out 2).trans rfl
              have hcz12_3 : wr.cell? ⟨gb592,3,none⟩ = some (.string x593003_1) := (blk_cell BK592.out 3).trans rfl
              have hfz12_0 := blk_frozen BK592.out 0
              have hfz12_1 := blk_frozen BK592.out 1
              have hfz12_2 := blk_frozen BK592.out 2
              have hfz12_3 := blk_frozen BK592.out 3
              go_wp2
              refine bodyPost_ret (results_ctt rfl _ _ gb592 50 #[.int .i64 0,.bool false,.int .i64 0,.string (⟨#[]⟩ : ByteArray)] (0,0) _ rfl (by (with_reducible repeat (first | refine blk_drewN ?_ _ | refine blk_drew ?_ | refine blk_alloc ?_ _));refine blk_put (cs := #[.int .i64 0,.bool false,.int .i64 0,.string x593003_1]) ?_ 3 _ rfl;(with_reducible repeat (first | refine blk_drewN ?_ _ | refine blk_drew ?_ | refine blk_alloc ?_ _));refine blk_put (cs := #[.int .i64 0,.bool false,.int .i64 x593002_1,.string x593003_1]) ?_ 2 _ rfl;(with_reducible repeat (first | refine blk_drewN ?_ _ | refine blk_drew ?_ | refine blk_alloc ?_ _));refine blk_put (cs := #[.int .i64 0,.bool x593001_1,.int .i64 x593002_1,.string x593003_1]) ?_ 1 _ rfl;(with_reducible repeat (first | refine blk_drewN ?_ _ | refine blk_drew ?_ | refine blk_alloc ?_ _));refine blk_put (cs := #[.int .i64 x593000_1,.bool x593001_1,.int .i64 x593002_1,.string x593003_1]) ?_ 0 _ rfl;(with_reducible repeat (first | refine blk_drewN ?_ _ | refine blk_drew ?_ | refine blk_alloc ?_ _));exact BK592.out) Try.underlying50 rfl (by kernel_rfl)) rfl ?_
              exact ⟨by first | rfl | (simp [errW_none,errW_some] <;> rfl) | (simp [*,errW_none,errW_some] <;> rfl),by repeat (first | (with_reducible first | exact HB.out | apply below_alloc | apply pw_below_drewN | apply below_drew1 | refine below_set ?_ GE592.out | refine below_set ?_ GE593.out) | exact HB.out)⟩
            · rw [if_neg c9] at H
              have c9b0 : decide ((l0.length : Int) ≤ (wrap64 (x7_1 + 1))) = false := decide_eq_false c9
              clear c9
              obtain ⟨ji13,hji13⟩ : ∃ j_ : Int,(wrap64 (x7_1 + 1)) = j_ := ⟨_,rfl⟩
              replace H : (if 0 ≤ (ji13) then (if (ji13) < (l0.length : Int) then (if (rd l0 (ji13)) = 1 then (some (3,false,0,strOfNums x6_1,wrap64 ((ji13) + 1),0)) else (if (rd l0 (ji13)) = 255 then (if (x6_1.length : Int) ≥ 60 then (some (0,false,0,(⟨#[]⟩ : ByteArray),0,9)) else (if x6_1.length < 140737488355328 then (verdererref04_text.l0 k1 l0 (x6_1 ++ [rd l0 x7_1]) (wrap64 ((ji13) + 1)) 0 false 0 (⟨#[]⟩ : ByteArray)) else (none))) else (some (0,false,0,(⟨#[]⟩ : ByteArray),0,7)))) else (none)) else (none)) = some (r1,r2,r3,r4,r5,r6) := by first | (rw [hji13] at H;exact H) | (simp only [hji13] at H ⊢;exact H)
              (try rw [hji13] at c9b0)
              have hji13w : (IntKind.i64.wrap (x7_1 + 1)) = ji13 := (i64_w _).trans hji13
              by_cases c14 : 0 ≤ (ji13)
              · rw [if_pos c14] at H
                have c14b0 : decide (0 ≤ (ji13)) = true := decide_eq_true c14
                clear c14
                by_cases c15 : (ji13) < (l0.length : Int)
                · rw [if_pos c15] at H
                  have c15b0 : decide ((ji13) < (l0.length : Int)) = true := decide_eq_true c15
                  clear c15
                  by_cases c16 : (rd l0 (ji13)) = 1
                  · rw [if_pos c16] at H
                    have c16b0 : ((rd l0 (ji13)) == 1) = true := beq_iff_eq.mpr c16
                    have c16b1 : ((rd l0 (ji13)) != 1) = false := bne_eq_false_iff_eq.mpr c16
                    clear c16
                    simp only [Option.some.injEq,Prod.mk.injEq] at H
                    obtain ⟨rfl,rfl,rfl,rfl,rfl,rfl⟩ := H
                    have p594 : 0 ≤ (x7_1 : Int) := of_decide_eq_true (by first | (with_reducible assumption) | assumption)
                    have q594 : x7_1 < (l0.length : Int) := of_decide_eq_true (by first | (with_reducible assumption) | assumption)
                    obtain ⟨ad594,e594,hx594_0⟩ := Kd.at_int HR0.out x7_1 p594 q594
                    cases e594
                    replace hx594_0 := (HB.out.cell (World.block_lt_of_cell? w _ hx594_0)).trans hx594_0
                    replace p594 := eq_true p594
                    replace q594 := eq_true q594
                    have p595 : 0 ≤ ((ji13) : Int) := of_decide_eq_true (by first | (with_reducible assumption) | assumption)
                    have q595 : (ji13) < (l0.length : Int) := of_decide_eq_true (by first | (with_reducible assumption) | assumption)
                    obtain ⟨ad595,e595,hx595_0⟩ := Kd.at_int HR0.out (ji13) p595 q595
                    obtain rfl : ad594 = ad595 := (by injection e595)
                    replace hx595_0 := (HB.out.cell (World.block_lt_of_cell? w _ hx595_0)).trans hx595_0
                    replace p595 := eq_true p595
                    replace q595 := eq_true q595
                    have hcv17 := own_string (P := Try.prog) Try.underlying47 Try.underlying5 Try.underlying9 (Kd.own_of_R HO_6.out)
                    have hnb18 := NB592_593.out
                    have hnc18 := NB593_592.out
                    have hcz19_0 : wr.cell? ⟨gb592,0,none⟩ = some (.int .i64 x593000_1) := (blk_cell BK592.out 0).trans rfl
                    have hcz19_1 : wr.cell? ⟨gb592,1,none⟩ = some (.bool x593001_1) := (blk_cell BK592.out 1).trans rfl
                    have hcz19_2 : wr.cell? ⟨gb592,2,none⟩ = some (.int .i64 x593002_1) := (blk_cell BK592.out 2).trans rfl
                    have hcz19_3 : wr.cell? ⟨gb592,3,none⟩ = some (.string x593003_1) := (blk_cell BK592.out 3).trans rfl
                    have hfz19_0 := blk_frozen BK592.out 0
                    have hfz19_1 := blk_frozen BK592.out 1
                    have hfz19_2 := blk_frozen BK592.out 2
                    have hfz19_3 := blk_frozen BK592.out 3
                    go_wp2
                    refine bodyPost_ret (results_ctt rfl _ _ gb592 50 #[.int .i64 3,.bool false,.int .i64 0,.string (strOfNums x6_1)] (0,0) _ rfl (by (with_reducible repeat (first | refine blk_drewN ?_ _ | refine blk_drew ?_ | refine blk_alloc ?_ _));refine blk_put (cs := #[.int .i64 3,.bool false,.int .i64 0,.string x593003_1]) ?_ 3 _ rfl;(with_reducible repeat (first | refine blk_drewN ?_ _ | refine blk_drew ?_ | refine blk_alloc ?_ _));refine blk_put (cs := #[.int .i64 3,.bool false,.int .i64 x593002_1,.string x593003_1]) ?_ 2 _ rfl;(with_reducible repeat (first | refine blk_drewN ?_ _ | refine blk_drew ?_ | refine blk_alloc ?_ _));refine blk_put (cs := #[.int .i64 3,.bool x593001_1,.int .i64 x593002_1,.string x593003_1]) ?_ 1 _ rfl;(with_reducible repeat (first | refine blk_drewN ?_ _ | refine blk_drew ?_ | refine blk_alloc ?_ _));refine blk_put (cs := #[.int .i64 x593000_1,.bool x593001_1,.int .i64 x593002_1,.string x593003_1]) ?_ 0 _ rfl;(with_reducible repeat (first | refine blk_drewN ?_ _ | refine blk_drew ?_ | refine blk_alloc ?_ _));exact BK592.out) Try.underlying50 rfl (by kernel_rfl)) rfl ?_
                    exact ⟨by first | rfl | (simp [errW_none,errW_some] <;> rfl) | (simp only [← hji13];first | rfl | (simp [errW_none,errW_some] <;> rfl)) | (simp [*,errW_none,errW_some] <;> rfl),by repeat (first | (with_reducible first | exact HB.out | apply below_alloc | apply pw_below_drewN | apply below_drew1 | refine below_set ?_ GE592.out | refine below_set ?_ GE593.out) | exact HB.out)⟩
                  · rw [if_neg c16] at H
                    have c16b0 : ((rd l0 (ji13)) == 1) = false := beq_eq_false_iff_ne.mpr c16
                    have c16b1 : ((rd l0 (ji13)) != 1) = true := bne_iff_ne.mpr c16
                    by_cases c20 : (rd l0 (ji13)) = 255
                    · rw [if_pos c20] at H
                      have c20b0 : ((rd l0 (ji13)) == 255) = true := beq_iff_eq.mpr c20
                      have c20b1 : ((rd l0 (ji13)) != 255) = false := bne_eq_false_iff_eq.mpr c20
                      clear c20
                      by_cases c21 : (x6_1.length : Int) ≥ 60
                      · rw [if_pos c21] at H
                        have c21b0 : decide (60 ≤ (x6_1.length : Int)) = true := decide_eq_true c21
                        have c21b1 : decide (60 ≤ x6_1.length) = true := decide_eq_true (by omega)
                        clear c21
                        simp only [Option.some.injEq,Prod.mk.injEq] at H
                        obtain ⟨rfl,rfl,rfl,rfl,rfl,rfl⟩ := H
                        have p594 : 0 ≤ (x7_1 : Int) := of_decide_eq_true (by first | (with_reducible assumption) | assumption)
                        have q594 : x7_1 < (l0.length : Int) := of_decide_eq_true (by first | (with_reducible assumption) | assumption)
                        obtain ⟨ad594,e594,hx594_0⟩ := Kd.at_int HR0.out x7_1 p594 q594
                        cases e594
                        replace hx594_0 := (HB.out.cell (World.block_lt_of_cell? w _ hx594_0)).trans hx594_0
                        replace p594 := eq_true p594
                        replace q594 := eq_true q594
                        have p595 : 0 ≤ ((ji13) : Int) := of_decide_eq_true (by first | (with_reducible assumption) | assumption)
                        have q595 : (ji13) < (l0.length : Int) := of_decide_eq_true (by first | (with_reducible assumption) | assumption)
                        obtain ⟨ad595,e595,hx595_0⟩ := Kd.at_int HR0.out (ji13) p595 q595
                        obtain rfl : ad594 = ad595 := (by injection e595)
                        replace hx595_0 := (HB.out.cell (World.block_lt_of_cell? w _ hx595_0)).trans hx595_0
                        replace p595 := eq_true p595
                        replace q595 := eq_true q595
                        have p596 : 0 ≤ ((ji13) : Int) := of_decide_eq_true (by first | (with_reducible assumption) | assumption)
                        have q596 : (ji13) < (l0.length : Int) := of_decide_eq_true (by first | (with_reducible assumption) | assumption)
                        obtain ⟨ad596,e596,hx596_0⟩ := Kd.at_int HR0.out (ji13) p596 q596
                        obtain rfl : ad594 = ad596 := (by injection e596)
                        replace hx596_0 := (HB.out.cell (World.block_lt_of_cell? w _ hx596_0)).trans hx596_0
                        replace p596 := eq_true p596
                        replace q596 := eq_true q596
                        obtain ⟨Ao22,co22,eo22⟩ := Kd.R_slice HO_6.out
                        subst eo22
                        have hnb23 := NB593_592.out
                        have hnc23 := NB592_593.out
                        have hcz24_0 : wr.cell? ⟨gb593,0,none⟩ = some (.int .i64 0) := (blk_cell BK593.out 0).trans rfl
                        have hcz24_1 : wr.cell? ⟨gb593,1,none⟩ = some (.bool false) := (blk_cell BK593.out 1).trans rfl
                        have hcz24_2 : wr.cell? ⟨gb593,2,none⟩ = some (.int .i64 0) := (blk_cell BK593.out 2).trans rfl
                        have hcz24_3 : wr.cell? ⟨gb593,3,none⟩ = some (.string (⟨#[]⟩ : ByteArray)) := (blk_cell BK593.out 3).trans rfl
                        have hfz24_0 := blk_frozen BK593.out 0
                        have hfz24_1 := blk_frozen BK593.out 1
                        have hfz24_2 := blk_frozen BK593.out 2
                        have hfz24_3 := blk_frozen BK593.out 3
                        have hcz25_0 : wr.cell? ⟨gb592,0,none⟩ = some (.int .i64 x593000_1) := (blk_cell BK592.out 0).trans rfl
                        have hcz25_1 : wr.cell? ⟨gb592,1,none⟩ = some (.bool x593001_1) := (blk_cell BK592.out 1).trans rfl
                        have hcz25_2 : wr.cell? ⟨gb592,2,none⟩ = some (.int .i64 x593002_1) := (blk_cell BK592.out 2).trans rfl
                        have hcz25_3 : wr.cell? ⟨gb592,3,none⟩ = some (.string x593003_1) := (blk_cell BK592.out 3).trans rfl
                        have hfz25_0 := blk_frozen BK592.out 0
                        have hfz25_1 := blk_frozen BK592.out 1
                        have hfz25_2 := blk_frozen BK592.out 2
                        have hfz25_3 := blk_frozen BK592.out 3
                        go_wp2
                        refine bodyPost_ret (results_ctt rfl _ _ gb592 50 #[.int .i64 0,.bool false,.int .i64 0,.string (⟨#[]⟩ : ByteArray)] (0,0) _ rfl (by (with_reducible repeat (first | refine blk_drewN ?_ _ | refine blk_drew ?_ | refine blk_alloc ?_ _));refine blk_put (cs := #[.int .i64 0,.bool false,.int .i64 0,.string x593003_1]) ?_ 3 _ rfl;(with_reducible repeat (first | refine blk_drewN ?_ _ | refine blk_drew ?_ | refine blk_alloc ?_ _));refine blk_put (cs := #[.int .i64 0,.bool false,.int .i64 x593002_1,.string x593003_1]) ?_ 2 _ rfl;(with_reducible repeat (first | refine blk_drewN ?_ _ | refine blk_drew ?_ | refine blk_alloc ?_ _));refine blk_put (cs := #[.int .i64 0,.bool x593001_1,.int .i64 x593002_1,.string x593003_1]) ?_ 1 _ rfl;(with_reducible repeat (first | refine blk_drewN ?_ _ | refine blk_drew ?_ | refine blk_alloc ?_ _));refine blk_put (cs := #[.int .i64 x593000_1,.bool x593001_1,.int .i64 x593002_1,.string x593003_1]) ?_ 0 _ rfl;(with_reducible repeat (first | refine blk_drewN ?_ _ | refine blk_drew ?_ | refine blk_alloc ?_ _));exact BK592.out) Try.underlying50 rfl (by kernel_rfl)) rfl ?_
                        exact ⟨by first | rfl | (simp [errW_none,errW_some] <;> rfl) | (simp only [← hji13];first | rfl | (simp [errW_none,errW_some] <;> rfl)) | (simp [*,errW_none,errW_some] <;> rfl),by repeat (first | (with_reducible first | exact HB.out | apply below_alloc | apply pw_below_drewN | apply below_drew1 | refine below_set ?_ GE592.out | refine below_set ?_ GE593.out) | exact HB.out)⟩
                      · rw [if_neg c21] at H
                        have c21b0 : decide (60 ≤ (x6_1.length : Int)) = false := decide_eq_false c21
                        have c21b1 : decide (60 ≤ x6_1.length) = false := decide_eq_false (by omega)
                        clear c21
                        by_cases c26 : x6_1.length < 140737488355328
                        · rw [if_pos c26] at H
                          have LMc26 := Aside0.mk c26
                          clear c26
                          obtain ⟨y597,hy597⟩ : ∃ y_ : List Int,y_ = (x6_1 ++ [rd l0 x7_1]) := ⟨_,rfl⟩
                          replace H : (verdererref04_text.l0 k1 l0 y597 (wrap64 ((ji13) + 1)) 0 false 0 (⟨#[]⟩ : ByteArray)) = some (r1,r2,r3,r4,r5,r6) := by first | (rw [hy597];with_reducible exact H) | (have H2_ := (Option.bind_some _ _).symm.trans H;rw [hy597];with_reducible exact H2_) | (have H2_ := (Option.bind_some _ _).symm.trans H;with_reducible exact H2_) | with_reducible exact H | (rw [hy597];exact H) | exact H
                          have Ny597 := Aside0.mk hy597
                          clear hy597
                          have H' := Aside0.mk H
                          clear H
                          have p594 : 0 ≤ (x7_1 : Int) := of_decide_eq_true (by first | (with_reducible assumption) | assumption)
                          have q594 : x7_1 < (l0.length : Int) := of_decide_eq_true (by first | (with_reducible assumption) | assumption)
                          obtain ⟨ad594,e594,hx594_0⟩ := Kd.at_int HR0.out x7_1 p594 q594
                          cases e594
                          replace hx594_0 := (HB.out.cell (World.block_lt_of_cell? w _ hx594_0)).trans hx594_0
                          replace p594 := eq_true p594
                          replace q594 := eq_true q594
                          have p595 : 0 ≤ ((ji13) : Int) := of_decide_eq_true (by first | (with_reducible assumption) | assumption)
                          have q595 : (ji13) < (l0.length : Int) := of_decide_eq_true (by first | (with_reducible assumption) | assumption)
                          obtain ⟨ad595,e595,hx595_0⟩ := Kd.at_int HR0.out (ji13) p595 q595
                          obtain rfl : ad594 = ad595 := (by injection e595)
                          replace hx595_0 := (HB.out.cell (World.block_lt_of_cell? w _ hx595_0)).trans hx595_0
                          replace p595 := eq_true p595
                          replace q595 := eq_true q595
                          have p596 : 0 ≤ ((ji13) : Int) := of_decide_eq_true (by first | (with_reducible assumption) | assumption)
                          have q596 : (ji13) < (l0.length : Int) := of_decide_eq_true (by first | (with_reducible assumption) | assumption)
                          obtain ⟨ad596,e596,hx596_0⟩ := Kd.at_int HR0.out (ji13) p596 q596
                          obtain rfl : ad594 = ad596 := (by injection e596)
                          replace hx596_0 := (HB.out.cell (World.block_lt_of_cell? w _ hx596_0)).trans hx596_0
                          replace p596 := eq_true p596
                          replace q596 := eq_true q596
                          obtain ⟨Ao27,co27,eo27⟩ := Kd.R_slice HO_6.out
                          subst eo27
                          go_wp2_with (first | ((with_reducible refine gate_builtin (b := .append) (xs := #[.tmp 49,.tmp 51]) rfl ?_);at_builtin;refine Kd.R_append (Kd.int .u8) (w0 := w) w.heap.size rfl (.tmp 49) (.tmp 51) 47 5 (.int .u8 0) 1 rfl Try.underlying47 info5 rfl (by decide) (by omega) (.slice Ao27 x6_1.length co27) x6_1 (rd l0 x7_1) [.int .u8 (rd l0 x7_1)] (fun _ => True) (fun _ => False) rfl rfl ?aP (fun _ hk => hk.elim) ?aF ?aO ?aB ?aS ?aL ?_;(case aP => exact rfl);(case aB => exact (by repeat (first | (with_reducible first | exact HB.out | apply below_alloc | apply pw_below_drewN | apply below_drew1 | refine below_set ?_ GE592.out | refine below_set ?_ GE593.out) | exact HB.out)));(case aF => exact (fun _ _ => trivial));(case aO => exact (by (with_reducible repeat (first | apply Kd.R_alloc | apply Kd.R_drewN | apply Kd.R_drew));exact HO_6.out));(case aS => exact (below_size (by repeat (first | (with_reducible first | exact HB.out | apply below_alloc | apply pw_below_drewN | apply below_drew1 | refine below_set ?_ GE592.out | refine below_set ?_ GE593.out) | exact HB.out))));(case aL => have := LMc26.out;omega);intro v598 w28 ho hb hg hat;rw [← Ny597.out] at ho;have n0_ := Aside0.mk (blk_grown (g := gb592) (o := .cells #[.int .i64 x593000_1,.bool x593001_1,.int .i64 x593002_1,.string x593003_1] 50 (0,0)) (by (with_reducible repeat (first | refine blk_drewN ?_ _ | refine blk_drew ?_ | refine blk_alloc ?_ _));exact BK592.out) hg (Kd.R_ne HO_6.out BK592.out (by decide)));have n1_ := Aside0.mk (blk_grown (g := gb593) (o := .cells #[.int .i64 0,.bool false,.int .i64 0,.string (⟨#[]⟩ : ByteArray)] 50 (0,0)) (by (with_reducible repeat (first | refine blk_drewN ?_ _ | refine blk_drew ?_ | refine blk_alloc ?_ _));exact BK593.out) hg (Kd.R_ne HO_6.out BK593.out (by decide)));have n2_ := Aside0.mk (hb);have n3_ := Aside0.mk (ho);clear BK592;clear BK593;clear HB;clear HO_6;have BK592 := n0_;have BK593 := n1_;have HB := n2_;have HO599 := n3_;clear n0_ n1_ n2_ n3_;clear ho hb hg hat))
                          go_roundg k1
                          case measure => have := HK1.out;omega
                          case rel => exact ⟨(y597),(wrap64 ((ji13) + 1)),(x593000_1),(x593001_1),(x593002_1),(x593003_1),(by first | rfl | (simp;done) | (simp only [← hji13] <;> (first | rfl | simp)) | (simp [*];done)),H',⟨by have := HK1.out;omega⟩,⟨by (with_reducible repeat (first | apply Kd.R_alloc | apply Kd.R_drewN | apply Kd.R_drew));exact HO599.out⟩,⟨by (with_reducible repeat (first | refine blk_drewN ?_ _ | refine blk_drew ?_ | refine blk_alloc ?_ _));exact BK592.out⟩,⟨by (with_reducible repeat (first | refine blk_drewN ?_ _ | refine blk_drew ?_ | refine blk_alloc ?_ _));exact BK593.out⟩,⟨by repeat (first | (with_reducible first | exact HB.out | apply below_alloc | apply pw_below_drewN | apply below_drew1 | refine below_set ?_ GE592.out | refine below_set ?_ GE593.out) | exact HB.out)⟩⟩
                        · rw [if_neg c26] at H
                          exact absurd H (by simp)
                    · rw [if_neg c20] at H
                      have c20b0 : ((rd l0 (ji13)) == 255) = false := beq_eq_false_iff_ne.mpr c20
                      have c20b1 : ((rd l0 (ji13)) != 255) = true := bne_iff_ne.mpr c20
                      simp only [Option.some.injEq,Prod.mk.injEq] at H
                      obtain ⟨rfl,rfl,rfl,rfl,rfl,rfl⟩ := H
                      have p594 : 0 ≤ (x7_1 : Int) := of_decide_eq_true (by first | (with_reducible assumption) | assumption)
                      have q594 : x7_1 < (l0.length : Int) := of_decide_eq_true (by first | (with_reducible assumption) | assumption)
                      obtain ⟨ad594,e594,hx594_0⟩ := Kd.at_int HR0.out x7_1 p594 q594
                      cases e594
                      replace hx594_0 := (HB.out.cell (World.block_lt_of_cell? w _ hx594_0)).trans hx594_0
                      replace p594 := eq_true p594
                      replace q594 := eq_true q594
                      have p595 : 0 ≤ ((ji13) : Int) := of_decide_eq_true (by first | (with_reducible assumption) | assumption)
                      have q595 : (ji13) < (l0.length : Int) := of_decide_eq_true (by first | (with_reducible assumption) | assumption)
                      obtain ⟨ad595,e595,hx595_0⟩ := Kd.at_int HR0.out (ji13) p595 q595
                      obtain rfl : ad594 = ad595 := (by injection e595)
                      replace hx595_0 := (HB.out.cell (World.block_lt_of_cell? w _ hx595_0)).trans hx595_0
                      replace p595 := eq_true p595
                      replace q595 := eq_true q595
                      have p596 : 0 ≤ ((ji13) : Int) := of_decide_eq_true (by first | (with_reducible assumption) | assumption)
                      have q596 : (ji13) < (l0.length : Int) := of_decide_eq_true (by first | (with_reducible assumption) | assumption)
                      obtain ⟨ad596,e596,hx596_0⟩ := Kd.at_int HR0.out (ji13) p596 q596
                      obtain rfl : ad594 = ad596 := (by injection e596)
                      replace hx596_0 := (HB.out.cell (World.block_lt_of_cell? w _ hx596_0)).trans hx596_0
                      replace p596 := eq_true p596
                      replace q596 := eq_true q596
                      have hnb29 := NB593_592.out
                      have hnc29 := NB592_593.out
                      have hcz30_0 : wr.cell? ⟨gb593,0,none⟩ = some (.int .i64 0) := (blk_cell BK593.out 0).trans rfl
                      have hcz30_1 : wr.cell? ⟨gb593,1,none⟩ = some (.bool false) := (blk_cell BK593.out 1).trans rfl
                      have hcz30_2 : wr.cell? ⟨gb593,2,none⟩ = some (.int .i64 0) := (blk_cell BK593.out 2).trans rfl
                      have hcz30_3 : wr.cell? ⟨gb593,3,none⟩ = some (.string (⟨#[]⟩ : ByteArray)) := (blk_cell BK593.out 3).trans rfl
                      have hfz30_0 := blk_frozen BK593.out 0
                      have hfz30_1 := blk_frozen BK593.out 1
                      have hfz30_2 := blk_frozen BK593.out 2
                      have hfz30_3 := blk_frozen BK593.out 3
                      have hcz31_0 : wr.cell? ⟨gb592,0,none⟩ = some (.int .i64 x593000_1) := (blk_cell BK592.out 0).trans rfl
                      have hcz31_1 : wr.cell? ⟨gb592,1,none⟩ = some (.bool x593001_1) := (blk_cell BK592.out 1).trans rfl
                      have hcz31_2 : wr.cell? ⟨gb592,2,none⟩ = some (.int .i64 x593002_1) := (blk_cell BK592.out 2).trans rfl
                      have hcz31_3 : wr.cell? ⟨gb592,3,none⟩ = some (.string x593003_1) := (blk_cell BK592.out 3).trans rfl
                      have hfz31_0 := blk_frozen BK592.out 0
                      have hfz31_1 := blk_frozen BK592.out 1
                      have hfz31_2 := blk_frozen BK592.out 2
                      have hfz31_3 := blk_frozen BK592.out 3
                      go_wp2
                      refine bodyPost_ret (results_ctt rfl _ _ gb592 50 #[.int .i64 0,.bool false,.int .i64 0,.string (⟨#[]⟩ : ByteArray)] (0,0) _ rfl (by (with_reducible repeat (first | refine blk_drewN ?_ _ | refine blk_drew ?_ | refine blk_alloc ?_ _));refine blk_put (cs := #[.int .i64 0,.bool false,.int .i64 0,.string x593003_1]) ?_ 3 _ rfl;(with_reducible repeat (first | refine blk_drewN ?_ _ | refine blk_drew ?_ | refine blk_alloc ?_ _));refine blk_put (cs := #[.int .i64 0,.bool false,.int .i64 x593002_1,.string x593003_1]) ?_ 2 _ rfl;(with_reducible repeat (first | refine blk_drewN ?_ _ | refine blk_drew ?_ | refine blk_alloc ?_ _));refine blk_put (cs := #[.int .i64 0,.bool x593001_1,.int .i64 x593002_1,.string x593003_1]) ?_ 1 _ rfl;(with_reducible repeat (first | refine blk_drewN ?_ _ | refine blk_drew ?_ | refine blk_alloc ?_ _));refine blk_put (cs := #[.int .i64 x593000_1,.bool x593001_1,.int .i64 x593002_1,.string x593003_1]) ?_ 0 _ rfl;(with_reducible repeat (first | refine blk_drewN ?_ _ | refine blk_drew ?_ | refine blk_alloc ?_ _));exact BK592.out) Try.underlying50 rfl (by kernel_rfl)) rfl ?_
                      exact ⟨by first | rfl | (simp [errW_none,errW_some] <;> rfl) | (simp only [← hji13];first | rfl | (simp [errW_none,errW_some] <;> rfl)) | (simp [*,errW_none,errW_some] <;> rfl),by repeat (first | (with_reducible first | exact HB.out | apply below_alloc | apply pw_below_drewN | apply below_drew1 | refine below_set ?_ GE592.out | refine below_set ?_ GE593.out) | exact HB.out)⟩
                · rw [if_neg c15] at H
                  exact absurd H (by simp)
              · rw [if_neg c14] at H
                exact absurd H (by simp)
          · rw [if_neg c8] at H
            have c8b0 : ((rd l0 x7_1) == 0) = false := beq_eq_false_iff_ne.mpr c8
            have c8b1 : ((rd l0 x7_1) != 0) = true := bne_iff_ne.mpr c8
            by_cases c32 : (x6_1.length : Int) ≥ 60
            · rw [if_pos c32] at H
              have c32b0 : decide (60 ≤ (x6_1.length : Int)) = true := decide_eq_true c32
              have c32b1 : decide (60 ≤ x6_1.length) = true := decide_eq_true (by omega)
              clear c32
              simp only [Option.some.injEq,Prod.mk.injEq] at H
              obtain ⟨rfl,rfl,rfl,rfl,rfl,rfl⟩ := H
              have p594 : 0 ≤ (x7_1 : Int) := of_decide_eq_true (by first | (with_reducible assumption) | assumption)
              have q594 : x7_1 < (l0.length : Int) := of_decide_eq_true (by first | (with_reducible assumption) | assumption)
              obtain ⟨ad594,e594,hx594_0⟩ := Kd.at_int HR0.out x7_1 p594 q594
              cases e594
              replace hx594_0 := (HB.out.cell (World.block_lt_of_cell? w _ hx594_0)).trans hx594_0
              replace p594 := eq_true p594
              replace q594 := eq_true q594
              obtain ⟨Ao33,co33,eo33⟩ := Kd.R_slice HO_6.out
              subst eo33
              have hnb34 := NB593_592.out
              have hnc34 := NB592_593.out
              have hcz35_0 : wr.cell? ⟨gb593,0,none⟩ = some (.int .i64 0) := (blk_cell BK593.out 0).trans rfl
              have hcz35_1 : wr.cell? ⟨gb593,1,none⟩ = some (.bool false) := (blk_cell BK593.out 1).trans rfl
              have hcz35_2 : wr.cell? ⟨gb593,2,none⟩ = some (.int .i64 0) := (blk_cell BK593.out 2).trans rfl
              have hcz35_3 : wr.cell? ⟨gb593,3,none⟩ = some (.string (⟨#[]⟩ : ByteArray)) := (blk_cell BK593.out 3).trans rfl
              have hfz35_0 := blk_frozen BK593.out 0
              have hfz35_1 := blk_frozen BK593.out 1
              have hfz35_2 := blk_frozen BK593.out 2
              have hfz35_3 := blk_frozen BK593.out 3
              have hcz36_0 : wr.cell? ⟨gb592,0,none⟩ = some (.int .i64 x593000_1) := (blk_cell BK592.out 0).trans rfl
              have hcz36_1 : wr.cell? ⟨gb592,1,none⟩ = some (.bool x593001_1) := (blk_cell BK592.out 1).trans rfl
              have hcz36_2 : wr.cell? ⟨gb592,2,none⟩ = some (.int .i64 x593002_1) := (blk_cell BK592.out 2).trans rfl
              have hcz36_3 : wr.cell? ⟨gb592,3,none⟩ = some (.string x593003_1) := (blk_cell BK592.out 3).trans rfl
              have hfz36_0 := blk_frozen BK592.out 0
              have hfz36_1 := blk_frozen BK592.out 1
              have hfz36_2 := blk_frozen BK592.out 2
              have hfz36_3 := blk_frozen BK592.out 3
              go_wp2
              refine bodyPost_ret (results_ctt rfl _ _ gb592 50 #[.int .i64 0,.bool false,.int .i64 0,.string (⟨#[]⟩ : ByteArray)] (0,0) _ rfl (by (with_reducible repeat (first | refine blk_drewN ?_ _ | refine blk_drew ?_ | refine blk_alloc ?_ _));refine blk_put (cs := #[.int .i64 0,.bool false,.int .i64 0,.string x593003_1]) ?_ 3 _ rfl;(with_reducible repeat (first | refine blk_drewN ?_ _ | refine blk_drew ?_ | refine blk_alloc ?_ _));refine blk_put (cs := #[.int .i64 0,.bool false,.int .i64 x593002_1,.string x593003_1]) ?_ 2 _ rfl;(with_reducible repeat (first | refine blk_drewN ?_ _ | refine blk_drew ?_ | refine blk_alloc ?_ _));refine blk_put (cs := #[.int .i64 0,.bool x593001_1,.int .i64 x593002_1,.string x593003_1]) ?_ 1 _ rfl;(with_reducible repeat (first | refine blk_drewN ?_ _ | refine blk_drew ?_ | refine blk_alloc ?_ _));refine blk_put (cs := #[.int .i64 x593000_1,.bool x593001_1,.int .i64 x593002_1,.string x593003_1]) ?_ 0 _ rfl;(with_reducible repeat (first | refine blk_drewN ?_ _ | refine blk_drew ?_ | refine blk_alloc ?_ _));exact BK592.out) Try.underlying50 rfl (by kernel_rfl)) rfl ?_
              exact ⟨by first | rfl | (simp [errW_none,errW_some] <;> rfl) | (simp [*,errW_none,errW_some] <;> rfl),by repeat (first | (with_reducible first | exact HB.out | apply below_alloc | apply pw_below_drewN | apply below_drew1 | refine below_set ?_ GE592.out | refine below_set ?_ GE593.out) | exact HB.out)⟩
            · rw [if_neg c32] at H
              have c32b0 : decide (60 ≤ (x6_1.length : Int)) = false := decide_eq_false c32
              have c32b1 : decide (60 ≤ x6_1.length) = false := decide_eq_false (by omega)
              clear c32
              by_cases c37 : x6_1.length < 140737488355328
              · rw [if_pos c37] at H
                have LMc37 := Aside0.mk c37
                clear c37
                obtain ⟨y600,hy600⟩ : ∃ y_ : List Int,y_ = (x6_1 ++ [rd l0 x7_1]) := ⟨_,rfl⟩
                replace H : (verdererref04_text.l0 k1 l0 y600 (wrap64 (x7_1 + 1)) 0 false 0 (⟨#[]⟩ : ByteArray)) = some (r1,r2,r3,r4,r5,r6) := by first | (rw [hy600];with_reducible exact H) | (have H2_ := (Option.bind_some _ _).symm.trans H;rw [hy600];with_reducible exact H2_) | (have H2_ := (Option.bind_some _ _).symm.trans H;with_reducible exact H2_) | with_reducible exact H | (rw [hy600];exact H) | exact H
                have Ny600 := Aside0.mk hy600
                clear hy600
                have H' := Aside0.mk H
                clear H
                have p594 : 0 ≤ (x7_1 : Int) := of_decide_eq_true (by first | (with_reducible assumption) | assumption)
                have q594 : x7_1 < (l0.length : Int) := of_decide_eq_true (by first | (with_reducible assumption) | assumption)
                obtain ⟨ad594,e594,hx594_0⟩ := Kd.at_int HR0.out x7_1 p594 q594
                cases e594
                replace hx594_0 := (HB.out.cell (World.block_lt_of_cell? w _ hx594_0)).trans hx594_0
                replace p594 := eq_true p594
                replace q594 := eq_true q594
                obtain ⟨Ao38,co38,eo38⟩ := Kd.R_slice HO_6.out
                subst eo38
                go_wp2_with (first | ((with_reducible refine gate_builtin (b := .append) (xs := #[.tmp 49,.tmp 51]) rfl ?_);at_builtin;refine Kd.R_append (Kd.int .u8) (w0 := w) w.heap.size rfl (.tmp 49) (.tmp 51) 47 5 (.int .u8 0) 1 rfl Try.underlying47 info5 rfl (by decide) (by omega) (.slice Ao38 x6_1.length co38) x6_1 (rd l0 x7_1) [.int .u8 (rd l0 x7_1)] (fun _ => True) (fun _ => False) rfl rfl ?aP (fun _ hk => hk.elim) ?aF ?aO ?aB ?aS ?aL ?_;(case aP => exact rfl);(case aB => exact (by repeat (first | (with_reducible first | exact HB.out | apply below_alloc | apply pw_below_drewN | apply below_drew1 | refine below_set ?_ GE592.out | refine below_set ?_ GE593.out) | exact HB.out)));(case aF => exact (fun _ _ => trivial));(case aO => exact (by (with_reducible repeat (first | apply Kd.R_alloc | apply Kd.R_drewN | apply Kd.R_drew));exact HO_6.out));(case aS => exact (below_size (by repeat (first | (with_reducible first | exact HB.out | apply below_alloc | apply pw_below_drewN | apply below_drew1 | refine below_set ?_ GE592.out | refine below_set ?_ GE593.out) | exact HB.out))));(case aL => have := LMc37.out;omega);intro v601 w39 ho hb hg hat;rw [← Ny600.out] at ho;have n0_ := Aside0.mk (blk_grown (g := gb592) (o := .cells #[.int .i64 x593000_1,.bool x593001_1,.int .i64 x593002_1,.string x593003_1] 50 (0,0)) (by (with_reducible repeat (first | refine blk_drewN ?_ _ | refine blk_drew ?_ | refine blk_alloc ?_ _));exact BK592.out) hg (Kd.R_ne HO_6.out BK592.out (by decide)));have n1_ := Aside0.mk (blk_grown (g := gb593) (o := .cells #[.int .i64 0,.bool false,.int .i64 0,.string (⟨#[]⟩ : ByteArray)] 50 (0,0)) (by (with_reducible repeat (first | refine blk_drewN ?_ _ | refine blk_drew ?_ | refine blk_alloc ?_ _));exact BK593.out) hg (Kd.R_ne HO_6.out BK593.out (by decide)));have n2_ := Aside0.mk (hb);have n3_ := Aside0.mk (ho);clear BK592;clear BK593;clear HB;clear HO_6;have BK592 := n0_;have BK593 := n1_;have HB := n2_;have HO602 := n3_;clear n0_ n1_ n2_ n3_;clear ho hb hg hat))
                go_roundg k1
                case measure => have := HK1.out;omega
                case rel => exact ⟨(y600),(wrap64 (x7_1 + 1)),(x593000_1),(x593001_1),(x593002_1),(x593003_1),(by first | rfl | (simp;done) | (simp [*];done)),H',⟨by have := HK1.out;omega⟩,⟨by (with_reducible repeat (first | apply Kd.R_alloc | apply Kd.R_drewN | apply Kd.R_drew));exact HO602.out⟩,⟨by (with_reducible repeat (first | refine blk_drewN ?_ _ | refine blk_drew ?_ | refine blk_alloc ?_ _));exact BK592.out⟩,⟨by (with_reducible repeat (first | refine blk_drewN ?_ _ | refine blk_drew ?_ | refine blk_alloc ?_ _));exact BK593.out⟩,⟨by repeat (first | (with_reducible first | exact HB.out | apply below_alloc | apply pw_below_drewN | apply below_drew1 | refine below_set ?_ GE592.out | refine below_set ?_ GE593.out) | exact HB.out)⟩⟩
              · rw [if_neg c37] at H
                exact absurd H (by simp)
        · rw [if_neg c7] at H
          exact absurd H (by simp)
      · rw [if_neg c6] at H
        have c6b0 : decide (x7_1 < (l0.length : Int)) = false := decide_eq_false c6
        clear c6
        simp only [Option.some.injEq,Prod.mk.injEq] at H
        obtain ⟨rfl,rfl,rfl,rfl,rfl,rfl⟩ := H
        have hnb40 := NB593_592.out
        have hnc40 := NB592_593.out
        have hcz41_0 : wr.cell? ⟨gb593,0,none⟩ = some (.int .i64 0) := (blk_cell BK593.out 0).trans rfl
        have hcz41_1 : wr.cell? ⟨gb593,1,none⟩ = some (.bool false) := (blk_cell BK593.out 1).trans rfl
        have hcz41_2 : wr.cell? ⟨gb593,2,none⟩ = some (.int .i64 0) := (blk_cell BK593.out 2).trans rfl
        have hcz41_3 : wr.cell? ⟨gb593,3,none⟩ = some (.string (⟨#[]⟩ : ByteArray)) := (blk_cell BK593.out 3).trans rfl
        have hfz41_0 := blk_frozen BK593.out 0
        have hfz41_1 := blk_frozen BK593.out 1
        have hfz41_2 := blk_frozen BK593.out 2
        have hfz41_3 := blk_frozen BK593.out 3
        have hcz42_0 : wr.cell? ⟨gb592,0,none⟩ = some (.int .i64 x593000_1) := (blk_cell BK592.out 0).trans rfl
        have hcz42_1 : wr.cell? ⟨gb592,1,none⟩ = some (.bool x593001_1) := (blk_cell BK592.out 1).trans rfl
        have hcz42_2 : wr.cell? ⟨gb592,2,none⟩ = some (.int .i64 x593002_1) := (blk_cell BK592.out 2).trans rfl
        have hcz42_3 : wr.cell? ⟨gb592,3,none⟩ = some (.string x593003_1) := (blk_cell BK592.out 3).trans rfl
        have hfz42_0 := blk_frozen BK592.out 0
        have hfz42_1 := blk_frozen BK592.out 1
        have hfz42_2 := blk_frozen BK592.out 2
        have hfz42_3 := blk_frozen BK592.out 3
        go_wp2
        refine bodyPost_ret (results_ctt rfl _ _ gb592 50 #[.int .i64 0,.bool false,.int .i64 0,.string (⟨#[]⟩ : ByteArray)] (0,0) _ rfl (by (with_reducible repeat (first | refine blk_drewN ?_ _ | refine blk_drew ?_ | refine blk_alloc ?_ _));refine blk_put (cs := #[.int .i64 0,.bool false,.int .i64 0,.string x593003_1]) ?_ 3 _ rfl;(with_reducible repeat (first | refine blk_drewN ?_ _ | refine blk_drew ?_ | refine blk_alloc ?_ _));refine blk_put (cs := #[.int .i64 0,.bool false,.int .i64 x593002_1,.string x593003_1]) ?_ 2 _ rfl;(with_reducible repeat (first | refine blk_drewN ?_ _ | refine blk_drew ?_ | refine blk_alloc ?_ _));refine blk_put (cs := #[.int .i64 0,.bool x593001_1,.int .i64 x593002_1,.string x593003_1]) ?_ 1 _ rfl;(with_reducible repeat (first | refine blk_drewN ?_ _ | refine blk_drew ?_ | refine blk_alloc ?_ _));refine blk_put (cs := #[.int .i64 x593000_1,.bool x593001_1,.int .i64 x593002_1,.string x593003_1]) ?_ 0 _ rfl;(with_reducible repeat (first | refine blk_drewN ?_ _ | refine blk_drew ?_ | refine blk_alloc ?_ _));exact BK592.out) Try.underlying50 rfl (by kernel_rfl)) rfl ?_
        exact ⟨by first | rfl | (simp [errW_none,errW_some] <;> rfl) | (simp [*,errW_none,errW_some] <;> rfl),by repeat (first | (with_reducible first | exact HB.out | apply below_alloc | apply pw_below_drewN | apply below_drew1 | refine below_set ?_ GE592.out | refine below_set ?_ GE593.out) | exact HB.out)⟩
end Go.Proofs.Ytfoaeigoajooeaa.Z
end
section
namespace Go.Proofs.Ytfoaeigoajooeaa.Z
open Go.RowKit Go.Proofs.YtfoaeigoajooeaaW.PrintWords Go.Proofs.YtfoaeigoajooeaaW.PrintLast Go.Proofs.YtfoaeigoajooeaaW.PrintMore
attribute [local go_sem] max2_int min2_int max_two min_two max_three min_three max_four min_four
set_option linter.unusedVariables false
set_option linter.unusedSimpArgs false
def verdererref04_First.l0 : Nat → List Int → Int → Int → Option (Int × Bool × Int × ByteArray × Int × Int)
  | 0,_,_,_ => none
  | k + 1,x0,x6,x7 => if x7 < 9 then (if 0 ≤ x7 then (if x7 < (x0.length : Int) then (verdererref04_First.l0 k x0 (IntKind.u64.wrap ((IntKind.u64.wrap (x6 * 256)) + (IntKind.u64.wrap (rd x0 x7)))) (wrap64 (x7 + 1))) else (none)) else (none)) else (some (2,false,wrap64 (IntKind.u64.wrap (x6 - 9223372036854775808)),(⟨#[]⟩ : ByteArray),9,0))
def verdererref04_First.f (k : Nat) (l0 : List Int) : Option (Int × Bool × Int × ByteArray × Int × Int) := if (l0.length : Int) = 0 then (some (0,false,0,(⟨#[]⟩ : ByteArray),0,8)) else (if 0 < (l0.length : Int) then (if (rd l0 0) = 1 then (some (0,false,0,(⟨#[]⟩ : ByteArray),1,0)) else (if (rd l0 0) = 2 then (if (l0.length : Int) < 2 then (some (0,false,0,(⟨#[]⟩ : ByteArray),0,8)) else (if 1 < (l0.length : Int) then (if (rd l0 1) > 1 then (some (0,false,0,(⟨#[]⟩ : ByteArray),0,7)) else (some (1,((rd l0 1) == 1),0,(⟨#[]⟩ : ByteArray),2,0))) else (none))) else (if (rd l0 0) = 3 then (if (l0.length : Int) < 9 then (some (0,false,0,(⟨#[]⟩ : ByteArray),0,8)) else (verdererref04_First.l0 k l0 0 1)) else (if (rd l0 0) = 4 then ((verdererref04_text.f k l0).bind fun bt609 => (some (bt609.1,bt609.2.1,bt609.2.2.1,bt609.2.2.2.1,bt609.2.2.2.2.1,bt609.2.2.2.2.2))) else (some (0,false,0,(⟨#[]⟩ : ByteArray),0,7)))))) else (none))
theorem verdererref04_First.mono_l : ∀ k,(∀ y0 y1 y2,LeO (verdererref04_First.l0 k y0 y1 y2) (verdererref04_First.l0 (k + 1) y0 y1 y2))
  | 0 => fun _ _ _ r h => by simp [verdererref04_First.l0] at h
  | k + 1 => by
    have ih0 := verdererref04_First.mono_l k
    · intro y0 y1 y2
      unfold verdererref04_First.l0
      repeat' first
      | (with_reducible exact ih0 _ _ _)
      | (with_reducible exact verdererref04_text.mono _ _)
      | (with_reducible exact LeO.refl _)
      | (with_reducible exact LeO.none _)
      | (with_reducible refine LeO.ite ?_ ?_)
      | (with_reducible refine LeO.bind ?_ (fun _ => ?_))
      | exact ih0 _ _ _
      | exact verdererref04_text.mono _ _
      | exact LeO.none _
      | refine LeO.ite ?_ ?_
      | refine LeO.bind ?_ (fun _ => ?_)
theorem verdererref04_First.mono : ∀ a0 k,LeO (verdererref04_First.f k a0) (verdererref04_First.f (k + 1) a0) := by
  intro a0 k
  have ih0 := verdererref04_First.mono_l k
  unfold verdererref04_First.f
  repeat' first
      | (with_reducible exact ih0 _ _ _)
      | (with_reducible exact verdererref04_text.mono _ _)
      | (with_reducible exact LeO.refl _)
      | (with_reducible exact LeO.none _)
      | (with_reducible refine LeO.ite ?_ ?_)
      | (with_reducible refine LeO.bind ?_ (fun _ => ?_))
      | exact ih0 _ _ _
      | exact verdererref04_text.mono _ _
      | exact LeO.none _
      | refine LeO.ite ?_ ?_
      | refine LeO.bind ?_ (fun _ => ?_)
set_option maxHeartbeats 8000000 in
set_option maxRecDepth 100000 in
theorem verdererref04_First.calls (k : Nat) (A0 : Option Addr) (c0 : Nat) (l0 : List Int) (r1 : Int) (r2 : Bool) (r3 : Int) (r4 : ByteArray) (r5 : Int) (r6 : Int) (w : World) (hr0 : Kd.C (Kd.int .u8) w A0 l0.length l0) (hc0 : l0.length ≤ c0) (h : verdererref04_First.f k l0 = some (r1,r2,r3,r4,r5,r6)) :
    Calls Try.prog 38 #[.slice A0 l0.length c0] w fun e w' => e = .returned (.tuple #[.agg #[.int .i64 r1,.bool r2,.int .i64 r3,.string r4],.int .i64 r5,.int .i64 r6]) ∧ Below w.heap.size w w' := by
  have hu50 := Try.underlying50
  have HR0 := Aside0.mk hr0
  have HC0 := Aside0.mk hc0
  clear hr0 hc0
  have HB := Aside0.mk (Below.refl w.heap.size w)
  have H : (if (l0.length : Int) = 0 then (some (0,false,0,(⟨#[]⟩ : ByteArray),0,8)) else (if 0 < (l0.length : Int) then (if (rd l0 0) = 1 then (some (0,false,0,(⟨#[]⟩ : ByteArray),1,0)) else (if (rd l0 0) = 2 then (if (l0.length : Int) < 2 then (some (0,false,0,(⟨#[]⟩ : ByteArray),0,8)) else (if 1 < (l0.length : Int) then (if (rd l0 1) > 1 then (some (0,false,0,(⟨#[]⟩ : ByteArray),0,7)) else (some (1,((rd l0 1) == 1),0,(⟨#[]⟩ : ByteArray),2,0))) else (none))) else (if (rd l0 0) = 3 then (if (l0.length : Int) < 9 then (some (0,false,0,(⟨#[]⟩ : ByteArray),0,8)) else (verdererref04_First.l0 k l0 0 1)) else (if (rd l0 0) = 4 then ((verdererref04_text.f k l0).bind fun bt609 => (some (bt609.1,bt609.2.1,bt609.2.2.1,bt609.2.2.2.1,bt609.2.2.2.2.1,bt609.2.2.2.2.2))) else (some (0,false,0,(⟨#[]⟩ : ByteArray),0,7)))))) else (none))) = some (r1,r2,r3,r4,r5,r6) := h
  clear h
  by_cases c2 : (l0.length : Int) = 0
  · rw [if_pos c2] at H
    have c2b0 : ((l0.length : Int) == 0) = true := beq_iff_eq.mpr c2
    have c2b1 : ((l0.length : Int) != 0) = false := bne_eq_false_iff_eq.mpr c2
    clear c2
    simp only [Option.some.injEq,Prod.mk.injEq] at H
    obtain ⟨rfl,rfl,rfl,rfl,rfl,rfl⟩ := H
    go_enter Try.func38,Try.ntmps38
    go_wp2_with (first | ((with_reducible refine gate_dst (N := 2) rfl ?_);refine box_event ?hg (N := 2) ?hd (cs := #[.int .i64 0,.bool false,.int .i64 0,.string (⟨#[]⟩ : ByteArray)]) (t := 50) ?hr ?_;(case hd => rfl);(case hg => rfl);(case hr => first | (go_simp;done) | (go_simp;rfl));intro gb603 hg w3 hbox hb;have n0_ := Aside0.mk (below_step (by repeat (first | (with_reducible first | exact HB.out | apply below_alloc | apply pw_below_drewN | apply below_drew1) | exact HB.out)) hb);have n1_ := Aside0.mk (hbox);have n2_ := Aside0.mk ((by rw [hg];exact (below_size (by repeat (first | (with_reducible first | exact HB.out | apply below_alloc | apply pw_below_drewN | apply below_drew1) | exact HB.out))) : w.heap.size ≤ gb603));have n3_ := Aside0.mk ((by rw [hg];exact (below_size (by repeat (first | (with_reducible first | exact HB.out | apply below_alloc | apply pw_below_drewN | apply below_drew1) | exact HB.out))) : w.heap.size ≤ gb603));clear HB;have HB := n0_;have BK603 := n1_;have GW603 := n2_;have GE603 := n3_;clear n0_ n1_ n2_ n3_;clear hb hbox hg) | ((with_reducible refine gate_dst (N := 5) rfl ?_);refine box_event ?hg (N := 5) ?hd (cs := #[.int .i64 0,.bool false,.int .i64 0,.string (⟨#[]⟩ : ByteArray)]) (t := 50) ?hr ?_;(case hd => rfl);(case hg => rfl);(case hr => first | (go_simp;done) | (go_simp;rfl));intro gb604 hg w4 hbox hb;have n0_ := Aside0.mk (blk_below (g := gb603) (o := .cells #[.int .i64 0,.bool false,.int .i64 0,.string (⟨#[]⟩ : ByteArray)] 50 (0,0)) (by (with_reducible repeat (first | refine blk_drewN ?_ _ | refine blk_drew ?_ | refine blk_alloc ?_ _));exact BK603.out) hb);have n1_ := Aside0.mk (below_step (by repeat (first | (with_reducible first | exact HB.out | apply below_alloc | apply pw_below_drewN | apply below_drew1 | refine below_set ?_ GE603.out) | exact HB.out)) hb);have n2_ := Aside0.mk (hbox);have n3_ := Aside0.mk ((by rw [hg];exact (below_size (by repeat (first | (with_reducible first | exact HB.out | apply below_alloc | apply pw_below_drewN | apply below_drew1 | refine below_set ?_ GE603.out) | exact HB.out))) : w.heap.size ≤ gb604));have n4_ := Aside0.mk ((by rw [hg];exact (below_size (by repeat (first | (with_reducible first | exact HB.out | apply below_alloc | apply pw_below_drewN | apply below_drew1 | refine below_set ?_ GE603.out) | exact HB.out))) : w.heap.size ≤ gb604));have n5_ := Aside0.mk ((by rw [hg];exact Nat.ne_of_lt (blk_lt (g := gb603) (o := .cells #[.int .i64 0,.bool false,.int .i64 0,.string (⟨#[]⟩ : ByteArray)] 50 (0,0)) (by (with_reducible repeat (first | refine blk_drewN ?_ _ | refine blk_drew ?_ | refine blk_alloc ?_ _));exact BK603.out)) : gb603 ≠ gb604));have n6_ := Aside0.mk ((by rw [hg];exact Nat.ne_of_gt (blk_lt (g := gb603) (o := .cells #[.int .i64 0,.bool false,.int .i64 0,.string (⟨#[]⟩ : ByteArray)] 50 (0,0)) (by (with_reducible repeat (first | refine blk_drewN ?_ _ | refine blk_drew ?_ | refine blk_alloc ?_ _));exact BK603.out)) : gb604 ≠ gb603));clear BK603;clear HB;have BK603 := n0_;have HB := n1_;have BK604 := n2_;have GW604 := n3_;have GE604 := n4_;have NB603_604 := n5_;have NB604_603 := n6_;clear n0_ n1_ n2_ n3_ n4_ n5_ n6_;clear hb hbox hg;have hnb5 := NB604_603.out;have hnc5 := NB603_604.out;have hcz6_0 : w4.cell? ⟨gb604,0,none⟩ = some (.int .i64 0) := (blk_cell BK604.out 0).trans rfl;have hcz6_1 : w4.cell? ⟨gb604,1,none⟩ = some (.bool false) := (blk_cell BK604.out 1).trans rfl;have hcz6_2 : w4.cell? ⟨gb604,2,none⟩ = some (.int .i64 0) := (blk_cell BK604.out 2).trans rfl;have hcz6_3 : w4.cell? ⟨gb604,3,none⟩ = some (.string (⟨#[]⟩ : ByteArray)) := (blk_cell BK604.out 3).trans rfl;have hfz6_0 := blk_frozen BK604.out 0;have hfz6_1 := blk_frozen BK604.out 1;have hfz6_2 := blk_frozen BK604.out 2;have hfz6_3 := blk_frozen BK604.out 3;have hcz7_0 : w4.cell? ⟨gb603,0,none⟩ = some (.int .i64 0) := (blk_cell BK603.out 0).trans rfl;have hcz7_1 : w4.cell? ⟨gb603,1,none⟩ = some (.bool false) := (blk_cell BK603.out 1).trans rfl;have hcz7_2 : w4.cell? ⟨gb603,2,none⟩ = some (.int .i64 0) := (blk_cell BK603.out 2).trans rfl;have hcz7_3 : w4.cell? ⟨gb603,3,none⟩ = some (.string (⟨#[]⟩ : ByteArray)) := (blk_cell BK603.out 3).trans rfl;have hfz7_0 := blk_frozen BK603.out 0;have hfz7_1 := blk_frozen BK603.out 1;have hfz7_2 := blk_frozen BK603.out 2;have hfz7_3 := blk_frozen BK603.out 3))
    refine bodyPost_ret (results_ctt rfl _ _ gb603 50 #[.int .i64 0,.bool false,.int .i64 0,.string (⟨#[]⟩ : ByteArray)] (0,0) _ rfl (by (with_reducible repeat (first | refine blk_drewN ?_ _ | refine blk_drew ?_ | refine blk_alloc ?_ _));refine blk_put (cs := #[.int .i64 0,.bool false,.int .i64 0,.string (⟨#[]⟩ : ByteArray)]) ?_ 3 _ rfl;(with_reducible repeat (first | refine blk_drewN ?_ _ | refine blk_drew ?_ | refine blk_alloc ?_ _));refine blk_put (cs := #[.int .i64 0,.bool false,.int .i64 0,.string (⟨#[]⟩ : ByteArray)]) ?_ 2 _ rfl;(with_reducible repeat (first | refine blk_drewN ?_ _ | refine blk_drew ?_ | refine blk_alloc ?_ _));refine blk_put (cs := #[.int .i64 0,.bool false,.int .i64 0,.string (⟨#[]⟩ : ByteArray)]) ?_ 1 _ rfl;(with_reducible repeat (first | refine blk_drewN ?_ _ | refine blk_drew ?_ | refine blk_alloc ?_ _));refine blk_put (cs := #[.int .i64 0,.bool false,.int .i64 0,.string (⟨#[]⟩ : ByteArray)]) ?_ 0 _ rfl;(with_reducible repeat (first | refine blk_drewN ?_ _ | refine blk_drew ?_ | refine blk_alloc ?_ _));refine blk_far ?_ NB603_604.out _;(with_reducible repeat (first | refine blk_drewN ?_ _ | refine blk_drew ?_ | refine blk_alloc ?_ _));refine blk_far ?_ NB603_604.out _;(with_reducible repeat (first | refine blk_drewN ?_ _ | refine blk_drew ?_ | refine blk_alloc ?_ _));refine blk_far ?_ NB603_604.out _;(with_reducible repeat (first | refine blk_drewN ?_ _ | refine blk_drew ?_ | refine blk_alloc ?_ _));refine blk_far ?_ NB603_604.out _;(with_reducible repeat (first | refine blk_drewN ?_ _ | refine blk_drew ?_ | refine blk_alloc ?_ _));exact BK603.out) Try.underlying50 rfl (by kernel_rfl)) rfl ?_
    exact ⟨by first | rfl | (simp [errW_none,errW_some] <;> rfl) | (simp [*,errW_none,errW_some] <;> rfl),by repeat (first | (with_reducible first | exact HB.out | apply below_alloc | apply pw_below_drewN | apply below_drew1 | refine below_set ?_ GE603.out | refine below_set ?_ GE604.out) | exact HB.out)⟩
  · rw [if_neg c2] at H
    have c2b0 : ((l0.length : Int) == 0) = false := beq_eq_false_iff_ne.mpr c2
    have c2b1 : ((l0.length : Int) != 0) = true := bne_iff_ne.mpr c2
    have c2b2 : ¬ (l0 = []) := fun h_ => c2 (by rw [h_];rfl)
    by_cases c8 : 0 < (l0.length : Int)
    · rw [if_pos c8] at H
      have c8b0 : decide (0 < (l0.length : Int)) = true := decide_eq_true c8
      have c8b1 : decide (0 < l0.length) = true := decide_eq_true (by omega)
      clear c8
      by_cases c9 : (rd l0 0) = 1
      · rw [if_pos c9] at H
        have c9b0 : ((rd l0 0) == 1) = true := beq_iff_eq.mpr c9
        have c9b1 : ((rd l0 0) != 1) = false := bne_eq_false_iff_eq.mpr c9
        clear c9
        simp only [Option.some.injEq,Prod.mk.injEq] at H
        obtain ⟨rfl,rfl,rfl,rfl,rfl,rfl⟩ := H
        go_enter Try.func38,Try.ntmps38
        go_wp2_with (first | ((with_reducible refine gate_dst (N := 2) rfl ?_);refine box_event ?hg (N := 2) ?hd (cs := #[.int .i64 0,.bool false,.int .i64 0,.string (⟨#[]⟩ : ByteArray)]) (t := 50) ?hr ?_;(case hd => rfl);(case hg => rfl);(case hr => first | (go_simp;done) | (go_simp;rfl));intro gb603 hg w10 hbox hb;have n0_ := Aside0.mk (below_step (by repeat (first | (with_reducible first | exact HB.out | apply below_alloc | apply pw_below_drewN | apply below_drew1) | exact HB.out)) hb);have n1_ := Aside0.mk (hbox);have n2_ := Aside0.mk ((by rw [hg];exact (below_size (by repeat (first | (with_reducible first | exact HB.out | apply below_alloc | apply pw_below_drewN | apply below_drew1) | exact HB.out))) : w.heap.size ≤ gb603));have n3_ := Aside0.mk ((by rw [hg];exact (below_size (by repeat (first | (with_reducible first | exact HB.out | apply below_alloc | apply pw_below_drewN | apply below_drew1) | exact HB.out))) : w.heap.size ≤ gb603));clear HB;have HB := n0_;have BK603 := n1_;have GW603 := n2_;have GE603 := n3_;clear n0_ n1_ n2_ n3_;clear hb hbox hg) | ((with_reducible refine gate_dst (N := 5) rfl ?_);refine box_event ?hg (N := 5) ?hd (cs := #[.int .i64 0,.bool false,.int .i64 0,.string (⟨#[]⟩ : ByteArray)]) (t := 50) ?hr ?_;(case hd => rfl);(case hg => rfl);(case hr => first | (go_simp;done) | (go_simp;rfl));intro gb604 hg w11 hbox hb;have n0_ := Aside0.mk (blk_below (g := gb603) (o := .cells #[.int .i64 0,.bool false,.int .i64 0,.string (⟨#[]⟩ : ByteArray)] 50 (0,0)) (by (with_reducible repeat (first | refine blk_drewN ?_ _ | refine blk_drew ?_ | refine blk_alloc ?_ _));exact BK603.out) hb);have n1_ := Aside0.mk (below_step (by repeat (first | (with_reducible first | exact HB.out | apply below_alloc | apply pw_below_drewN | apply below_drew1 | refine below_set ?_ GE603.out) | exact HB.out)) hb);have n2_ := Aside0.mk (hbox);have n3_ := Aside0.mk ((by rw [hg];exact (below_size (by repeat (first | (with_reducible first | exact HB.out | apply below_alloc | apply pw_below_drewN | apply below_drew1 | refine below_set ?_ GE603.out) | exact HB.out))) : w.heap.size ≤ gb604));have n4_ := Aside0.mk ((by rw [hg];exact (below_size (by repeat (first | (with_reducible first | exact HB.out | apply below_alloc | apply pw_below_drewN | apply below_drew1 | refine below_set ?_ GE603.out) | exact HB.out))) : w.heap.size ≤ gb604));have n5_ := Aside0.mk ((by rw [hg];exact Nat.ne_of_lt (blk_lt (g := gb603) (o := .cells #[.int .i64 0,.bool false,.int .i64 0,.string (⟨#[]⟩ : ByteArray)] 50 (0,0)) (by (with_reducible repeat (first | refine blk_drewN ?_ _ | refine blk_drew ?_ | refine blk_alloc ?_ _));exact BK603.out)) : gb603 ≠ gb604));have n6_ := Aside0.mk ((by rw [hg];exact Nat.ne_of_gt (blk_lt (g := gb603) (o := .cells #[.int .i64 0,.bool false,.int .i64 0,.string (⟨#[]⟩ : ByteArray)] 50 (0,0)) (by (with_reducible repeat (first | refine blk_drewN ?_ _ | refine blk_drew ?_ | refine blk_alloc ?_ _));exact BK603.out)) : gb604 ≠ gb603));clear BK603;clear HB;have BK603 := n0_;have HB := n1_;have BK604 := n2_;have GW604 := n3_;have GE604 := n4_;have NB603_604 := n5_;have NB604_603 := n6_;clear n0_ n1_ n2_ n3_ n4_ n5_ n6_;clear hb hbox hg;have hnb12 := NB604_603.out;have hnc12 := NB603_604.out;have hcz13_0 : w11.cell? ⟨gb604,0,none⟩ = some (.int .i64 0) := (blk_cell BK604.out 0).trans rfl;have hcz13_1 : w11.cell? ⟨gb604,1,none⟩ = some (.bool false) := (blk_cell BK604.out 1).trans rfl;have hcz13_2 : w11.cell? ⟨gb604,2,none⟩ = some (.int .i64 0) := (blk_cell BK604.out 2).trans rfl;have hcz13_3 : w11.cell? ⟨gb604,3,none⟩ = some (.string (⟨#[]⟩ : ByteArray)) := (blk_cell BK604.out 3).trans rfl;have hfz13_0 := blk_frozen BK604.out 0;have hfz13_1 := blk_frozen BK604.out 1;have hfz13_2 := blk_frozen BK604.out 2;have hfz13_3 := blk_frozen BK604.out 3;have p605 : 0 ≤ (0 : Int) := (by omega);have q605 : 0 < (l0.length : Int) := of_decide_eq_true (by first | (with_reducible assumption) | assumption);obtain ⟨ad605,e605,hx605_0⟩ := Kd.at_int HR0.out 0 p605 q605;cases e605;have qi605 : (0 < l0.length) = True := eq_true (by omega);(try rw [show ((0 : Int)).toNat = 0 from rfl] at hx605_0);(try rw [Addr.add_zero'] at hx605_0);have hn605_0 : ad605.block ≠ gb604 := Nat.ne_of_lt (Nat.lt_of_lt_of_le (by have := World.block_lt_of_cell? _ _ hx605_0;first | rwa [add_block] at this | exact this) GW604.out);have hn605_1 : ad605.block ≠ gb604 := Nat.ne_of_lt (Nat.lt_of_lt_of_le (by have := World.block_lt_of_cell? _ _ hx605_0;first | rwa [add_block] at this | exact this) GW604.out);have hn605_2 : ad605.block ≠ gb604 := Nat.ne_of_lt (Nat.lt_of_lt_of_le (by have := World.block_lt_of_cell? _ _ hx605_0;first | rwa [add_block] at this | exact this) GW604.out);have hn605_3 : ad605.block ≠ gb604 := Nat.ne_of_lt (Nat.lt_of_lt_of_le (by have := World.block_lt_of_cell? _ _ hx605_0;first | rwa [add_block] at this | exact this) GW604.out);replace hx605_0 := (HB.out.cell (World.block_lt_of_cell? w _ hx605_0)).trans hx605_0;replace hx605_0 := (cell_far (p := ⟨gb604,0,none⟩) (by first | (rw [add_block];exact hn605_0) | (show (Addr.add _ _).block ≠ _;rw [add_block];exact hn605_0) | exact hn605_0) (.int .i64 0)).trans hx605_0;replace hx605_0 := (cell_far (p := ⟨gb604,1,none⟩) (by first | (rw [add_block];exact hn605_1) | (show (Addr.add _ _).block ≠ _;rw [add_block];exact hn605_1) | exact hn605_1) (.bool false)).trans hx605_0;replace hx605_0 := (cell_far (p := ⟨gb604,2,none⟩) (by first | (rw [add_block];exact hn605_2) | (show (Addr.add _ _).block ≠ _;rw [add_block];exact hn605_2) | exact hn605_2) (.int .i64 0)).trans hx605_0;replace hx605_0 := (cell_far (p := ⟨gb604,3,none⟩) (by first | (rw [add_block];exact hn605_3) | (show (Addr.add _ _).block ≠ _;rw [add_block];exact hn605_3) | exact hn605_3) (.string (⟨#[]⟩ : ByteArray))).trans hx605_0;clear hn605_0;clear hn605_1;clear hn605_2;clear hn605_3;replace p605 := eq_true p605;replace q605 := eq_true q605;have hcz14_0 : w11.cell? ⟨gb603,0,none⟩ = some (.int .i64 0) := (blk_cell BK603.out 0).trans rfl;have hcz14_1 : w11.cell? ⟨gb603,1,none⟩ = some (.bool false) := (blk_cell BK603.out 1).trans rfl;have hcz14_2 : w11.cell? ⟨gb603,2,none⟩ = some (.int .i64 0) := (blk_cell BK603.out 2).trans rfl;have hcz14_3 : w11.cell? ⟨gb603,3,none⟩ = some (.string (⟨#[]⟩ : ByteArray)) := (blk_cell BK603.out 3).trans rfl;have hfz14_0 := blk_frozen BK603.out 0;have hfz14_1 := blk_frozen BK603.out 1;have hfz14_2 := blk_frozen BK603.out 2;have hfz14_3 := blk_frozen BK603.out 3))
        refine bodyPost_ret (results_ctt rfl _ _ gb603 50 #[.int .i64 0,.bool false,.int .i64 0,.string (⟨#[]⟩ : ByteArray)] (0,0) _ rfl (by (with_reducible repeat (first | refine blk_drewN ?_ _ | refine blk_drew ?_ | refine blk_alloc ?_ _));refine blk_put (cs := #[.int .i64 0,.bool false,.int .i64 0,.string (⟨#[]⟩ : ByteArray)]) ?_ 3 _ rfl;(with_reducible repeat (first | refine blk_drewN ?_ _ | refine blk_drew ?_ | refine blk_alloc ?_ _));refine blk_put (cs := #[.int .i64 0,.bool false,.int .i64 0,.string (⟨#[]⟩ : ByteArray)]) ?_ 2 _ rfl;(with_reducible repeat (first | refine blk_drewN ?_ _ | refine blk_drew ?_ | refine blk_alloc ?_ _));refine blk_put (cs := #[.int .i64 0,.bool false,.int .i64 0,.string (⟨#[]⟩ : ByteArray)]) ?_ 1 _ rfl;(with_reducible repeat (first | refine blk_drewN ?_ _ | refine blk_drew ?_ | refine blk_alloc ?_ _));refine blk_put (cs := #[.int .i64 0,.bool false,.int .i64 0,.string (⟨#[]⟩ : ByteArray)]) ?_ 0 _ rfl;(with_reducible repeat (first | refine blk_drewN ?_ _ | refine blk_drew ?_ | refine blk_alloc ?_ _));refine blk_far ?_ NB603_604.out _;(with_reducible repeat (first | refine blk_drewN ?_ _ | refine blk_drew ?_ | refine blk_alloc ?_ _));refine blk_far ?_ NB603_604.out _;(with_reducible repeat (first | refine blk_drewN ?_ _ | refine blk_drew ?_ | refine blk_alloc ?_ _));refine blk_far ?_ NB603_604.out _;(with_reducible repeat (first | refine blk_drewN ?_ _ | refine blk_drew ?_ | refine blk_alloc ?_ _));refine blk_far ?_ NB603_604.out _;(with_reducible repeat (first | refine blk_drewN ?_ _ | refine blk_drew ?_ | refine blk_alloc ?_ _));exact BK603.out) Try.underlying50 rfl (by kernel_rfl)) rfl ?_
        exact ⟨by first | rfl | (simp [errW_none,errW_some] <;> rfl) | (simp [*,errW_none,errW_some] <;> rfl),by repeat (first | (with_reducible first | exact HB.out | apply below_alloc | apply pw_below_drewN | apply below_drew1 | refine below_set ?_ GE603.out | refine below_set ?_ GE604.out) | exact HB.out)⟩
      · rw [if_neg c9] at H
        have c9b0 : ((rd l0 0) == 1) = false := beq_eq_false_iff_ne.mpr c9
        have c9b1 : ((rd l0 0) != 1) = true := bne_iff_ne.mpr c9
        by_cases c15 : (rd l0 0) = 2
        · rw [if_pos c15] at H
          have c15b0 : ((rd l0 0) == 2) = true := beq_iff_eq.mpr c15
          have c15b1 : ((rd l0 0) != 2) = false := bne_eq_false_iff_eq.mpr c15
          clear c15
          by_cases c16 : (l0.length : Int) < 2
          · rw [if_pos c16] at H
            have c16b0 : decide ((l0.length : Int) < 2) = true := decide_eq_true c16
            have c16b1 : decide (l0.length < 2) = true := decide_eq_true (by omega)
            clear c16
            simp only [Option.some.injEq,Prod.mk.injEq] at H
            obtain ⟨rfl,rfl,rfl,rfl,rfl,rfl⟩ := H
            go_enter Try.func38,Try.ntmps38
            go_wp2_with (first | ((with_reducible refine gate_dst (N := 2) rfl ?_);refine box_event ?hg (N := 2) ?hd (cs := #[.int .i64 0,.bool false,.int .i64 0,.string (⟨#[]⟩ : ByteArray)]) (t := 50) ?hr ?_;(case hd => rfl);(case hg => rfl);(case hr => first | (go_simp;done) | (go_simp;rfl));intro gb603 hg w17 hbox hb;have n0_ := Aside0.mk (below_step (by repeat (first | (with_reducible first | exact HB.out | apply below_alloc | apply pw_below_drewN | apply below_drew1) | exact HB.out)) hb);have n1_ := Aside0.mk (hbox);have n2_ := Aside0.mk ((by rw [hg];exact (below_size (by repeat (first | (with_reducible first | exact HB.out | apply below_alloc | apply pw_below_drewN | apply below_drew1) | exact HB.out))) : w.heap.size ≤ gb603));have n3_ := Aside0.mk ((by rw [hg];exact (below_size (by repeat (first | (with_reducible first | exact HB.out | apply below_alloc | apply pw_below_drewN | apply below_drew1) | exact HB.out))) : w.heap.size ≤ gb603));clear HB;have HB := n0_;have BK603 := n1_;have GW603 := n2_;have GE603 := n3_;clear n0_ n1_ n2_ n3_;clear hb hbox hg) | ((with_reducible refine gate_dst (N := 5) rfl ?_);refine box_event ?hg (N := 5) ?hd (cs := #[.int .i64 0,.bool false,.int .i64 0,.string (⟨#[]⟩ : ByteArray)]) (t := 50) ?hr ?_;(case hd => rfl);(case hg => rfl);(case hr => first | (go_simp;done) | (go_simp;rfl));intro gb604 hg w18 hbox hb;have n0_ := Aside0.mk (blk_below (g := gb603) (o := .cells #[.int .i64 0,.bool false,.int .i64 0,.string (⟨#[]⟩ : ByteArray)] 50 (0,0)) (by (with_reducible repeat (first | refine blk_drewN ?_ _ | refine blk_drew ?_ | refine blk_alloc ?_ _));exact BK603.out) hb);have n1_ := Aside0.mk (below_step (by repeat (first | (with_reducible first | exact HB.out | apply below_alloc | apply pw_below_drewN | apply below_drew1 | refine below_set ?_ GE603.out) | exact HB.out)) hb);have n2_ := Aside0.mk (hbox);have n3_ := Aside0.mk ((by rw [hg];exact (below_size (by repeat (first | (with_reducible first | exact HB.out | apply below_alloc | apply pw_below_drewN | apply below_drew1 | refine below_set ?_ GE603.out) | exact HB.out))) : w.heap.size ≤ gb604));have n4_ := Aside0.mk ((by rw [hg];exact (below_size (by repeat (first | (with_reducible first | exact HB.out | apply below_alloc | apply pw_below_drewN | apply below_drew1 | refine below_set ?_ GE603.out) | exact HB.out))) : w.heap.size ≤ gb604));have n5_ := Aside0.mk ((by rw [hg];exact Nat.ne_of_lt (blk_lt (g := gb603) (o := .cells #[.int .i64 0,.bool false,.int .i64 0,.string (⟨#[]⟩ : ByteArray)] 50 (0,0)) (by (with_reducible repeat (first | refine blk_drewN ?_ _ | refine blk_drew ?_ | refine blk_alloc ?_ _));exact BK603.out)) : gb603 ≠ gb604));have n6_ := Aside0.mk ((by rw [hg];exact Nat.ne_of_gt (blk_lt (g := gb603) (o := .cells #[.int .i64 0,.bool false,.int .i64 0,.string (⟨#[]⟩ : ByteArray)] 50 (0,0)) (by (with_reducible repeat (first | refine blk_drewN ?_ _ | refine blk_drew ?_ | refine blk_alloc ?_ _));exact BK603.out)) : gb604 ≠ gb603));clear BK603;clear HB;have BK603 := n0_;have HB := n1_;have BK604 := n2_;have GW604 := n3_;have GE604 := n4_;have NB603_604 := n5_;have NB604_603 := n6_;clear n0_ n1_ n2_ n3_ n4_ n5_ n6_;clear hb hbox hg;have hnb19 := NB604_603.out;have hnc19 := NB603_604.out;have hcz20_0 : w18.cell? ⟨gb604,0,none⟩ = some (.int .i64 0) := (blk_cell BK604.out 0).trans rfl;have hcz20_1 : w18.cell? ⟨gb604,1,none⟩ = some (.bool false) := (blk_cell BK604.out 1).trans rfl;have hcz20_2 : w18.cell? ⟨gb604,2,none⟩ = some (.int .i64 0) := (blk_cell BK604.out 2).trans rfl;have hcz20_3 : w18.cell? ⟨gb604,3,none⟩ = some (.string (⟨#[]⟩ : ByteArray)) := (blk_cell BK604.out 3).trans rfl;have hfz20_0 := blk_frozen BK604.out 0;have hfz20_1 := blk_frozen BK604.out 1;have hfz20_2 := blk_frozen BK604.out 2;have hfz20_3 := blk_frozen BK604.out 3;have p605 : 0 ≤ (0 : Int) := (by omega);have q605 : 0 < (l0.length : Int) := of_decide_eq_true (by first | (with_reducible assumption) | assumption);obtain ⟨ad605,e605,hx605_0⟩ := Kd.at_int HR0.out 0 p605 q605;cases e605;have qi605 : (0 < l0.length) = True := eq_true (by omega);(try rw [show ((0 : Int)).toNat = 0 from rfl] at hx605_0);(try rw [Addr.add_zero'] at hx605_0);have hn605_0 : ad605.block ≠ gb604 := Nat.ne_of_lt (Nat.lt_of_lt_of_le (by have := World.block_lt_of_cell? _ _ hx605_0;first | rwa [add_block] at this | exact this) GW604.out);have hn605_1 : ad605.block ≠ gb604 := Nat.ne_of_lt (Nat.lt_of_lt_of_le (by have := World.block_lt_of_cell? _ _ hx605_0;first | rwa [add_block] at this | exact this) GW604.out);have hn605_2 : ad605.block ≠ gb604 := Nat.ne_of_lt (Nat.lt_of_lt_of_le (by have := World.block_lt_of_cell? _ _ hx605_0;first | rwa [add_block] at this | exact this) GW604.out);have hn605_3 : ad605.block ≠ gb604 := Nat.ne_of_lt (Nat.lt_of_lt_of_le (by have := World.block_lt_of_cell? _ _ hx605_0;first | rwa [add_block] at this | exact this) GW604.out);replace hx605_0 := (HB.out.cell (World.block_lt_of_cell? w _ hx605_0)).trans hx605_0;replace hx605_0 := (cell_far (p := ⟨gb604,0,none⟩) (by first | (rw [add_block];exact hn605_0) | (show (Addr.add _ _).block ≠ _;rw [add_block];exact hn605_0) | exact hn605_0) (.int .i64 0)).trans hx605_0;replace hx605_0 := (cell_far (p := ⟨gb604,1,none⟩) (by first | (rw [add_block];exact hn605_1) | (show (Addr.add _ _).block ≠ _;rw [add_block];exact hn605_1) | exact hn605_1) (.bool false)).trans hx605_0;replace hx605_0 := (cell_far (p := ⟨gb604,2,none⟩) (by first | (rw [add_block];exact hn605_2) | (show (Addr.add _ _).block ≠ _;rw [add_block];exact hn605_2) | exact hn605_2) (.int .i64 0)).trans hx605_0;replace hx605_0 := (cell_far (p := ⟨gb604,3,none⟩) (by first | (rw [add_block];exact hn605_3) | (show (Addr.add _ _).block ≠ _;rw [add_block];exact hn605_3) | exact hn605_3) (.string (⟨#[]⟩ : ByteArray))).trans hx605_0;clear hn605_0;clear hn605_1;clear hn605_2;clear hn605_3;replace p605 := eq_true p605;replace q605 := eq_true q605;have hcz21_0 : w18.cell? ⟨gb603,0,none⟩ = some (.int .i64 0) := (blk_cell BK603.out 0).trans rfl;have hcz21_1 : w18.cell? ⟨gb603,1,none⟩ = some (.bool false) := (blk_cell BK603.out 1).trans rfl;have hcz21_2 : w18.cell? ⟨gb603,2,none⟩ = some (.int .i64 0) := (blk_cell BK603.out 2).trans rfl;have hcz21_3 : w18.cell? ⟨gb603,3,none⟩ = some (.string (⟨#[]⟩ : ByteArray)) := (blk_cell BK603.out 3).trans rfl;have hfz21_0 := blk_frozen BK603.out 0;have hfz21_1 := blk_frozen BK603.out 1;have hfz21_2 := blk_frozen BK603.out 2;have hfz21_3 := blk_frozen BK603.out 3))
            refine bodyPost_ret (results_ctt rfl _ _ gb603 50 #[.int .i64 0,.bool false,.int .i64 0,.string (⟨#[]⟩ : ByteArray)] (0,0) _ rfl (by (with_reducible repeat (first | refine blk_drewN ?_ _ | refine blk_drew ?_ | refine blk_alloc ?_ _));refine blk_put (cs := #[.int .i64 0,.bool false,.int .i64 0,.string (⟨#[]⟩ : ByteArray)]) ?_ 3 _ rfl;(with_reducible repeat (first | refine blk_drewN ?_ _ | refine blk_drew ?_ | refine blk_alloc ?_ _));refine blk_put (cs := #[.int .i64 0,.bool false,.int .i64 0,.string (⟨#[]⟩ : ByteArray)]) ?_ 2 _ rfl;(with_reducible repeat (first | refine blk_drewN ?_ _ | refine blk_drew ?_ | refine blk_alloc ?_ _));refine blk_put (cs := #[.int .i64 0,.bool false,.int .i64 0,.string (⟨#[]⟩ : ByteArray)]) ?_ 1 _ rfl;(with_reducible repeat (first | refine blk_drewN ?_ _ | refine blk_drew ?_ | refine blk_alloc ?_ _));refine blk_put (cs := #[.int .i64 0,.bool false,.int .i64 0,.string (⟨#[]⟩ : ByteArray)]) ?_ 0 _ rfl;(with_reducible repeat (first | refine blk_drewN ?_ _ | refine blk_drew ?_ | refine blk_alloc ?_ _));refine blk_far ?_ NB603_604.out _;(with_reducible repeat (first | refine blk_drewN ?_ _ | refine blk_drew ?_ | refine blk_alloc ?_ _));refine blk_far ?_ NB603_604.out _;(with_reducible repeat (first | refine blk_drewN ?_ _ | refine blk_drew ?_ | refine blk_alloc ?_ _));refine blk_far ?_ NB603_604.out _;(with_reducible repeat (first | refine blk_drewN ?_ _ | refine blk_drew ?_ | refine blk_alloc ?_ _));refine blk_far ?_ NB603_604.out _;(with_reducible repeat (first | refine blk_drewN ?_ _ | refine blk_drew ?_ | refine blk_alloc ?_ _));exact BK603.out) Try.underlying50 rfl (by kernel_rfl)) rfl ?_
            exact ⟨by first | rfl | (simp [errW_none,errW_some] <;> rfl) | (simp [*,errW_none,errW_some] <;> rfl),by repeat (first | (with_reducible first | exact HB.out | apply below_alloc | apply pw_below_drewN | apply below_drew1 | refine below_set ?_ GE603.out | refine below_set ?_ GE604.out) | exact HB.out)⟩
          · rw [if_neg c16] at H
            have c16b0 : decide ((l0.length : Int) < 2) = false := decide_eq_false c16
            have c16b1 : decide (l0.length < 2) = false := decide_eq_false (by omega)
            clear c16
            by_cases c22 : 1 < (l0.length : Int)
            · rw [if_pos c22] at H
              have c22b0 : decide (1 < (l0.length : Int)) = true := decide_eq_true c22
              have c22b1 : decide (1 < l0.length) = true := decide_eq_true (by omega)
              clear c22
              by_cases c23 : (rd l0 1) > 1
              · rw [if_pos c23] at H
                have c23b0 : decide (1 < (rd l0 1)) = true := decide_eq_true c23
                clear c23
                simp only [Option.some.injEq,Prod.mk.injEq] at H
                obtain ⟨rfl,rfl,rfl,rfl,rfl,rfl⟩ := H
                go_enter Try.func38,Try.ntmps38
                go_wp2_with (first | ((with_reducible refine gate_dst (N := 2) rfl ?_);refine box_event ?hg (N := 2) ?hd (cs := #[.int .i64 0,.bool false,.int .i64 0,.string (⟨#[]⟩ : ByteArray)]) (t := 50) ?hr ?_;(case hd => rfl);(case hg => rfl);(case hr => first | (go_simp;done) | (go_simp;rfl));intro gb603 hg w24 hbox hb;have n0_ := Aside0.mk (below_step (by repeat (first | (with_reducible first | exact HB.out | apply below_alloc | apply pw_below_drewN | apply below_drew1) | exact HB.out)) hb);have n1_ := Aside0.mk (hbox);have n2_ := Aside0.mk ((by rw [hg];exact (below_size (by repeat (first | (with_reducible first | exact HB.out | apply below_alloc | apply pw_below_drewN | apply below_drew1) | exact HB.out))) : w.heap.size ≤ gb603));have n3_ := Aside0.mk ((by rw [hg];exact (below_size (by repeat (first | (with_reducible first | exact HB.out | apply below_alloc | apply pw_below_drewN | apply below_drew1) | exact HB.out))) : w.heap.size ≤ gb603));clear HB;have HB := n0_;have BK603 := n1_;have GW603 := n2_;have GE603 := n3_;clear n0_ n1_ n2_ n3_;clear hb hbox hg) | ((with_reducible refine gate_dst (N := 5) rfl ?_);refine box_event ?hg (N := 5) ?hd (cs := #[.int .i64 0,.bool false,.int .i64 0,.string (⟨#[]⟩ : ByteArray)]) (t := 50) ?hr ?_;(case hd => rfl);(case hg => rfl);(case hr => first | (go_simp;done) | (go_simp;rfl));intro gb604 hg w25 hbox hb;have n0_ := Aside0.mk (blk_below (g := gb603) (o := .cells #[.int .i64 0,.bool false,.int .i64 0,.string (⟨#[]⟩ : ByteArray)] 50 (0,0)) (by (with_reducible repeat (first | refine blk_drewN ?_ _ | refine blk_drew ?_ | refine blk_alloc ?_ _));exact BK603.out) hb);have n1_ := Aside0.mk (below_step (by repeat (first | (with_reducible first | exact HB.out | apply below_alloc | apply pw_below_drewN | apply below_drew1 | refine below_set ?_ GE603.out) | exact HB.out)) hb);have n2_ := Aside0.mk (hbox);have n3_ := Aside0.mk ((by rw [hg];exact (below_size (by repeat (first | (with_reducible first | exact HB.out | apply below_alloc | apply pw_below_drewN | apply below_drew1 | refine below_set ?_ GE603.out) | exact HB.out))) : w.heap.size ≤ gb604));have n4_ := Aside0.mk ((by rw [hg];exact (below_size (by repeat (first | (with_reducible first | exact HB.out | apply below_alloc | apply pw_below_drewN | apply below_drew1 | refine below_set ?_ GE603.out) | exact HB.out))) : w.heap.size ≤ gb604));have n5_ := Aside0.mk ((by rw [hg];exact Nat.ne_of_lt (blk_lt (g := gb603) (o := .cells #[.int .i64 0,.bool false,.int .i64 0,.string (⟨#[]⟩ : ByteArray)] 50 (0,0)) (by (with_reducible repeat (first | refine blk_drewN ?_ _ | refine blk_drew ?_ | refine blk_alloc ?_ _));exact BK603.out)) : gb603 ≠ gb604));have n6_ := Aside0.mk ((by rw [hg];exact Nat.ne_of_gt (blk_lt (g := gb603) (o := .cells #[.int .i64 0,.bool false,.int .i64 0,.string (⟨#[]⟩ : ByteArray)] 50 (0,0)) (by (with_reducible repeat (first | refine blk_drewN ?_ _ | refine blk_drew ?_ | refine blk_alloc ?_ _));exact BK603.out)) : gb604 ≠ gb603));clear BK603;clear HB;have BK603 := n0_;have HB := n1_;have BK604 := n2_;have GW604 := n3_;have GE604 := n4_;have NB603_604 := n5_;have NB604_603 := n6_;clear n0_ n1_ n2_ n3_ n4_ n5_ n6_;clear hb hbox hg;have hnb26 := NB604_603.out;have hnc26 := NB603_604.out;have hcz27_0 : w25.cell? ⟨gb604,0,none⟩ = some (.int .i64 0) := (blk_cell BK604.out 0).trans rfl;have hcz27_1 : w25.cell? ⟨gb604,1,none⟩ = some (.bool false) := (blk_cell BK604.out 1).trans rfl;have hcz27_2 : w25.cell? ⟨gb604,2,none⟩ = some (.int .i64 0) := (blk_cell BK604.out 2).trans rfl;have hcz27_3 : w25.cell? ⟨gb604,3,none⟩ = some (.string (⟨#[]⟩ : ByteArray)) := (blk_cell BK604.out 3).trans rfl;have hfz27_0 := blk_frozen BK604.out 0;have hfz27_1 := blk_frozen BK604.out 1;have hfz27_2 := blk_frozen BK604.out 2;have hfz27_3 := blk_frozen BK604.out 3;have p605 : 0 ≤ (0 : Int) := (by omega);have q605 : 0 < (l0.length : Int) := of_decide_eq_true (by first | (with_reducible assumption) | assumption);obtain ⟨ad605,e605,hx605_0⟩ := Kd.at_int HR0.out 0 p605 q605;cases e605;have qi605 : (0 < l0.length) = True := eq_true (by omega);(try rw [show ((0 : Int)).toNat = 0 from rfl] at hx605_0);(try rw [Addr.add_zero'] at hx605_0);have hn605_0 : ad605.block ≠ gb604 := Nat.ne_of_lt (Nat.lt_of_lt_of_le (by have := World.block_lt_of_cell? _ _ hx605_0;first | rwa [add_block] at this | exact this) GW604.out);have hn605_1 : ad605.block ≠ gb604 := Nat.ne_of_lt (Nat.lt_of_lt_of_le (by have := World.block_lt_of_cell? _ _ hx605_0;first | rwa [add_block] at this | exact this) GW604.out);have hn605_2 : ad605.block ≠ gb604 := Nat.ne_of_lt (Nat.lt_of_lt_of_le (by have := World.block_lt_of_cell? _ _ hx605_0;first | rwa [add_block] at this | exact this) GW604.out);have hn605_3 : ad605.block ≠ gb604 := Nat.ne_of_lt (Nat.lt_of_lt_of_le (by have := World.block_lt_of_cell? _ _ hx605_0;first | rwa [add_block] at this | exact this) GW604.out);replace hx605_0 := (HB.out.cell (World.block_lt_of_cell? w _ hx605_0)).trans hx605_0;replace hx605_0 := (cell_far (p := ⟨gb604,0,none⟩) (by first | (rw [add_block];exact hn605_0) | (show (Addr.add _ _).block ≠ _;rw [add_block];exact hn605_0) | exact hn605_0) (.int .i64 0)).trans hx605_0;replace hx605_0 := (cell_far (p := ⟨gb604,1,none⟩) (by first | (rw [add_block];exact hn605_1) | (show (Addr.add _ _).block ≠ _;rw [add_block];exact hn605_1) | exact hn605_1) (.bool false)).trans hx605_0;replace hx605_0 := (cell_far (p := ⟨gb604,2,none⟩) (by first | (rw [add_block];exact hn605_2) | (show (Addr.add _ _).block ≠ _;rw [add_block];exact hn605_2) | exact hn605_2) (.int .i64 0)).trans hx605_0;replace hx605_0 := (cell_far (p := ⟨gb604,3,none⟩) (by first | (rw [add_block];exact hn605_3) | (show (Addr.add _ _).block ≠ _;rw [add_block];exact hn605_3) | exact hn605_3) (.string (⟨#[]⟩ : ByteArray))).trans hx605_0;clear hn605_0;clear hn605_1;clear hn605_2;clear hn605_3;replace p605 := eq_true p605;replace q605 := eq_true q605;have p606 : 0 ≤ (1 : Int) := (by omega);have q606 : 1 < (l0.length : Int) := of_decide_eq_true (by first | (with_reducible assumption) | assumption);obtain ⟨ad606,e606,hx606_0⟩ := Kd.at_int HR0.out 1 p606 q606;obtain rfl : ad605 = ad606 := (by injection e606);(try simp only [show (1 : Int).toNat = 1 from rfl,Nat.reduceMul,Nat.reduceEqDiff,Go.Addr.add,↓reduceIte] at hx606_0);have qi606 : (1 < l0.length) = True := eq_true (by omega);(try rw [show ((1 : Int)).toNat = 1 from rfl] at hx606_0);have hn606_0 : ad605.block ≠ gb604 := Nat.ne_of_lt (Nat.lt_of_lt_of_le (by have := World.block_lt_of_cell? _ _ hx606_0;first | rwa [add_block] at this | exact this) GW604.out);have hn606_1 : ad605.block ≠ gb604 := Nat.ne_of_lt (Nat.lt_of_lt_of_le (by have := World.block_lt_of_cell? _ _ hx606_0;first | rwa [add_block] at this | exact this) GW604.out);have hn606_2 : ad605.block ≠ gb604 := Nat.ne_of_lt (Nat.lt_of_lt_of_le (by have := World.block_lt_of_cell? _ _ hx606_0;first | rwa [add_block] at this | exact this) GW604.out);have hn606_3 : ad605.block ≠ gb604 := Nat.ne_of_lt (Nat.lt_of_lt_of_le (by have := World.block_lt_of_cell? _ _ hx606_0;first | rwa [add_block] at this | exact this) GW604.out);replace hx606_0 := (HB.out.cell (World.block_lt_of_cell? w _ hx606_0)).trans hx606_0;replace hx606_0 := (cell_far (p := ⟨gb604,0,none⟩) (by first | (rw [add_block];exact hn606_0) | (show (Addr.add _ _).block ≠ _;rw [add_block];exact hn606_0) | exact hn606_0) (.int .i64 0)).trans hx606_0;replace hx606_0 := (cell_far (p := ⟨gb604,1,none⟩) (by first | (rw [add_block];exact hn606_1) | (show (Addr.add _ _).block ≠ _;rw [add_block];exact hn606_1) | exact hn606_1) (.bool false)).trans hx606_0;replace hx606_0 := (cell_far (p := ⟨gb604,2,none⟩) (by first | (rw [add_block];exact hn606_2) | (show (Addr.add _ _).block ≠ _;rw [add_block];exact hn606_2) | exact hn606_2) (.int .i64 0)).trans hx606_0;replace hx606_0 := (cell_far (p := ⟨gb604,3,none⟩) (by first | (rw [add_block];exact hn606_3) | (show (Addr.add _ _).block ≠ _;rw [add_block];exact hn606_3) | exact hn606_3) (.string (⟨#[]⟩ : ByteArray))).trans hx606_0;clear hn606_0;clear hn606_1;clear hn606_2;clear hn606_3;replace p606 := eq_true p606;replace q606 := eq_true q606;have hcz28_0 : w25.cell? ⟨gb603,0,none⟩ = some (.int .i64 0) := (blk_cell BK603.out 0).trans rfl;have hcz28_1 : w25.cell? ⟨gb603,1,none⟩ = some (.bool false) := (blk_cell BK603.out 1).trans rfl;have hcz28_2 : w25.cell? ⟨gb603,2,none⟩ = some (.int .i64 0) := (blk_cell BK603.out 2).trans rfl;have hcz28_3 : w25.cell? ⟨gb603,3,none⟩ = some (.string (⟨#[]⟩ : ByteArray)) := (blk_cell BK603.out 3).trans rfl;have hfz28_0 := blk_frozen BK603.out 0;have hfz28_1 := blk_frozen BK603.out 1;have hfz28_2 := blk_frozen BK603.out 2;have hfz28_3 := blk_frozen BK603.out 3))
                refine bodyPost_ret (results_ctt rfl _ _ gb603 50 #[.int .i64 0,.bool false,.int .i64 0,.string (⟨#[]⟩ : ByteArray)] (0,0) _ rfl (by (with_reducible repeat (first | refine blk_drewN ?_ _ | refine blk_drew ?_ | refine blk_alloc ?_ _));refine blk_put (cs := #[.int .i64 0,.bool false,.int .i64 0,.string (⟨#[]⟩ : ByteArray)]) ?_ 3 _ rfl;(with_reducible repeat (first | refine blk_drewN ?_ _ | refine blk_drew ?_ | refine blk_alloc ?_ _));refine blk_put (cs := #[.int .i64 0,.bool false,.int .i64 0,.string (⟨#[]⟩ : ByteArray)]) ?_ 2 _ rfl;(with_reducible repeat (first | refine blk_drewN ?_ _ | refine blk_drew ?_ | refine blk_alloc ?_ _));refine blk_put (cs := #[.int .i64 0,.bool false,.int .i64 0,.string (⟨#[]⟩ : ByteArray)]) ?_ 1 _ rfl;(with_reducible repeat (first | refine blk_drewN ?_ _ | refine blk_drew ?_ | refine blk_alloc ?_ _));refine blk_put (cs := #[.int .i64 0,.bool false,.int .i64 0,.string (⟨#[]⟩ : ByteArray)]) ?_ 0 _ rfl;(with_reducible repeat (first | refine blk_drewN ?_ _ | refine blk_drew ?_ | refine blk_alloc ?_ _));refine blk_far ?_ NB603_604.out _;(with_reducible repeat (first | refine blk_drewN ?_ _ | refine blk_drew ?_ | refine blk_alloc ?_ _));refine blk_far ?_ NB603_604.out _;(with_reducible repeat (first | refine blk_drewN ?_ _ | refine blk_drew ?_ | refine blk_alloc ?_ _));refine blk_far ?_ NB603_604.out _;(with_reducible repeat (first | refine blk_drewN ?_ _ | refine blk_drew ?_ | refine blk_alloc ?_ _));refine blk_far ?_ NB603_604.out _;(with_reducible repeat (first | refine blk_drewN ?_ _ | refine blk_drew ?_ | refine blk_alloc ?_ _));exact BK603.out) Try.underlying50 rfl (by kernel_rfl)) rfl ?_
                exact ⟨by first | rfl | (simp [errW_none,errW_some] <;> rfl) | (simp [*,errW_none,errW_some] <;> rfl),by repeat (first | (with_reducible first | exact HB.out | apply below_alloc | apply pw_below_drewN | apply below_drew1 | refine below_set ?_ GE603.out | refine below_set ?_ GE604.out) | exact HB.out)⟩
              · rw [if_neg c23] at H
                have c23b0 : decide (1 < (rd l0 1)) = false := decide_eq_false c23
                clear c23
                simp only [Option.some.injEq,Prod.mk.injEq] at H
                obtain ⟨rfl,rfl,rfl,rfl,rfl,rfl⟩ := H
                go_enter Try.func38,Try.ntmps38
                go_wp2_with (first | ((with_reducible refine gate_dst (N := 2) rfl ?_);refine box_event ?hg (N := 2) ?hd (cs := #[.int .i64 0,.bool false,.int .i64 0,.string (⟨#[]⟩ : ByteArray)]) (t := 50) ?hr ?_;(case hd => rfl);(case hg => rfl);(case hr => first | (go_simp;done) | (go_simp;rfl));intro gb603 hg w29 hbox hb;have n0_ := Aside0.mk (below_step (by repeat (first | (with_reducible first | exact HB.out | apply below_alloc | apply pw_below_drewN | apply below_drew1) | exact HB.out)) hb);have n1_ := Aside0.mk (hbox);have n2_ := Aside0.mk ((by rw [hg];exact (below_size (by repeat (first | (with_reducible first | exact HB.out | apply below_alloc | apply pw_below_drewN | apply below_drew1) | exact HB.out))) : w.heap.size ≤ gb603));have n3_ := Aside0.mk ((by rw [hg];exact (below_size (by repeat (first | (with_reducible first | exact HB.out | apply below_alloc | apply pw_below_drewN | apply below_drew1) | exact HB.out))) : w.heap.size ≤ gb603));clear HB;have HB := n0_;have BK603 := n1_;have GW603 := n2_;have GE603 := n3_;clear n0_ n1_ n2_ n3_;clear hb hbox hg) | ((with_reducible refine gate_dst (N := 5) rfl ?_);refine box_event ?hg (N := 5) ?hd (cs := #[.int .i64 0,.bool false,.int .i64 0,.string (⟨#[]⟩ : ByteArray)]) (t := 50) ?hr ?_;(case hd => rfl);(case hg => rfl);(case hr => first | (go_simp;done) | (go_simp;rfl));intro gb604 hg w30 hbox hb;have n0_ := Aside0.mk (blk_below (g := gb603) (o := .cells #[.int .i64 0,.bool false,.int .i64 0,.string (⟨#[]⟩ : ByteArray)] 50 (0,0)) (by (with_reducible repeat (first | refine blk_drewN ?_ _ | refine blk_drew ?_ | refine blk_alloc ?_ _));exact BK603.out) hb);have n1_ := Aside0.mk (below_step (by repeat (first | (with_reducible first | exact HB.out | apply below_alloc | apply pw_below_drewN | apply below_drew1 | refine below_set ?_ GE603.out) | exact HB.out)) hb);have n2_ := Aside0.mk (hbox);have n3_ := Aside0.mk ((by rw [hg];exact (below_size (by repeat (first | (with_reducible first | exact HB.out | apply below_alloc | apply pw_below_drewN | apply below_drew1 | refine below_set ?_ GE603.out) | exact HB.out))) : w.heap.size ≤ gb604));have n4_ := Aside0.mk ((by rw [hg];exact (below_size (by repeat (first | (with_reducible first | exact HB.out | apply below_alloc | apply pw_below_drewN | apply below_drew1 | refine below_set ?_ GE603.out) | exact HB.out))) : w.heap.size ≤ gb604));have n5_ := Aside0.mk ((by rw [hg];exact Nat.ne_of_lt (blk_lt (g := gb603) (o := .cells #[.int .i64 0,.bool false,.int .i64 0,.string (⟨#[]⟩ : ByteArray)] 50 (0,0)) (by (with_reducible repeat (first | refine blk_drewN ?_ _ | refine blk_drew ?_ | refine blk_alloc ?_ _));exact BK603.out)) : gb603 ≠ gb604));have n6_ := Aside0.mk ((by rw [hg];exact Nat.ne_of_gt (blk_lt (g := gb603) (o := .cells #[.int .i64 0,.bool false,.int .i64 0,.string (⟨#[]⟩ : ByteArray)] 50 (0,0)) (by (with_reducible repeat (first | refine blk_drewN ?_ _ | refine blk_drew ?_ | refine blk_alloc ?_ _));exact BK603.out)) : gb604 ≠ gb603));clear BK603;clear HB;have BK603 := n0_;have HB := n1_;have BK604 := n2_;have GW604 := n3_;have GE604 := n4_;have NB603_604 := n5_;have NB604_603 := n6_;clear n0_ n1_ n2_ n3_ n4_ n5_ n6_;clear hb hbox hg;have hnb31 := NB604_603.out;have hnc31 := NB603_604.out;have hcz32_0 : w30.cell? ⟨gb604,0,none⟩ = some (.int .i64 0) := (blk_cell BK604.out 0).trans rfl;have hcz32_1 : w30.cell? ⟨gb604,1,none⟩ = some (.bool false) := (blk_cell BK604.out 1).trans rfl;have hcz32_2 : w30.cell? ⟨gb604,2,none⟩ = some (.int .i64 0) := (blk_cell BK604.out 2).trans rfl;have hcz32_3 : w30.cell? ⟨gb604,3,none⟩ = some (.string (⟨#[]⟩ : ByteArray)) := (blk_cell BK604.out 3).trans rfl;have hfz32_0 := blk_frozen BK604.out 0;have hfz32_1 := blk_frozen BK604.out 1;have hfz32_2 := blk_frozen BK604.out 2;have hfz32_3 := blk_frozen BK604.out 3;have p605 : 0 ≤ (0 : Int) := (by omega);have q605 : 0 < (l0.length : Int) := of_decide_eq_true (by first | (with_reducible assumption) | assumption);obtain ⟨ad605,e605,hx605_0⟩ := Kd.at_int HR0.out 0 p605 q605;cases e605;have qi605 : (0 < l0.length) = True := eq_true (by omega);(try rw [show ((0 : Int)).toNat = 0 from rfl] at hx605_0);(try rw [Addr.add_zero'] at hx605_0);have hn605_0 : ad605.block ≠ gb604 := Nat.ne_of_lt (Nat.lt_of_lt_of_le (by have := World.block_lt_of_cell? _ _ hx605_0;first | rwa [add_block] at this | exact this) GW604.out);have hn605_1 : ad605.block ≠ gb604 := Nat.ne_of_lt (Nat.lt_of_lt_of_le (by have := World.block_lt_of_cell? _ _ hx605_0;first | rwa [add_block] at this | exact this) GW604.out);have hn605_2 : ad605.block ≠ gb604 := Nat.ne_of_lt (Nat.lt_of_lt_of_le (by have := World.block_lt_of_cell? _ _ hx605_0;first | rwa [add_block] at this | exact this) GW604.out);have hn605_3 : ad605.block ≠ gb604 := Nat.ne_of_lt (Nat.lt_of_lt_of_le (by have := World.block_lt_of_cell? _ _ hx605_0;first | rwa [add_block] at this | exact this) GW604.out);replace hx605_0 := (HB.out.cell (World.block_lt_of_cell? w _ hx605_0)).trans hx605_0;replace hx605_0 := (cell_far (p := ⟨gb604,0,none⟩) (by first | (rw [add_block];exact hn605_0) | (show (Addr.add _ _).block ≠ _;rw [add_block];exact hn605_0) | exact hn605_0) (.int .i64 0)).trans hx605_0;replace hx605_0 := (cell_far (p := ⟨gb604,1,none⟩) (by first | (rw [add_block];exact hn605_1) | (show (Addr.add _ _).block ≠ _;rw [add_block];exact hn605_1) | exact hn605_1) (.bool false)).trans hx605_0;replace hx605_0 := (cell_far (p := ⟨gb604,2,none⟩) (by first | (rw [add_block];exact hn605_2) | (show (Addr.add _ _).block ≠ _;rw [add_block];exact hn605_2) | exact hn605_2) (.int .i64 0)).trans hx605_0;replace hx605_0 := (cell_far (p := ⟨gb604,3,none⟩) (by first | (rw [add_block];exact hn605_3) | (show (Addr.add _ _).block ≠ _;rw [add_block];exact hn605_3) | exact hn605_3) (.string (⟨#[]⟩ : ByteArray))).trans hx605_0;clear hn605_0;clear hn605_1;clear hn605_2;clear hn605_3;replace p605 := eq_true p605;replace q605 := eq_true q605;have p606 : 0 ≤ (1 : Int) := (by omega);have q606 : 1 < (l0.length : Int) := of_decide_eq_true (by first | (with_reducible assumption) | assumption);obtain ⟨ad606,e606,hx606_0⟩ := Kd.at_int HR0.out 1 p606 q606;obtain rfl : ad605 = ad606 := (by injection e606);(try simp only [show (1 : Int).toNat = 1 from rfl,Nat.reduceMul,Nat.reduceEqDiff,Go.Addr.add,↓reduceIte] at hx606_0);have qi606 : (1 < l0.length) = True := eq_true (by omega);(try rw [show ((1 : Int)).toNat = 1 from rfl] at hx606_0);have hn606_0 : ad605.block ≠ gb604 := Nat.ne_of_lt (Nat.lt_of_lt_of_le (by have := World.block_lt_of_cell? _ _ hx606_0;first | rwa [add_block] at this | exact this) GW604.out);have hn606_1 : ad605.block ≠ gb604 := Nat.ne_of_lt (Nat.lt_of_lt_of_le (by have := World.block_lt_of_cell? _ _ hx606_0;first | rwa [add_block] at this | exact this) GW604.out);have hn606_2 : ad605.block ≠ gb604 := Nat.ne_of_lt (Nat.lt_of_lt_of_le (by have := World.block_lt_of_cell? _ _ hx606_0;first | rwa [add_block] at this | exact this) GW604.out);have hn606_3 : ad605.block ≠ gb604 := Nat.ne_of_lt (Nat.lt_of_lt_of_le (by have := World.block_lt_of_cell? _ _ hx606_0;first | rwa [add_block] at this | exact this) GW604.out);replace hx606_0 := (HB.out.cell (World.block_lt_of_cell? w _ hx606_0)).trans hx606_0;replace hx606_0 := (cell_far (p := ⟨gb604,0,none⟩) (by first | (rw [add_block];exact hn606_0) | (show (Addr.add _ _).block ≠ _;rw [add_block];exact hn606_0) | exact hn606_0) (.int .i64 0)).trans hx606_0;replace hx606_0 := (cell_far (p := ⟨gb604,1,none⟩) (by first | (rw [add_block];exact hn606_1) | (show (Addr.add _ _).block ≠ _;rw [add_block];exact hn606_1) | exact hn606_1) (.bool false)).trans hx606_0;replace hx606_0 := (cell_far (p := ⟨gb604,2,none⟩) (by first | (rw [add_block];exact hn606_2) | (show (Addr.add _ _).block ≠ _;rw [add_block];exact hn606_2) | exact hn606_2) (.int .i64 0)).trans hx606_0;replace hx606_0 := (cell_far (p := ⟨gb604,3,none⟩) (by first | (rw [add_block];exact hn606_3) | (show (Addr.add _ _).block ≠ _;rw [add_block];exact hn606_3) | exact hn606_3) (.string (⟨#[]⟩ : ByteArray))).trans hx606_0;clear hn606_0;clear hn606_1;clear hn606_2;clear hn606_3;replace p606 := eq_true p606;replace q606 := eq_true q606;have p607 : 0 ≤ (1 : Int) := (by omega);have q607 : 1 < (l0.length : Int) := of_decide_eq_true (by first | (with_reducible assumption) | assumption);obtain ⟨ad607,e607,hx607_0⟩ := Kd.at_int HR0.out 1 p607 q607;obtain rfl : ad605 = ad607 := (by injection e607);(try simp only [show (1 : Int).toNat = 1 from rfl,Nat.reduceMul,Nat.reduceEqDiff,Go.Addr.add,↓reduceIte] at hx607_0);have qi607 : (1 < l0.length) = True := eq_true (by omega);(try rw [show ((1 : Int)).toNat = 1 from rfl] at hx607_0);have hn607_0 : ad605.block ≠ gb604 := Nat.ne_of_lt (Nat.lt_of_lt_of_le (by have := World.block_lt_of_cell? _ _ hx607_0;first | rwa [add_block] at this | exact this) GW604.out);have hn607_1 : ad605.block ≠ gb604 := Nat.ne_of_lt (Nat.lt_of_lt_of_le (by have := World.block_lt_of_cell? _ _ hx607_0;first | rwa [add_block] at this | exact this) GW604.out);have hn607_2 : ad605.block ≠ gb604 := Nat.ne_of_lt (Nat.lt_of_lt_of_le (by have := World.block_lt_of_cell? _ _ hx607_0;first | rwa [add_block] at this | exact this) GW604.out);have hn607_3 : ad605.block ≠ gb604 := Nat.ne_of_lt (Nat.lt_of_lt_of_le (by have := World.block_lt_of_cell? _ _ hx607_0;first | rwa [add_block] at this | exact this) GW604.out);replace hx607_0 := (HB.out.cell (World.block_lt_of_cell? w _ hx607_0)).trans hx607_0;replace hx607_0 := (cell_far (p := ⟨gb604,0,none⟩) (by first | (rw [add_block];exact hn607_0) | (show (Addr.add _ _).block ≠ _;rw [add_block];exact hn607_0) | exact hn607_0) (.int .i64 0)).trans hx607_0;replace hx607_0 := (cell_far (p := ⟨gb604,1,none⟩) (by first | (rw [add_block];exact hn607_1) | (show (Addr.add _ _).block ≠ _;rw [add_block];exact hn607_1) | exact hn607_1) (.bool false)).trans hx607_0;replace hx607_0 := (cell_far (p := ⟨gb604,2,none⟩) (by first | (rw [add_block];exact hn607_2) | (show (Addr.add _ _).block ≠ _;rw [add_block];exact hn607_2) | exact hn607_2) (.int .i64 0)).trans hx607_0;replace hx607_0 := (cell_far (p := ⟨gb604,3,none⟩) (by first | (rw [add_block];exact hn607_3) | (show (Addr.add _ _).block ≠ _;rw [add_block];exact hn607_3) | exact hn607_3) (.string (⟨#[]⟩ : ByteArray))).trans hx607_0;clear hn607_0;clear hn607_1;clear hn607_2;clear hn607_3;replace p607 := eq_true p607;replace q607 := eq_true q607;have hcz33_0 : w30.cell? ⟨gb603,0,none⟩ = some (.int .i64 0) := (blk_cell BK603.out 0).trans rfl;have hcz33_1 : w30.cell? ⟨gb603,1,none⟩ = some (.bool false) := (blk_cell BK603.out 1).trans rfl;have hcz33_2 : w30.cell? ⟨gb603,2,none⟩ = some (.int .i64 0) := (blk_cell BK603.out 2).trans rfl;have hcz33_3 : w30.cell? ⟨gb603,3,none⟩ = some (.string (⟨#[]⟩ : ByteArray)) := (blk_cell BK603.out 3).trans rfl;have hfz33_0 := blk_frozen BK603.out 0;have hfz33_1 := blk_frozen BK603.out 1;have hfz33_2 := blk_frozen BK603.out 2;have hfz33_3 := blk_frozen BK603.out 3))
                refine bodyPost_ret (results_ctt rfl _ _ gb603 50 #[.int .i64 1,.bool ((rd l0 1) == 1),.int .i64 0,.string (⟨#[]⟩ : ByteArray)] (0,0) _ rfl (by (with_reducible repeat (first | refine blk_drewN ?_ _ | refine blk_drew ?_ | refine blk_alloc ?_ _));refine blk_put (cs := #[.int .i64 1,.bool ((rd l0 1) == 1),.int .i64 0,.string (⟨#[]⟩ : ByteArray)]) ?_ 3 _ rfl;(with_reducible repeat (first | refine blk_drewN ?_ _ | refine blk_drew ?_ | refine blk_alloc ?_ _));refine blk_put (cs := #[.int .i64 1,.bool ((rd l0 1) == 1),.int .i64 0,.string (⟨#[]⟩ : ByteArray)]) ?_ 2 _ rfl;(with_reducible repeat (first | refine blk_drewN ?_ _ | refine blk_drew ?_ | refine blk_alloc ?_ _));refine blk_put (cs := #[.int .i64 1,.bool false,.int .i64 0,.string (⟨#[]⟩ : ByteArray)]) ?_ 1 _ rfl;(with_reducible repeat (first | refine blk_drewN ?_ _ | refine blk_drew ?_ | refine blk_alloc ?_ _));refine blk_put (cs := #[.int .i64 0,.bool false,.int .i64 0,.string (⟨#[]⟩ : ByteArray)]) ?_ 0 _ rfl;(with_reducible repeat (first | refine blk_drewN ?_ _ | refine blk_drew ?_ | refine blk_alloc ?_ _));refine blk_far ?_ NB603_604.out _;(with_reducible repeat (first | refine blk_drewN ?_ _ | refine blk_drew ?_ | refine blk_alloc ?_ _));refine blk_far ?_ NB603_604.out _;(with_reducible repeat (first | refine blk_drewN ?_ _ | refine blk_drew ?_ | refine blk_alloc ?_ _));refine blk_far ?_ NB603_604.out _;(with_reducible repeat (first | refine blk_drewN ?_ _ | refine blk_drew ?_ | refine blk_alloc ?_ _));refine blk_far ?_ NB603_604.out _;(with_reducible repeat (first | refine blk_drewN ?_ _ | refine blk_drew ?_ | refine blk_alloc ?_ _));exact BK603.out) Try.underlying50 rfl (by kernel_rfl)) rfl ?_
                exact ⟨by first | rfl | (simp [errW_none,errW_some] <;> rfl) | (simp [*,errW_none,errW_some] <;> rfl),by repeat (first | (with_reducible first | exact HB.out | apply below_alloc | apply pw_below_drewN | apply below_drew1 | refine below_set ?_ GE603.out | refine below_set ?_ GE604.out) | exact HB.out)⟩
            · rw [if_neg c22] at H
              exact absurd H (by simp)
        · rw [if_neg c15] at H
          have c15b0 : ((rd l0 0) == 2) = false := beq_eq_false_iff_ne.mpr c15
          have c15b1 : ((rd l0 0) != 2) = true := bne_iff_ne.mpr c15
          by_cases c34 : (rd l0 0) = 3
          · rw [if_pos c34] at H
            have c34b0 : ((rd l0 0) == 3) = true := beq_iff_eq.mpr c34
            have c34b1 : ((rd l0 0) != 3) = false := bne_eq_false_iff_eq.mpr c34
            clear c34
            by_cases c35 : (l0.length : Int) < 9
            · rw [if_pos c35] at H
              have c35b0 : decide ((l0.length : Int) < 9) = true := decide_eq_true c35
              have c35b1 : decide (l0.length < 9) = true := decide_eq_true (by omega)
              clear c35
              simp only [Option.some.injEq,Prod.mk.injEq] at H
              obtain ⟨rfl,rfl,rfl,rfl,rfl,rfl⟩ := H
              go_enter Try.func38,Try.ntmps38
              go_wp2_with (first | ((with_reducible refine gate_dst (N := 2) rfl ?_);refine box_event ?hg (N := 2) ?hd (cs := #[.int .i64 0,.bool false,.int .i64 0,.string (⟨#[]⟩ : ByteArray)]) (t := 50) ?hr ?_;(case hd => rfl);(case hg => rfl);(case hr => first | (go_simp;done) | (go_simp;rfl));intro gb603 hg w36 hbox hb;have n0_ := Aside0.mk (below_step (by repeat (first | (with_reducible first | exact HB.out | apply below_alloc | apply pw_below_drewN | apply below_drew1) | exact HB.out)) hb);have n1_ := Aside0.mk (hbox);have n2_ := Aside0.mk ((by rw [hg];exact (below_size (by repeat (first | (with_reducible first | exact HB.out | apply below_alloc | apply pw_below_drewN | apply below_drew1) | exact HB.out))) : w.heap.size ≤ gb603));have n3_ := Aside0.mk ((by rw [hg];exact (below_size (by repeat (first | (with_reducible first | exact HB.out | apply below_alloc | apply pw_below_drewN | apply below_drew1) | exact HB.out))) : w.heap.size ≤ gb603));clear HB;have HB := n0_;have BK603 := n1_;have GW603 := n2_;have GE603 := n3_;clear n0_ n1_ n2_ n3_;clear hb hbox hg) | ((with_reducible refine gate_dst (N := 5) rfl ?_);refine box_event ?hg (N := 5) ?hd (cs := #[.int .i64 0,.bool false,.int .i64 0,.string (⟨#[]⟩ : ByteArray)]) (t := 50) ?hr ?_;(case hd => rfl);(case hg => rfl);(case hr => first | (go_simp;done) | (go_simp;rfl));intro gb604 hg w37 hbox hb;have n0_ := Aside0.mk (blk_below (g := gb603) (o := .cells #[.int .i64 0,.bool false,.int .i64 0,.string (⟨#[]⟩ : ByteArray)] 50 (0,0)) (by (with_reducible repeat (first | refine blk_drewN ?_ _ | refine blk_drew ?_ | refine blk_alloc ?_ _));exact BK603.out) hb);have n1_ := Aside0.mk (below_step (by repeat (first | (with_reducible first | exact HB.out | apply below_alloc | apply pw_below_drewN | apply below_drew1 | refine below_set ?_ GE603.out) | exact HB.out)) hb);have n2_ := Aside0.mk (hbox);have n3_ := Aside0.mk ((by rw [hg];exact (below_size (by repeat (first | (with_reducible first | exact HB.out | apply below_alloc | apply pw_below_drewN | apply below_drew1 | refine below_set ?_ GE603.out) | exact HB.out))) : w.heap.size ≤ gb604));have n4_ := Aside0.mk ((by rw [hg];exact (below_size (by repeat (first | (with_reducible first | exact HB.out | apply below_alloc | apply pw_below_drewN | apply below_drew1 | refine below_set ?_ GE603.out) | exact HB.out))) : w.heap.size ≤ gb604));have n5_ := Aside0.mk ((by rw [hg];exact Nat.ne_of_lt (blk_lt (g := gb603) (o := .cells #[.int .i64 0,.bool false,.int .i64 0,.string (⟨#[]⟩ : ByteArray)] 50 (0,0)) (by (with_reducible repeat (first | refine blk_drewN ?_ _ | refine blk_drew ?_ | refine blk_alloc ?_ _));exact BK603.out)) : gb603 ≠ gb604));have n6_ := Aside0.mk ((by rw [hg];exact Nat.ne_of_gt (blk_lt (g := gb603) (o := .cells #[.int .i64 0,.bool false,.int .i64 0,.string (⟨#[]⟩ : ByteArray)] 50 (0,0)) (by (with_reducible repeat (first | refine blk_drewN ?_ _ | refine blk_drew ?_ | refine blk_alloc ?_ _));exact BK603.out)) : gb604 ≠ gb603));clear BK603;clear HB;have BK603 := n0_;have HB := n1_;have BK604 := n2_;have GW604 := n3_;have GE604 := n4_;have NB603_604 := n5_;have NB604_603 := n6_;clear n0_ n1_ n2_ n3_ n4_ n5_ n6_;clear hb hbox hg;have hnb38 := NB604_603.out;have hnc38 := NB603_604.out;have hcz39_0 : w37.cell? ⟨gb604,0,none⟩ = some (.int .i64 0) := (blk_cell BK604.out 0).trans rfl;have hcz39_1 : w37.cell? ⟨gb604,1,none⟩ = some (.bool false) := (blk_cell BK604.out 1).trans rfl;have hcz39_2 : w37.cell? ⟨gb604,2,none⟩ = some (.int .i64 0) := (blk_cell BK604.out 2).trans rfl;have hcz39_3 : w37.cell? ⟨gb604,3,none⟩ = some (.string (⟨#[]⟩ : ByteArray)) := (blk_cell BK604.out 3).trans rfl;have hfz39_0 := blk_frozen BK604.out 0;have hfz39_1 := blk_frozen BK604.out 1;have hfz39_2 := blk_frozen BK604.out 2;have hfz39_3 := blk_frozen BK604.out 3;have p605 : 0 ≤ (0 : Int) := (by omega);have q605 : 0 < (l0.length : Int) := of_decide_eq_true (by first | (with_reducible assumption) | assumption);obtain ⟨ad605,e605,hx605_0⟩ := Kd.at_int HR0.out 0 p605 q605;cases e605;have qi605 : (0 < l0.length) = True := eq_true (by omega);(try rw [show ((0 : Int)).toNat = 0 from rfl] at hx605_0);(try rw [Addr.add_zero'] at hx605_0);have hn605_0 : ad605.block ≠ gb604 := Nat.ne_of_lt (Nat.lt_of_lt_of_le (by have := World.block_lt_of_cell? _ _ hx605_0;first | rwa [add_block] at this | exact this) GW604.out);have hn605_1 : ad605.block ≠ gb604 := Nat.ne_of_lt (Nat.lt_of_lt_of_le (by have := World.block_lt_of_cell? _ _ hx605_0;first | rwa [add_block] at this | exact this) GW604.out);have hn605_2 : ad605.block ≠ gb604 := Nat.ne_of_lt (Nat.lt_of_lt_of_le (by have := World.block_lt_of_cell? _ _ hx605_0;first | rwa [add_block] at this | exact this) GW604.out);have hn605_3 : ad605.block ≠ gb604 := Nat.ne_of_lt (Nat.lt_of_lt_of_le (by have := World.block_lt_of_cell? _ _ hx605_0;first | rwa [add_block] at this | exact this) GW604.out);replace hx605_0 := (HB.out.cell (World.block_lt_of_cell? w _ hx605_0)).trans hx605_0;replace hx605_0 := (cell_far (p := ⟨gb604,0,none⟩) (by first | (rw [add_block];exact hn605_0) | (show (Addr.add _ _).block ≠ _;rw [add_block];exact hn605_0) | exact hn605_0) (.int .i64 0)).trans hx605_0;replace hx605_0 := (cell_far (p := ⟨gb604,1,none⟩) (by first | (rw [add_block];exact hn605_1) | (show (Addr.add _ _).block ≠ _;rw [add_block];exact hn605_1) | exact hn605_1) (.bool false)).trans hx605_0;replace hx605_0 := (cell_far (p := ⟨gb604,2,none⟩) (by first | (rw [add_block];exact hn605_2) | (show (Addr.add _ _).block ≠ _;rw [add_block];exact hn605_2) | exact hn605_2) (.int .i64 0)).trans hx605_0;replace hx605_0 := (cell_far (p := ⟨gb604,3,none⟩) (by first | (rw [add_block];exact hn605_3) | (show (Addr.add _ _).block ≠ _;rw [add_block];exact hn605_3) | exact hn605_3) (.string (⟨#[]⟩ : ByteArray))).trans hx605_0;clear hn605_0;clear hn605_1;clear hn605_2;clear hn605_3;replace p605 := eq_true p605;replace q605 := eq_true q605;have hcz40_0 : w37.cell? ⟨gb603,0,none⟩ = some (.int .i64 0) := (blk_cell BK603.out 0).trans rfl;have hcz40_1 : w37.cell? ⟨gb603,1,none⟩ = some (.bool false) := (blk_cell BK603.out 1).trans rfl;have hcz40_2 : w37.cell? ⟨gb603,2,none⟩ = some (.int .i64 0) := (blk_cell BK603.out 2).trans rfl;have hcz40_3 : w37.cell? ⟨gb603,3,none⟩ = some (.string (⟨#[]⟩ : ByteArray)) := (blk_cell BK603.out 3).trans rfl;have hfz40_0 := blk_frozen BK603.out 0;have hfz40_1 := blk_frozen BK603.out 1;have hfz40_2 := blk_frozen BK603.out 2;have hfz40_3 := blk_frozen BK603.out 3))
              refine bodyPost_ret (results_ctt rfl _ _ gb603 50 #[.int .i64 0,.bool false,.int .i64 0,.string (⟨#[]⟩ : ByteArray)] (0,0) _ rfl (by (with_reducible repeat (first | refine blk_drewN ?_ _ | refine blk_drew ?_ | refine blk_alloc ?_ _));refine blk_put (cs := #[.int .i64 0,.bool false,.int .i64 0,.string (⟨#[]⟩ : ByteArray)]) ?_ 3 _ rfl;(with_reducible repeat (first | refine blk_drewN ?_ _ | refine blk_drew ?_ | refine blk_alloc ?_ _));refine blk_put (cs := #[.int .i64 0,.bool false,.int .i64 0,.string (⟨#[]⟩ : ByteArray)]) ?_ 2 _ rfl;(with_reducible repeat (first | refine blk_drewN ?_ _ | refine blk_drew ?_ | refine blk_alloc ?_ _));refine blk_put (cs := #[.int .i64 0,.bool false,.int .i64 0,.string (⟨#[]⟩ : ByteArray)]) ?_ 1 _ rfl;(with_reducible repeat (first | refine blk_drewN ?_ _ | refine blk_drew ?_ | refine blk_alloc ?_ _));refine blk_put (cs := #[.int .i64 0,.bool false,.int .i64 0,.string (⟨#[]⟩ : ByteArray)]) ?_ 0 _ rfl;(with_reducible repeat (first | refine blk_drewN ?_ _ | refine blk_drew ?_ | refine blk_alloc ?_ _));refine blk_far ?_ NB603_604.out _;(with_reducible repeat (first | refine blk_drewN ?_ _ | refine blk_drew ?_ | refine blk_alloc ?_ _));refine blk_far ?_ NB603_604.out _;(with_reducible repeat (first | refine blk_drewN ?_ _ | refine blk_drew ?_ | refine blk_alloc ?_ _));refine blk_far ?_ NB603_604.out _;(with_reducible repeat (first | refine blk_drewN ?_ _ | refine blk_drew ?_ | refine blk_alloc ?_ _));refine blk_far ?_ NB603_604.out _;(with_reducible repeat (first | refine blk_drewN ?_ _ | refine blk_drew ?_ | refine blk_alloc ?_ _));exact BK603.out) Try.underlying50 rfl (by kernel_rfl)) rfl ?_
              exact ⟨by first | rfl | (simp [errW_none,errW_some] <;> rfl) | (simp [*,errW_none,errW_some] <;> rfl),by repeat (first | (with_reducible first | exact HB.out | apply below_alloc | apply pw_below_drewN | apply below_drew1 | refine below_set ?_ GE603.out | refine below_set ?_ GE604.out) | exact HB.out)⟩
            · rw [if_neg c35] at H
              have c35b0 : decide ((l0.length : Int) < 9) = false := decide_eq_false c35
              have c35b1 : decide (l0.length < 9) = false := decide_eq_false (by omega)
              clear c35
              have H' := Aside0.mk H
              clear H
              go_enter Try.func38,Try.ntmps38
              go_wp2_with (first | ((with_reducible refine gate_dst (N := 2) rfl ?_);refine box_event ?hg (N := 2) ?hd (cs := #[.int .i64 0,.bool false,.int .i64 0,.string (⟨#[]⟩ : ByteArray)]) (t := 50) ?hr ?_;(case hd => rfl);(case hg => rfl);(case hr => first | (go_simp;done) | (go_simp;rfl));intro gb603 hg w41 hbox hb;have n0_ := Aside0.mk (below_step (by repeat (first | (with_reducible first | exact HB.out | apply below_alloc | apply pw_below_drewN | apply below_drew1) | exact HB.out)) hb);have n1_ := Aside0.mk (hbox);have n2_ := Aside0.mk ((by rw [hg];exact (below_size (by repeat (first | (with_reducible first | exact HB.out | apply below_alloc | apply pw_below_drewN | apply below_drew1) | exact HB.out))) : w.heap.size ≤ gb603));have n3_ := Aside0.mk ((by rw [hg];exact (below_size (by repeat (first | (with_reducible first | exact HB.out | apply below_alloc | apply pw_below_drewN | apply below_drew1) | exact HB.out))) : w.heap.size ≤ gb603));clear HB;have HB := n0_;have BK603 := n1_;have GW603 := n2_;have GE603 := n3_;clear n0_ n1_ n2_ n3_;clear hb hbox hg) | ((with_reducible refine gate_dst (N := 5) rfl ?_);refine box_event ?hg (N := 5) ?hd (cs := #[.int .i64 0,.bool false,.int .i64 0,.string (⟨#[]⟩ : ByteArray)]) (t := 50) ?hr ?_;(case hd => rfl);(case hg => rfl);(case hr => first | (go_simp;done) | (go_simp;rfl));intro gb604 hg w42 hbox hb;have n0_ := Aside0.mk (blk_below (g := gb603) (o := .cells #[.int .i64 0,.bool false,.int .i64 0,.string (⟨#[]⟩ : ByteArray)] 50 (0,0)) (by (with_reducible repeat (first | refine blk_drewN ?_ _ | refine blk_drew ?_ | refine blk_alloc ?_ _));exact BK603.out) hb);have n1_ := Aside0.mk (below_step (by repeat (first | (with_reducible first | exact HB.out | apply below_alloc | apply pw_below_drewN | apply below_drew1 | refine below_set ?_ GE603.out) | exact HB.out)) hb);have n2_ := Aside0.mk (hbox);have n3_ := Aside0.mk ((by rw [hg];exact (below_size (by repeat (first | (with_reducible first | exact HB.out | apply below_alloc | apply pw_below_drewN | apply below_drew1 | refine below_set ?_ GE603.out) | exact HB.out))) : w.heap.size ≤ gb604));have n4_ := Aside0.mk ((by rw [hg];exact (below_size (by repeat (first | (with_reducible first | exact HB.out | apply below_alloc | apply pw_below_drewN | apply below_drew1 | refine below_set ?_ GE603.out) | exact HB.out))) : w.heap.size ≤ gb604));have n5_ := Aside0.mk ((by rw [hg];exact Nat.ne_of_lt (blk_lt (g := gb603) (o := .cells #[.int .i64 0,.bool false,.int .i64 0,.string (⟨#[]⟩ : ByteArray)] 50 (0,0)) (by (with_reducible repeat (first | refine blk_drewN ?_ _ | refine blk_drew ?_ | refine blk_alloc ?_ _));exact BK603.out)) : gb603 ≠ gb604));have n6_ := Aside0.mk ((by rw [hg];exact Nat.ne_of_gt (blk_lt (g := gb603) (o := .cells #[.int .i64 0,.bool false,.int .i64 0,.string (⟨#[]⟩ : ByteArray)] 50 (0,0)) (by (with_reducible repeat (first | refine blk_drewN ?_ _ | refine blk_drew ?_ | refine blk_alloc ?_ _));exact BK603.out)) : gb604 ≠ gb603));clear BK603;clear HB;have BK603 := n0_;have HB := n1_;have BK604 := n2_;have GW604 := n3_;have GE604 := n4_;have NB603_604 := n5_;have NB604_603 := n6_;clear n0_ n1_ n2_ n3_ n4_ n5_ n6_;clear hb hbox hg;have hnb43 := NB604_603.out;have hnc43 := NB603_604.out;have hcz44_0 : w42.cell? ⟨gb604,0,none⟩ = some (.int .i64 0) := (blk_cell BK604.out 0).trans rfl;have hcz44_1 : w42.cell? ⟨gb604,1,none⟩ = some (.bool false) := (blk_cell BK604.out 1).trans rfl;have hcz44_2 : w42.cell? ⟨gb604,2,none⟩ = some (.int .i64 0) := (blk_cell BK604.out 2).trans rfl;have hcz44_3 : w42.cell? ⟨gb604,3,none⟩ = some (.string (⟨#[]⟩ : ByteArray)) := (blk_cell BK604.out 3).trans rfl;have hfz44_0 := blk_frozen BK604.out 0;have hfz44_1 := blk_frozen BK604.out 1;have hfz44_2 := blk_frozen BK604.out 2;have hfz44_3 := blk_frozen BK604.out 3;have p605 : 0 ≤ (0 : Int) := (by omega);have q605 : 0 < (l0.length : Int) := of_decide_eq_true (by first | (with_reducible assumption) | assumption);obtain ⟨ad605,e605,hx605_0⟩ := Kd.at_int HR0.out 0 p605 q605;cases e605;have qi605 : (0 < l0.length) = True := eq_true (by omega);(try rw [show ((0 : Int)).toNat = 0 from rfl] at hx605_0);(try rw [Addr.add_zero'] at hx605_0);have hn605_0 : ad605.block ≠ gb604 := Nat.ne_of_lt (Nat.lt_of_lt_of_le (by have := World.block_lt_of_cell? _ _ hx605_0;first | rwa [add_block] at this | exact this) GW604.out);have hn605_1 : ad605.block ≠ gb604 := Nat.ne_of_lt (Nat.lt_of_lt_of_le (by have := World.block_lt_of_cell? _ _ hx605_0;first | rwa [add_block] at this | exact this) GW604.out);have hn605_2 : ad605.block ≠ gb604 := Nat.ne_of_lt (Nat.lt_of_lt_of_le (by have := World.block_lt_of_cell? _ _ hx605_0;first | rwa [add_block] at this | exact this) GW604.out);have hn605_3 : ad605.block ≠ gb604 := Nat.ne_of_lt (Nat.lt_of_lt_of_le (by have := World.block_lt_of_cell? _ _ hx605_0;first | rwa [add_block] at this | exact this) GW604.out);replace hx605_0 := (HB.out.cell (World.block_lt_of_cell? w _ hx605_0)).trans hx605_0;replace hx605_0 := (cell_far (p := ⟨gb604,0,none⟩) (by first | (rw [add_block];exact hn605_0) | (show (Addr.add _ _).block ≠ _;rw [add_block];exact hn605_0) | exact hn605_0) (.int .i64 0)).trans hx605_0;replace hx605_0 := (cell_far (p := ⟨gb604,1,none⟩) (by first | (rw [add_block];exact hn605_1) | (show (Addr.add _ _).block ≠ _;rw [add_block];exact hn605_1) | exact hn605_1) (.bool false)).trans hx605_0;replace hx605_0 := (cell_far (p := ⟨gb604,2,none⟩) (by first | (rw [add_block];exact hn605_2) | (show (Addr.add _ _).block ≠ _;rw [add_block];exact hn605_2) | exact hn605_2) (.int .i64 0)).trans hx605_0;replace hx605_0 := (cell_far (p := ⟨gb604,3,none⟩) (by first | (rw [add_block];exact hn605_3) | (show (Addr.add _ _).block ≠ _;rw [add_block];exact hn605_3) | exact hn605_3) (.string (⟨#[]⟩ : ByteArray))).trans hx605_0;clear hn605_0;clear hn605_1;clear hn605_2;clear hn605_3;replace p605 := eq_true p605;replace q605 := eq_true q605))
              go_loopg [6,7] k (fun kq v6 v7 w' => ∃ (x6_1 : Int) (x7_1 : Int),v6 = .int .u64 x6_1 ∧ v7 = .int .i64 x7_1 ∧ Aside0 (verdererref04_First.l0 kq l0 x6_1 x7_1 = some (r1,r2,r3,r4,r5,r6)) ∧ Aside0 (kq ≤ k) ∧ Aside0 (w'.heap[gb603]? = some (.cells #[.int .i64 0,.bool false,.int .i64 0,.string (⟨#[]⟩ : ByteArray)] 50 (0,0))) ∧ Aside0 (w'.heap[gb604]? = some (.cells #[.int .i64 0,.bool false,.int .i64 0,.string (⟨#[]⟩ : ByteArray)] 50 (0,0))) ∧ Aside0 (Below w.heap.size w w'))
              case atStart => exact ⟨(0),(1),(by first | rfl | (simp;done) | (simp [*];done)),(by first | rfl | (simp;done) | (simp [*];done)),H',⟨Nat.le_refl _⟩,⟨by (with_reducible repeat (first | refine blk_drewN ?_ _ | refine blk_drew ?_ | refine blk_alloc ?_ _));refine blk_far ?_ NB603_604.out _;(with_reducible repeat (first | refine blk_drewN ?_ _ | refine blk_drew ?_ | refine blk_alloc ?_ _));refine blk_far ?_ NB603_604.out _;(with_reducible repeat (first | refine blk_drewN ?_ _ | refine blk_drew ?_ | refine blk_alloc ?_ _));refine blk_far ?_ NB603_604.out _;(with_reducible repeat (first | refine blk_drewN ?_ _ | refine blk_drew ?_ | refine blk_alloc ?_ _));refine blk_far ?_ NB603_604.out _;(with_reducible repeat (first | refine blk_drewN ?_ _ | refine blk_drew ?_ | refine blk_alloc ?_ _));exact BK603.out⟩,⟨by (with_reducible repeat (first | refine blk_drewN ?_ _ | refine blk_drew ?_ | refine blk_alloc ?_ _));refine blk_put (cs := #[.int .i64 0,.bool false,.int .i64 0,.string (⟨#[]⟩ : ByteArray)]) ?_ 3 _ rfl;(with_reducible repeat (first | refine blk_drewN ?_ _ | refine blk_drew ?_ | refine blk_alloc ?_ _));refine blk_put (cs := #[.int .i64 0,.bool false,.int .i64 0,.string (⟨#[]⟩ : ByteArray)]) ?_ 2 _ rfl;(with_reducible repeat (first | refine blk_drewN ?_ _ | refine blk_drew ?_ | refine blk_alloc ?_ _));refine blk_put (cs := #[.int .i64 0,.bool false,.int .i64 0,.string (⟨#[]⟩ : ByteArray)]) ?_ 1 _ rfl;(with_reducible repeat (first | refine blk_drewN ?_ _ | refine blk_drew ?_ | refine blk_alloc ?_ _));refine blk_put (cs := #[.int .i64 0,.bool false,.int .i64 0,.string (⟨#[]⟩ : ByteArray)]) ?_ 0 _ rfl;(with_reducible repeat (first | refine blk_drewN ?_ _ | refine blk_drew ?_ | refine blk_alloc ?_ _));exact BK604.out⟩,⟨by repeat (first | (with_reducible first | exact HB.out | apply below_alloc | apply pw_below_drewN | apply below_drew1 | refine below_set ?_ GE603.out | refine below_set ?_ GE604.out) | exact HB.out)⟩⟩
              case round =>
                clear H'
                try clear c1
                try clear c2
                try clear c2b0
                try clear c2b1
                try clear c2b2
                try clear p2
                try clear c3
                try clear c4
                try clear c5
                try clear p6
                try clear q6
                try clear hx6
                try clear qi6
                try clear c8
                try clear c8b0
                try clear c8b1
                try clear c9
                try clear c9b0
                try clear c9b1
                try clear c12
                try clear c15
                try clear c15b0
                try clear c15b1
                try clear c16
                try clear c16b0
                try clear c16b1
                try clear c19
                try clear c22
                try clear c22b0
                try clear c22b1
                try clear c23
                try clear c23b0
                try clear c26
                try clear c31
                try clear c34
                try clear c34b0
                try clear c34b1
                try clear c35
                try clear c35b0
                try clear c35b1
                try clear c38
                try clear c43
                try clear hcz13_0
                try clear hcz13_1
                try clear hcz13_2
                try clear hcz13_3
                try clear hcz14_0
                try clear hcz14_1
                try clear hcz14_2
                try clear hcz14_3
                try clear hcz20_0
                try clear hcz20_1
                try clear hcz20_2
                try clear hcz20_3
                try clear hcz21_0
                try clear hcz21_1
                try clear hcz21_2
                try clear hcz21_3
                try clear hcz27_0
                try clear hcz27_1
                try clear hcz27_2
                try clear hcz27_3
                try clear hcz28_0
                try clear hcz28_1
                try clear hcz28_2
                try clear hcz28_3
                try clear hcz32_0
                try clear hcz32_1
                try clear hcz32_2
                try clear hcz32_3
                try clear hcz33_0
                try clear hcz33_1
                try clear hcz33_2
                try clear hcz33_3
                try clear hcz39_0
                try clear hcz39_1
                try clear hcz39_2
                try clear hcz39_3
                try clear hcz40_0
                try clear hcz40_1
                try clear hcz40_2
                try clear hcz40_3
                try clear hcz44_0
                try clear hcz44_1
                try clear hcz44_2
                try clear hcz44_3
                try clear hcz6_0
                try clear hcz6_1
                try clear hcz6_2
                try clear hcz6_3
                try clear hcz7_0
                try clear hcz7_1
                try clear hcz7_2
                try clear hcz7_3
                try clear hfz13_0
                try clear hfz13_1
                try clear hfz13_2
                try clear hfz13_3
                try clear hfz14_0
                try clear hfz14_1
                try clear hfz14_2
                try clear hfz14_3
                try clear hfz20_0
                try clear hfz20_1
                try clear hfz20_2
                try clear hfz20_3
                try clear hfz21_0
                try clear hfz21_1
                try clear hfz21_2
                try clear hfz21_3
                try clear hfz27_0
                try clear hfz27_1
                try clear hfz27_2
                try clear hfz27_3
                try clear hfz28_0
                try clear hfz28_1
                try clear hfz28_2
                try clear hfz28_3
                try clear hfz32_0
                try clear hfz32_1
                try clear hfz32_2
                try clear hfz32_3
                try clear hfz33_0
                try clear hfz33_1
                try clear hfz33_2
                try clear hfz33_3
                try clear hfz39_0
                try clear hfz39_1
                try clear hfz39_2
                try clear hfz39_3
                try clear hfz40_0
                try clear hfz40_1
                try clear hfz40_2
                try clear hfz40_3
                try clear hfz44_0
                try clear hfz44_1
                try clear hfz44_2
                try clear hfz44_3
                try clear hfz6_0
                try clear hfz6_1
                try clear hfz6_2
                try clear hfz6_3
                try clear hfz7_0
                try clear hfz7_1
                try clear hfz7_2
                try clear hfz7_3
                try clear hx605_0
                try clear hx606_0
                try clear hx607_0
                try clear p605
                try clear p606
                try clear p607
                try clear q605
                try clear q606
                try clear q607
                obtain ⟨x6_1,x7_1,rfl,rfl,HA,HK1,BK603,BK604,HB⟩ := hrel
                cases gk with
                | zero => exact absurd HA.out (by simp [verdererref04_First.l0])
                | succ k1 =>
                  have H := HA.out
                  clear HA
                  simp only [verdererref04_First.l0] at H
                  by_cases c45 : x7_1 < 9
                  · rw [if_pos c45] at H
                    have c45b0 : decide (x7_1 < 9) = true := decide_eq_true c45
                    clear c45
                    by_cases c46 : 0 ≤ x7_1
                    · rw [if_pos c46] at H
                      have c46b0 : decide (0 ≤ x7_1) = true := decide_eq_true c46
                      clear c46
                      by_cases c47 : x7_1 < (l0.length : Int)
                      · rw [if_pos c47] at H
                        have c47b0 : decide (x7_1 < (l0.length : Int)) = true := decide_eq_true c47
                        clear c47
                        have H' := Aside0.mk H
                        clear H
                        have p608 : 0 ≤ (x7_1 : Int) := of_decide_eq_true (by first | (with_reducible assumption) | assumption)
                        have q608 : x7_1 < (l0.length : Int) := of_decide_eq_true (by first | (with_reducible assumption) | assumption)
                        obtain ⟨ad608,e608,hx608_0⟩ := Kd.at_int HR0.out x7_1 p608 q608
                        obtain rfl : ad605 = ad608 := (by injection e608)
                        replace hx608_0 := (HB.out.cell (World.block_lt_of_cell? w _ hx608_0)).trans hx608_0
                        replace p608 := eq_true p608
                        replace q608 := eq_true q608
                        go_wp2
                        go_roundg k1
                        case measure => have := HK1.out;omega
                        case rel => exact ⟨(IntKind.u64.wrap ((IntKind.u64.wrap (x6_1 * 256)) + (IntKind.u64.wrap (rd l0 x7_1)))),(wrap64 (x7_1 + 1)),(by first | rfl | (simp;done) | (simp [*];done)),(by first | rfl | (simp;done) | (simp [*];done)),H',⟨by have := HK1.out;omega⟩,⟨by (with_reducible repeat (first | refine blk_drewN ?_ _ | refine blk_drew ?_ | refine blk_alloc ?_ _));exact BK603.out⟩,⟨by (with_reducible repeat (first | refine blk_drewN ?_ _ | refine blk_drew ?_ | refine blk_alloc ?_ _));exact BK604.out⟩,⟨by repeat (first | (with_reducible first | exact HB.out | apply below_alloc | apply pw_below_drewN | apply below_drew1 | refine below_set ?_ GE603.out | refine below_set ?_ GE604.out) | exact HB.out)⟩⟩
                      · rw [if_neg c47] at H
                        exact absurd H (by simp)
                    · rw [if_neg c46] at H
                      exact absurd H (by simp)
                  · rw [if_neg c45] at H
                    have c45b0 : decide (x7_1 < 9) = false := decide_eq_false c45
                    clear c45
                    simp only [Option.some.injEq,Prod.mk.injEq] at H
                    obtain ⟨rfl,rfl,rfl,rfl,rfl,rfl⟩ := H
                    have hnb48 := NB603_604.out
                    have hnc48 := NB604_603.out
                    have hcz49_0 : wr.cell? ⟨gb603,0,none⟩ = some (.int .i64 0) := (blk_cell BK603.out 0).trans rfl
                    have hcz49_1 : wr.cell? ⟨gb603,1,none⟩ = some (.bool false) := (blk_cell BK603.out 1).trans rfl
                    have hcz49_2 : wr.cell? ⟨gb603,2,none⟩ = some (.int .i64 0) := (blk_cell BK603.out 2).trans rfl
                    have hcz49_3 : wr.cell? ⟨gb603,3,none⟩ = some (.string (⟨#[]⟩ : ByteArray)) := (blk_cell BK603.out 3).trans rfl
                    have hfz49_0 := blk_frozen BK603.out 0
                    have hfz49_1 := blk_frozen BK603.out 1
                    have hfz49_2 := blk_frozen BK603.out 2
                    have hfz49_3 := blk_frozen BK603.out 3
                    go_wp2
                    refine bodyPost_ret (results_ctt rfl _ _ gb603 50 #[.int .i64 2,.bool false,.int .i64 (wrap64 (IntKind.u64.wrap (x6_1 - 9223372036854775808))),.string (⟨#[]⟩ : ByteArray)] (0,0) _ rfl (by (with_reducible repeat (first | refine blk_drewN ?_ _ | refine blk_drew ?_ | refine blk_alloc ?_ _));refine blk_put (cs := #[.int .i64 2,.bool false,.int .i64 (wrap64 (IntKind.u64.wrap (x6_1 - 9223372036854775808))),.string (⟨#[]⟩ : ByteArray)]) ?_ 3 _ rfl;(with_reducible repeat (first | refine blk_drewN ?_ _ | refine blk_drew ?_ | refine blk_alloc ?_ _));refine blk_put (cs := #[.int .i64 2,.bool false,.int .i64 0,.string (⟨#[]⟩ : ByteArray)]) ?_ 2 _ rfl;(with_reducible repeat (first | refine blk_drewN ?_ _ | refine blk_drew ?_ | refine blk_alloc ?_ _));refine blk_put (cs := #[.int .i64 2,.bool false,.int .i64 0,.string (⟨#[]⟩ : ByteArray)]) ?_ 1 _ rfl;(with_reducible repeat (first | refine blk_drewN ?_ _ | refine blk_drew ?_ | refine blk_alloc ?_ _));refine blk_put (cs := #[.int .i64 0,.bool false,.int .i64 0,.string (⟨#[]⟩ : ByteArray)]) ?_ 0 _ rfl;(with_reducible repeat (first | refine blk_drewN ?_ _ | refine blk_drew ?_ | refine blk_alloc ?_ _));exact BK603.out) Try.underlying50 rfl (by kernel_rfl)) rfl ?_
                    exact ⟨by first | rfl | (simp [errW_none,errW_some] <;> rfl) | (simp [*,errW_none,errW_some] <;> rfl),by repeat (first | (with_reducible first | exact HB.out | apply below_alloc | apply pw_below_drewN | apply below_drew1 | refine below_set ?_ GE603.out | refine below_set ?_ GE604.out) | exact HB.out)⟩
          · rw [if_neg c34] at H
            have c34b0 : ((rd l0 0) == 3) = false := beq_eq_false_iff_ne.mpr c34
            have c34b1 : ((rd l0 0) != 3) = true := bne_iff_ne.mpr c34
            by_cases c50 : (rd l0 0) = 4
            · rw [if_pos c50] at H
              have c50b0 : ((rd l0 0) == 4) = true := beq_iff_eq.mpr c50
              have c50b1 : ((rd l0 0) != 4) = false := bne_eq_false_iff_eq.mpr c50
              clear c50
              replace H := Option.bind_eq_some_iff.mp H
              obtain ⟨⟨t609,t610,t611,t612,t613,t614⟩,A510,H⟩ := H
              replace H : (some (t609,t610,t611,t612,t613,t614)) = some (r1,r2,r3,r4,r5,r6) := H
              have A51 := Aside0.mk A510
              clear A510
              simp only [Option.some.injEq,Prod.mk.injEq] at H
              obtain ⟨rfl,rfl,rfl,rfl,rfl,rfl⟩ := H
              go_enter Try.func38,Try.ntmps38
              go_wp2_with (first | ((with_reducible refine gate_dst (N := 2) rfl ?_);refine box_event ?hg (N := 2) ?hd (cs := #[.int .i64 0,.bool false,.int .i64 0,.string (⟨#[]⟩ : ByteArray)]) (t := 50) ?hr ?_;(case hd => rfl);(case hg => rfl);(case hr => first | (go_simp;done) | (go_simp;rfl));intro gb603 hg w52 hbox hb;have n0_ := Aside0.mk (below_step (by repeat (first | (with_reducible first | exact HB.out | apply below_alloc | apply pw_below_drewN | apply below_drew1) | exact HB.out)) hb);have n1_ := Aside0.mk (hbox);have n2_ := Aside0.mk ((by rw [hg];exact (below_size (by repeat (first | (with_reducible first | exact HB.out | apply below_alloc | apply pw_below_drewN | apply below_drew1) | exact HB.out))) : w.heap.size ≤ gb603));have n3_ := Aside0.mk ((by rw [hg];exact (below_size (by repeat (first | (with_reducible first | exact HB.out | apply below_alloc | apply pw_below_drewN | apply below_drew1) | exact HB.out))) : w.heap.size ≤ gb603));clear HB;have HB := n0_;have BK603 := n1_;have GW603 := n2_;have GE603 := n3_;clear n0_ n1_ n2_ n3_;clear hb hbox hg) | ((with_reducible refine gate_dst (N := 5) rfl ?_);refine box_event ?hg (N := 5) ?hd (cs := #[.int .i64 0,.bool false,.int .i64 0,.string (⟨#[]⟩ : ByteArray)]) (t := 50) ?hr ?_;(case hd => rfl);(case hg => rfl);(case hr => first | (go_simp;done) | (go_simp;rfl));intro gb604 hg w53 hbox hb;have n0_ := Aside0.mk (blk_below (g := gb603) (o := .cells #[.int .i64 0,.bool false,.int .i64 0,.string (⟨#[]⟩ : ByteArray)] 50 (0,0)) (by (with_reducible repeat (first | refine blk_drewN ?_ _ | refine blk_drew ?_ | refine blk_alloc ?_ _));exact BK603.out) hb);have n1_ := Aside0.mk (below_step (by repeat (first | (with_reducible first | exact HB.out | apply below_alloc | apply pw_below_drewN | apply below_drew1 | refine below_set ?_ GE603.out) | exact HB.out)) hb);have n2_ := Aside0.mk (hbox);have n3_ := Aside0.mk ((by rw [hg];exact (below_size (by repeat (first | (with_reducible first | exact HB.out | apply below_alloc | apply pw_below_drewN | apply below_drew1 | refine below_set ?_ GE603.out) | exact HB.out))) : w.heap.size ≤ gb604));have n4_ := Aside0.mk ((by rw [hg];exact (below_size (by repeat (first | (with_reducible first | exact HB.out | apply below_alloc | apply pw_below_drewN | apply below_drew1 | refine below_set ?_ GE603.out) | exact HB.out))) : w.heap.size ≤ gb604));have n5_ := Aside0.mk ((by rw [hg];exact Nat.ne_of_lt (blk_lt (g := gb603) (o := .cells #[.int .i64 0,.bool false,.int .i64 0,.string (⟨#[]⟩ : ByteArray)] 50 (0,0)) (by (with_reducible repeat (first | refine blk_drewN ?_ _ | refine blk_drew ?_ | refine blk_alloc ?_ _));exact BK603.out)) : gb603 ≠ gb604));have n6_ := Aside0.mk ((by rw [hg];exact Nat.ne_of_gt (blk_lt (g := gb603) (o := .cells #[.int .i64 0,.bool false,.int .i64 0,.string (⟨#[]⟩ : ByteArray)] 50 (0,0)) (by (with_reducible repeat (first | refine blk_drewN ?_ _ | refine blk_drew ?_ | refine blk_alloc ?_ _));exact BK603.out)) : gb604 ≠ gb603));clear BK603;clear HB;have BK603 := n0_;have HB := n1_;have BK604 := n2_;have GW604 := n3_;have GE604 := n4_;have NB603_604 := n5_;have NB604_603 := n6_;clear n0_ n1_ n2_ n3_ n4_ n5_ n6_;clear hb hbox hg;have hnb54 := NB604_603.out;have hnc54 := NB603_604.out;have hcz55_0 : w53.cell? ⟨gb604,0,none⟩ = some (.int .i64 0) := (blk_cell BK604.out 0).trans rfl;have hcz55_1 : w53.cell? ⟨gb604,1,none⟩ = some (.bool false) := (blk_cell BK604.out 1).trans rfl;have hcz55_2 : w53.cell? ⟨gb604,2,none⟩ = some (.int .i64 0) := (blk_cell BK604.out 2).trans rfl;have hcz55_3 : w53.cell? ⟨gb604,3,none⟩ = some (.string (⟨#[]⟩ : ByteArray)) := (blk_cell BK604.out 3).trans rfl;have hfz55_0 := blk_frozen BK604.out 0;have hfz55_1 := blk_frozen BK604.out 1;have hfz55_2 := blk_frozen BK604.out 2;have hfz55_3 := blk_frozen BK604.out 3;have p605 : 0 ≤ (0 : Int) := (by omega);have q605 : 0 < (l0.length : Int) := of_decide_eq_true (by first | (with_reducible assumption) | assumption);obtain ⟨ad605,e605,hx605_0⟩ := Kd.at_int HR0.out 0 p605 q605;cases e605;have qi605 : (0 < l0.length) = True := eq_true (by omega);(try rw [show ((0 : Int)).toNat = 0 from rfl] at hx605_0);(try rw [Addr.add_zero'] at hx605_0);have hn605_0 : ad605.block ≠ gb604 := Nat.ne_of_lt (Nat.lt_of_lt_of_le (by have := World.block_lt_of_cell? _ _ hx605_0;first | rwa [add_block] at this | exact this) GW604.out);have hn605_1 : ad605.block ≠ gb604 := Nat.ne_of_lt (Nat.lt_of_lt_of_le (by have := World.block_lt_of_cell? _ _ hx605_0;first | rwa [add_block] at this | exact this) GW604.out);have hn605_2 : ad605.block ≠ gb604 := Nat.ne_of_lt (Nat.lt_of_lt_of_le (by have := World.block_lt_of_cell? _ _ hx605_0;first | rwa [add_block] at this | exact this) GW604.out);have hn605_3 : ad605.block ≠ gb604 := Nat.ne_of_lt (Nat.lt_of_lt_of_le (by have := World.block_lt_of_cell? _ _ hx605_0;first | rwa [add_block] at this | exact this) GW604.out);replace hx605_0 := (HB.out.cell (World.block_lt_of_cell? w _ hx605_0)).trans hx605_0;replace hx605_0 := (cell_far (p := ⟨gb604,0,none⟩) (by first | (rw [add_block];exact hn605_0) | (show (Addr.add _ _).block ≠ _;rw [add_block];exact hn605_0) | exact hn605_0) (.int .i64 0)).trans hx605_0;replace hx605_0 := (cell_far (p := ⟨gb604,1,none⟩) (by first | (rw [add_block];exact hn605_1) | (show (Addr.add _ _).block ≠ _;rw [add_block];exact hn605_1) | exact hn605_1) (.bool false)).trans hx605_0;replace hx605_0 := (cell_far (p := ⟨gb604,2,none⟩) (by first | (rw [add_block];exact hn605_2) | (show (Addr.add _ _).block ≠ _;rw [add_block];exact hn605_2) | exact hn605_2) (.int .i64 0)).trans hx605_0;replace hx605_0 := (cell_far (p := ⟨gb604,3,none⟩) (by first | (rw [add_block];exact hn605_3) | (show (Addr.add _ _).block ≠ _;rw [add_block];exact hn605_3) | exact hn605_3) (.string (⟨#[]⟩ : ByteArray))).trans hx605_0;clear hn605_0;clear hn605_1;clear hn605_2;clear hn605_3;replace p605 := eq_true p605;replace q605 := eq_true q605) | ((with_reducible refine gate_callee (f := 62) rfl ?_);refine goesL_ (some 61) rfl rfl Try.func62 (by kernel_rfl) rfl #[.slice (some ad605) l0.length c0] rfl (by (try simp only [List.map_toArray,List.map_cons,List.map_nil]);first | done | rfl | (simp only [List.length_drop,List.length_take];rfl)) ?_;(with_reducible refine (verdererref04_text.calls k _ _ l0 t609 t610 t611 t612 t613 t614 _ ?side1 ?side2 A51.out).mono ?_);(case side1 => exact Kd.C_below HR0.out (by repeat (first | (with_reducible first | exact HB.out | apply below_alloc | apply pw_below_drewN | apply below_drew1 | refine below_set ?_ GE603.out | refine below_set ?_ GE604.out) | exact HB.out)));(case side2 => exact HC0.out);rintro e w56 ⟨rfl,hb⟩;refine ⟨_,rfl,?_⟩;have n0_ := Aside0.mk (blk_below (g := gb603) (o := .cells #[.int .i64 0,.bool false,.int .i64 0,.string (⟨#[]⟩ : ByteArray)] 50 (0,0)) (by (with_reducible repeat (first | refine blk_drewN ?_ _ | refine blk_drew ?_ | refine blk_alloc ?_ _));refine blk_far ?_ NB603_604.out _;(with_reducible repeat (first | refine blk_drewN ?_ _ | refine blk_drew ?_ | refine blk_alloc ?_ _));refine blk_far ?_ NB603_604.out _;(with_reducible repeat (first | refine blk_drewN ?_ _ | refine blk_drew ?_ | refine blk_alloc ?_ _));refine blk_far ?_ NB603_604.out _;(with_reducible repeat (first | refine blk_drewN ?_ _ | refine blk_drew ?_ | refine blk_alloc ?_ _));refine blk_far ?_ NB603_604.out _;(with_reducible repeat (first | refine blk_drewN ?_ _ | refine blk_drew ?_ | refine blk_alloc ?_ _));exact BK603.out) hb);have n1_ := Aside0.mk (blk_below (g := gb604) (o := .cells #[.int .i64 0,.bool false,.int .i64 0,.string (⟨#[]⟩ : ByteArray)] 50 (0,0)) (by (with_reducible repeat (first | refine blk_drewN ?_ _ | refine blk_drew ?_ | refine blk_alloc ?_ _));refine blk_put (cs := #[.int .i64 0,.bool false,.int .i64 0,.string (⟨#[]⟩ : ByteArray)]) ?_ 3 _ rfl;(with_reducible repeat (first | refine blk_drewN ?_ _ | refine blk_drew ?_ | refine blk_alloc ?_ _));refine blk_put (cs := #[.int .i64 0,.bool false,.int .i64 0,.string (⟨#[]⟩ : ByteArray)]) ?_ 2 _ rfl;(with_reducible repeat (first | refine blk_drewN ?_ _ | refine blk_drew ?_ | refine blk_alloc ?_ _));refine blk_put (cs := #[.int .i64 0,.bool false,.int .i64 0,.string (⟨#[]⟩ : ByteArray)]) ?_ 1 _ rfl;(with_reducible repeat (first | refine blk_drewN ?_ _ | refine blk_drew ?_ | refine blk_alloc ?_ _));refine blk_put (cs := #[.int .i64 0,.bool false,.int .i64 0,.string (⟨#[]⟩ : ByteArray)]) ?_ 0 _ rfl;(with_reducible repeat (first | refine blk_drewN ?_ _ | refine blk_drew ?_ | refine blk_alloc ?_ _));exact BK604.out) hb);have n2_ := Aside0.mk (below_step (by repeat (first | (with_reducible first | exact HB.out | apply below_alloc | apply pw_below_drewN | apply below_drew1 | refine below_set ?_ GE603.out | refine below_set ?_ GE604.out) | exact HB.out)) hb);clear BK603;clear BK604;clear HB;have BK603 := n0_;have BK604 := n1_;have HB := n2_;clear n0_ n1_ n2_;(try clear hb);(try clear hb2);(try clear hk);(try clear hi);have hcz57_0 : w56.cell? ⟨gb603,0,none⟩ = some (.int .i64 0) := (blk_cell BK603.out 0).trans rfl;have hcz57_1 : w56.cell? ⟨gb603,1,none⟩ = some (.bool false) := (blk_cell BK603.out 1).trans rfl;have hcz57_2 : w56.cell? ⟨gb603,2,none⟩ = some (.int .i64 0) := (blk_cell BK603.out 2).trans rfl;have hcz57_3 : w56.cell? ⟨gb603,3,none⟩ = some (.string (⟨#[]⟩ : ByteArray)) := (blk_cell BK603.out 3).trans rfl;have hfz57_0 := blk_frozen BK603.out 0;have hfz57_1 := blk_frozen BK603.out 1;have hfz57_2 := blk_frozen BK603.out 2;have hfz57_3 := blk_frozen BK603.out 3))
              refine bodyPost_ret (results_ctt rfl _ _ gb603 50 #[.int .i64 t609,.bool t610,.int .i64 t611,.string t612] (0,0) _ rfl (by (with_reducible repeat (first | refine blk_drewN ?_ _ | refine blk_drew ?_ | refine blk_alloc ?_ _));refine blk_put (cs := #[.int .i64 t609,.bool t610,.int .i64 t611,.string (⟨#[]⟩ : ByteArray)]) ?_ 3 _ rfl;(with_reducible repeat (first | refine blk_drewN ?_ _ | refine blk_drew ?_ | refine blk_alloc ?_ _));refine blk_put (cs := #[.int .i64 t609,.bool t610,.int .i64 0,.string (⟨#[]⟩ : ByteArray)]) ?_ 2 _ rfl;(with_reducible repeat (first | refine blk_drewN ?_ _ | refine blk_drew ?_ | refine blk_alloc ?_ _));refine blk_put (cs := #[.int .i64 t609,.bool false,.int .i64 0,.string (⟨#[]⟩ : ByteArray)]) ?_ 1 _ rfl;(with_reducible repeat (first | refine blk_drewN ?_ _ | refine blk_drew ?_ | refine blk_alloc ?_ _));refine blk_put (cs := #[.int .i64 0,.bool false,.int .i64 0,.string (⟨#[]⟩ : ByteArray)]) ?_ 0 _ rfl;(with_reducible repeat (first | refine blk_drewN ?_ _ | refine blk_drew ?_ | refine blk_alloc ?_ _));exact BK603.out) Try.underlying50 rfl (by kernel_rfl)) rfl ?_
              exact ⟨by first | rfl | (simp [errW_none,errW_some] <;> rfl) | (simp [*,errW_none,errW_some] <;> rfl),by repeat (first | (with_reducible first | exact HB.out | apply below_alloc | apply pw_below_drewN | apply below_drew1 | refine below_set ?_ GE603.out | refine below_set ?_ GE604.out) | exact HB.out)⟩
            · rw [if_neg c50] at H
              have c50b0 : ((rd l0 0) == 4) = false := beq_eq_false_iff_ne.mpr c50
              have c50b1 : ((rd l0 0) != 4) = true := bne_iff_ne.mpr c50
              simp only [Option.some.injEq,Prod.mk.injEq] at H
              obtain ⟨rfl,rfl,rfl,rfl,rfl,rfl⟩ := H
              go_enter Try.func38,Try.ntmps38
              go_wp2_with (first | ((with_reducible refine gate_dst (N := 2) rfl ?_);refine box_event ?hg (N := 2) ?hd (cs := #[.int .i64 0,.bool false,.int .i64 0,.string (⟨#[]⟩ : ByteArray)]) (t := 50) ?hr ?_;(case hd => rfl);(case hg => rfl);(case hr => first | (go_simp;done) | (go_simp;rfl));intro gb603 hg w58 hbox hb;have n0_ := Aside0.mk (below_step (by repeat (first | (with_reducible first | exact HB.out | apply below_alloc | apply pw_below_drewN | apply below_drew1) | exact HB.out)) hb);have n1_ := Aside0.mk (hbox);have n2_ := Aside0.mk ((by rw [hg];exact (below_size (by repeat (first | (with_reducible first | exact HB.out | apply below_alloc | apply pw_below_drewN | apply below_drew1) | exact HB.out))) : w.heap.size ≤ gb603));have n3_ := Aside0.mk ((by rw [hg];exact (below_size (by repeat (first | (with_reducible first | exact HB.out | apply below_alloc | apply pw_below_drewN | apply below_drew1) | exact HB.out))) : w.heap.size ≤ gb603));clear HB;have HB := n0_;have BK603 := n1_;have GW603 := n2_;have GE603 := n3_;clear n0_ n1_ n2_ n3_;clear hb hbox hg) | ((with_reducible refine gate_dst (N := 5) rfl ?_);refine box_event ?hg (N := 5) ?hd (cs := #[.int .i64 0,.bool false,.int .i64 0,.string (⟨#[]⟩ : ByteArray)]) (t := 50) ?hr ?_;(case hd => rfl);(case hg => rfl);(case hr => first | (go_simp;done) | (go_simp;rfl));intro gb604 hg w59 hbox hb;have n0_ := Aside0.mk (blk_below (g := gb603) (o := .cells #[.int .i64 0,.bool false,.int .i64 0,.string (⟨#[]⟩ : ByteArray)] 50 (0,0)) (by (with_reducible repeat (first | refine blk_drewN ?_ _ | refine blk_drew ?_ | refine blk_alloc ?_ _));exact BK603.out) hb);have n1_ := Aside0.mk (below_step (by repeat (first | (with_reducible first | exact HB.out | apply below_alloc | apply pw_below_drewN | apply below_drew1 | refine below_set ?_ GE603.out) | exact HB.out)) hb);have n2_ := Aside0.mk (hbox);have n3_ := Aside0.mk ((by rw [hg];exact (below_size (by repeat (first | (with_reducible first | exact HB.out | apply below_alloc | apply pw_below_drewN | apply below_drew1 | refine below_set ?_ GE603.out) | exact HB.out))) : w.heap.size ≤ gb604));have n4_ := Aside0.mk ((by rw [hg];exact (below_size (by repeat (first | (with_reducible first | exact HB.out | apply below_alloc | apply pw_below_drewN | apply below_drew1 | refine below_set ?_ GE603.out) | exact HB.out))) : w.heap.size ≤ gb604));have n5_ := Aside0.mk ((by rw [hg];exact Nat.ne_of_lt (blk_lt (g := gb603) (o := .cells #[.int .i64 0,.bool false,.int .i64 0,.string (⟨#[]⟩ : ByteArray)] 50 (0,0)) (by (with_reducible repeat (first | refine blk_drewN ?_ _ | refine blk_drew ?_ | refine blk_alloc ?_ _));exact BK603.out)) : gb603 ≠ gb604));have n6_ := Aside0.mk ((by rw [hg];exact Nat.ne_of_gt (blk_lt (g := gb603) (o := .cells #[.int .i64 0,.bool false,.int .i64 0,.string (⟨#[]⟩ : ByteArray)] 50 (0,0)) (by (with_reducible repeat (first | refine blk_drewN ?_ _ | refine blk_drew ?_ | refine blk_alloc ?_ _));exact BK603.out)) : gb604 ≠ gb603));clear BK603;clear HB;have BK603 := n0_;have HB := n1_;have BK604 := n2_;have GW604 := n3_;have GE604 := n4_;have NB603_604 := n5_;have NB604_603 := n6_;clear n0_ n1_ n2_ n3_ n4_ n5_ n6_;clear hb hbox hg;have hnb60 := NB604_603.out;have hnc60 := NB603_604.out;have hcz61_0 : w59.cell? ⟨gb604,0,none⟩ = some (.int .i64 0) := (blk_cell BK604.out 0).trans rfl;have hcz61_1 : w59.cell? ⟨gb604,1,none⟩ = some (.bool false) := (blk_cell BK604.out 1).trans rfl;have hcz61_2 : w59.cell? ⟨gb604,2,none⟩ = some (.int .i64 0) := (blk_cell BK604.out 2).trans rfl;have hcz61_3 : w59.cell? ⟨gb604,3,none⟩ = some (.string (⟨#[]⟩ : ByteArray)) := (blk_cell BK604.out 3).trans rfl;have hfz61_0 := blk_frozen BK604.out 0;have hfz61_1 := blk_frozen BK604.out 1;have hfz61_2 := blk_frozen BK604.out 2;have hfz61_3 := blk_frozen BK604.out 3;have p605 : 0 ≤ (0 : Int) := (by omega);have q605 : 0 < (l0.length : Int) := of_decide_eq_true (by first | (with_reducible assumption) | assumption);obtain ⟨ad605,e605,hx605_0⟩ := Kd.at_int HR0.out 0 p605 q605;cases e605;have qi605 : (0 < l0.length) = True := eq_true (by omega);(try rw [show ((0 : Int)).toNat = 0 from rfl] at hx605_0);(try rw [Addr.add_zero'] at hx605_0);have hn605_0 : ad605.block ≠ gb604 := Nat.ne_of_lt (Nat.lt_of_lt_of_le (by have := World.block_lt_of_cell? _ _ hx605_0;first | rwa [add_block] at this | exact this) GW604.out);have hn605_1 : ad605.block ≠ gb604 := Nat.ne_of_lt (Nat.lt_of_lt_of_le (by have := World.block_lt_of_cell? _ _ hx605_0;first | rwa [add_block] at this | exact this) GW604.out);have hn605_2 : ad605.block ≠ gb604 := Nat.ne_of_lt (Nat.lt_of_lt_of_le (by have := World.block_lt_of_cell? _ _ hx605_0;first | rwa [add_block] at this | exact this) GW604.out);have hn605_3 : ad605.block ≠ gb604 := Nat.ne_of_lt (Nat.lt_of_lt_of_le (by have := World.block_lt_of_cell? _ _ hx605_0;first | rwa [add_block] at this | exact this) GW604.out);replace hx605_0 := (HB.out.cell (World.block_lt_of_cell? w _ hx605_0)).trans hx605_0;replace hx605_0 := (cell_far (p := ⟨gb604,0,none⟩) (by first | (rw [add_block];exact hn605_0) | (show (Addr.add _ _).block ≠ _;rw [add_block];exact hn605_0) | exact hn605_0) (.int .i64 0)).trans hx605_0;replace hx605_0 := (cell_far (p := ⟨gb604,1,none⟩) (by first | (rw [add_block];exact hn605_1) | (show (Addr.add _ _).block ≠ _;rw [add_block];exact hn605_1) | exact hn605_1) (.bool false)).trans hx605_0;replace hx605_0 := (cell_far (p := ⟨gb604,2,none⟩) (by first | (rw [add_block];exact hn605_2) | (show (Addr.add _ _).block ≠ _;rw [add_block];exact hn605_2) | exact hn605_2) (.int .i64 0)).trans hx605_0;replace hx605_0 := (cell_far (p := ⟨gb604,3,none⟩) (by first | (rw [add_block];exact hn605_3) | (show (Addr.add _ _).block ≠ _;rw [add_block];exact hn605_3) | exact hn605_3) (.string (⟨#[]⟩ : ByteArray))).trans hx605_0;clear hn605_0;clear hn605_1;clear hn605_2;clear hn605_3;replace p605 := eq_true p605;replace q605 := eq_true q605;have hcz62_0 : w59.cell? ⟨gb603,0,none⟩ = some (.int .i64 0) := (blk_cell BK603.out 0).trans rfl;have hcz62_1 : w59.cell? ⟨gb603,1,none⟩ = some (.bool false) := (blk_cell BK603.out 1).trans rfl;have hcz62_2 : w59.cell? ⟨gb603,2,none⟩ = some (.int .i64 0) := (blk_cell BK603.out 2).trans rfl;have hcz62_3 : w59.cell? ⟨gb603,3,none⟩ = some (.string (⟨#[]⟩ : ByteArray)) := (blk_cell BK603.out 3).trans rfl;have hfz62_0 := blk_frozen BK603.out 0;have hfz62_1 := blk_frozen BK603.out 1;have hfz62_2 := blk_frozen BK603.out 2;have hfz62_3 := blk_frozen BK603.out 3))
              refine bodyPost_ret (results_ctt rfl _ _ gb603 50 #[.int .i64 0,.bool false,.int .i64 0,.string (⟨#[]⟩ : ByteArray)] (0,0) _ rfl (by (with_reducible repeat (first | refine blk_drewN ?_ _ | refine blk_drew ?_ | refine blk_alloc ?_ _));refine blk_put (cs := #[.int .i64 0,.bool false,.int .i64 0,.string (⟨#[]⟩ : ByteArray)]) ?_ 3 _ rfl;(with_reducible repeat (first | refine blk_drewN ?_ _ | refine blk_drew ?_ | refine blk_alloc ?_ _));refine blk_put (cs := #[.int .i64 0,.bool false,.int .i64 0,.string (⟨#[]⟩ : ByteArray)]) ?_ 2 _ rfl;(with_reducible repeat (first | refine blk_drewN ?_ _ | refine blk_drew ?_ | refine blk_alloc ?_ _));refine blk_put (cs := #[.int .i64 0,.bool false,.int .i64 0,.string (⟨#[]⟩ : ByteArray)]) ?_ 1 _ rfl;(with_reducible repeat (first | refine blk_drewN ?_ _ | refine blk_drew ?_ | refine blk_alloc ?_ _));refine blk_put (cs := #[.int .i64 0,.bool false,.int .i64 0,.string (⟨#[]⟩ : ByteArray)]) ?_ 0 _ rfl;(with_reducible repeat (first | refine blk_drewN ?_ _ | refine blk_drew ?_ | refine blk_alloc ?_ _));refine blk_far ?_ NB603_604.out _;(with_reducible repeat (first | refine blk_drewN ?_ _ | refine blk_drew ?_ | refine blk_alloc ?_ _));refine blk_far ?_ NB603_604.out _;(with_reducible repeat (first | refine blk_drewN ?_ _ | refine blk_drew ?_ | refine blk_alloc ?_ _));refine blk_far ?_ NB603_604.out _;(with_reducible repeat (first | refine blk_drewN ?_ _ | refine blk_drew ?_ | refine blk_alloc ?_ _));refine blk_far ?_ NB603_604.out _;(with_reducible repeat (first | refine blk_drewN ?_ _ | refine blk_drew ?_ | refine blk_alloc ?_ _));exact BK603.out) Try.underlying50 rfl (by kernel_rfl)) rfl ?_
              exact ⟨by first | rfl | (simp [errW_none,errW_some] <;> rfl) | (simp [*,errW_none,errW_some] <;> rfl),by repeat (first | (with_reducible first | exact HB.out | apply below_alloc | apply pw_below_drewN | apply below_drew1 | refine below_set ?_ GE603.out | refine below_set ?_ GE604.out) | exact HB.out)⟩
    · rw [if_neg c8] at H
      exact absurd H (by simp)
end Go.Proofs.Ytfoaeigoajooeaa.Z
end
section
namespace Go.Proofs.Ytfoaeigoajooeaa.Z
open Go.RowKit Go.Proofs.YtfoaeigoajooeaaW.PrintWords Go.Proofs.YtfoaeigoajooeaaW.PrintLast Go.Proofs.YtfoaeigoajooeaaW.PrintMore
attribute [local go_sem] max2_int min2_int max_two min_two max_three min_three max_four min_four
set_option linter.unusedVariables false
set_option linter.unusedSimpArgs false
def verdererref04_Back.l0 : Nat → List Int → List (S50) → Int → Option ((List (S50)) × Int)
  | 0,_,_,_ => none
  | k + 1,x0,x4,x5 => if x5 < (x0.length : Int) then (if 0 ≤ x5 then (if (rd x0 x5) = 0 then (if (wrap64 (x5 + 1)) < (x0.length : Int) then (some (([] : List (S50)),7)) else (some (x4,0))) else (if x5 ≤ (x0.length : Int) then ((verdererref04_First.f k (x0.drop (x5 : Int).toNat)).bind fun bt617 => (if bt617.2.2.2.2.2 = 0 then (if x4.length < 3518437208883 then (verdererref04_Back.l0 k x0 (x4 ++ [(⟨bt617.1,bt617.2.1,bt617.2.2.1,bt617.2.2.2.1⟩ : S50)]) (wrap64 (x5 + bt617.2.2.2.2.1))) else (none)) else (some (([] : List (S50)),bt617.2.2.2.2.2)))) else (none))) else (none)) else (some (([] : List (S50)),8))
def verdererref04_Back.f (k : Nat) (l0 : List Int) : Option ((List (S50)) × Int) := verdererref04_Back.l0 k l0 ([] : List (S50)) 0
theorem verdererref04_Back.mono_l : ∀ k,(∀ y0 y1 y2,LeO (verdererref04_Back.l0 k y0 y1 y2) (verdererref04_Back.l0 (k + 1) y0 y1 y2))
  | 0 => fun _ _ _ r h => by simp [verdererref04_Back.l0] at h
  | k + 1 => by
    have ih0 := verdererref04_Back.mono_l k
    · intro y0 y1 y2
      unfold verdererref04_Back.l0
      repeat' first
      | (with_reducible exact ih0 _ _ _)
      | (with_reducible exact verdererref04_First.mono _ _)
      | (with_reducible exact LeO.refl _)
      | (with_reducible exact LeO.none _)
      | (with_reducible refine LeO.ite ?_ ?_)
      | (with_reducible refine LeO.bind ?_ (fun _ => ?_))
      | exact ih0 _ _ _
      | exact verdererref04_First.mono _ _
      | exact LeO.none _
      | refine LeO.ite ?_ ?_
      | refine LeO.bind ?_ (fun _ => ?_)
theorem verdererref04_Back.mono : ∀ a0 k,LeO (verdererref04_Back.f k a0) (verdererref04_Back.f (k + 1) a0) := by
  intro a0 k
  have ih0 := verdererref04_Back.mono_l k
  unfold verdererref04_Back.f
  repeat' first
      | (with_reducible exact ih0 _ _ _)
      | (with_reducible exact verdererref04_First.mono _ _)
      | (with_reducible exact LeO.refl _)
      | (with_reducible exact LeO.none _)
      | (with_reducible refine LeO.ite ?_ ?_)
      | (with_reducible refine LeO.bind ?_ (fun _ => ?_))
      | exact ih0 _ _ _
      | exact verdererref04_First.mono _ _
      | exact LeO.none _
      | refine LeO.ite ?_ ?_
      | refine LeO.bind ?_ (fun _ => ?_)
set_option maxHeartbeats 8000000 in
set_option maxRecDepth 100000 in
theorem verdererref04_Back.calls (k : Nat) (A0 : Option Addr) (c0 : Nat) (l0 : List Int) (r1 : List (S50)) (r2 : Int) (w : World) (hr0 : Kd.C (Kd.int .u8) w A0 l0.length l0) (hc0 : l0.length ≤ c0) (h : verdererref04_Back.f k l0 = some (r1,r2)) :
    Calls Try.prog 40 #[.slice A0 l0.length c0] w fun e w' => ∃ v0_ : Value,e = .returned (.tuple #[v0_,.int .i64 r2]) ∧ Kd.R k50 50 w' w.heap.size (fun _ => True) v0_ r1 ∧ Below w.heap.size w w' := by
  have hu50 := Try.underlying50
  have HR0 := Aside0.mk hr0
  have HC0 := Aside0.mk hc0
  clear hr0 hc0
  have HB := Aside0.mk (Below.refl w.heap.size w)
  have H : (verdererref04_Back.l0 k l0 ([] : List (S50)) 0) = some (r1,r2) := h
  clear h
  have H' := Aside0.mk H
  clear H
  go_enter Try.func40,Try.ntmps40
  go_wp2
  go_loopg [4,5] k (fun kq v4 v5 w' => ∃ (x4_1 : List (S50)) (x5_1 : Int),v5 = .int .i64 x5_1 ∧ Aside0 (verdererref04_Back.l0 kq l0 x4_1 x5_1 = some (r1,r2)) ∧ Aside0 (kq ≤ k) ∧ Aside0 (Kd.R k50 50 w' w.heap.size (fun _ => True) v4 x4_1) ∧ Aside0 (Below w.heap.size w w'))
  case atStart => exact ⟨(([] : List (S50))),(0),(by first | rfl | (simp;done) | (simp [*];done)),H',⟨Nat.le_refl _⟩,⟨by first | exact Kd.R_nil _ _ _ _ _ | exact Kd.N_nil _ _ _ _ _ | exact Kd.V_nil _ _ _ _ _ | exact Kd.Q_nil _ _ _ _ _ | exact Kd.S_nil _ _ _ _ _⟩,⟨by repeat (first | (with_reducible first | exact HB.out | apply below_alloc | apply pw_below_drewN | apply below_drew1) | exact HB.out)⟩⟩
  case round =>
    clear H'
    obtain ⟨x4_1,x5_1,rfl,HA,HK1,HO_4,HB⟩ := hrel
    cases gk with
    | zero => exact absurd HA.out (by simp [verdererref04_Back.l0])
    | succ k1 =>
      have H := HA.out
      clear HA
      simp only [verdererref04_Back.l0] at H
      by_cases c2 : x5_1 < (l0.length : Int)
      · rw [if_pos c2] at H
        have c2b0 : decide (x5_1 < (l0.length : Int)) = true := decide_eq_true c2
        clear c2
        by_cases c3 : 0 ≤ x5_1
        · rw [if_pos c3] at H
          have c3b0 : decide (0 ≤ x5_1) = true := decide_eq_true c3
          clear c3
          by_cases c4 : (rd l0 x5_1) = 0
          · rw [if_pos c4] at H
            have c4b0 : ((rd l0 x5_1) == 0) = true := beq_iff_eq.mpr c4
            have c4b1 : ((rd l0 x5_1) != 0) = false := bne_eq_false_iff_eq.mpr c4
            clear c4
            by_cases c5 : (wrap64 (x5_1 + 1)) < (l0.length : Int)
            · rw [if_pos c5] at H
              have c5b0 : decide ((wrap64 (x5_1 + 1)) < (l0.length : Int)) = true := decide_eq_true c5
              clear c5
              simp only [Option.some.injEq,Prod.mk.injEq] at H
              obtain ⟨rfl,rfl⟩ := H
              have p615 : 0 ≤ (x5_1 : Int) := of_decide_eq_true (by first | (with_reducible assumption) | assumption)
              have q615 : x5_1 < (l0.length : Int) := of_decide_eq_true (by first | (with_reducible assumption) | assumption)
              obtain ⟨ad615,e615,hx615_0⟩ := Kd.at_int HR0.out x5_1 p615 q615
              cases e615
              replace hx615_0 := (HB.out.cell (World.block_lt_of_cell? w _ hx615_0)).trans hx615_0
              replace p615 := eq_true p615
              replace q615 := eq_true q615
              go_wp2
              go_ret2
              exact ⟨_,by first | rfl | (simp [errW_none,errW_some] <;> rfl) | (simp [*,errW_none,errW_some] <;> rfl),by first | exact Kd.R_nil _ _ _ _ _ | exact Kd.N_nil _ _ _ _ _ | exact Kd.V_nil _ _ _ _ _ | exact Kd.Q_nil _ _ _ _ _ | exact Kd.S_nil _ _ _ _ _,by repeat (first | (with_reducible first | exact HB.out | apply below_alloc | apply pw_below_drewN | apply below_drew1) | exact HB.out)⟩
            · rw [if_neg c5] at H
              have c5b0 : decide ((wrap64 (x5_1 + 1)) < (l0.length : Int)) = false := decide_eq_false c5
              clear c5
              simp only [Option.some.injEq,Prod.mk.injEq] at H
              obtain ⟨rfl,rfl⟩ := H
              have p615 : 0 ≤ (x5_1 : Int) := of_decide_eq_true (by first | (with_reducible assumption) | assumption)
              have q615 : x5_1 < (l0.length : Int) := of_decide_eq_true (by first | (with_reducible assumption) | assumption)
              obtain ⟨ad615,e615,hx615_0⟩ := Kd.at_int HR0.out x5_1 p615 q615
              cases e615
              replace hx615_0 := (HB.out.cell (World.block_lt_of_cell? w _ hx615_0)).trans hx615_0
              replace p615 := eq_true p615
              replace q615 := eq_true q615
              go_wp2
              go_ret2
              exact ⟨_,by first | rfl | (simp [errW_none,errW_some] <;> rfl) | (simp [*,errW_none,errW_some] <;> rfl),by (with_reducible repeat (first | apply Kd.R_alloc | apply Kd.R_drewN | apply Kd.R_drew));exact HO_4.out,by repeat (first | (with_reducible first | exact HB.out | apply below_alloc | apply pw_below_drewN | apply below_drew1) | exact HB.out)⟩
          · rw [if_neg c4] at H
            have c4b0 : ((rd l0 x5_1) == 0) = false := beq_eq_false_iff_ne.mpr c4
            have c4b1 : ((rd l0 x5_1) != 0) = true := bne_iff_ne.mpr c4
            have c6b0 := eq_true (of_decide_eq_true (by first | (with_reducible assumption) | assumption) : 0 ≤ x5_1)
            by_cases c7 : x5_1 ≤ (l0.length : Int)
            · rw [if_pos c7] at H
              have c7b0 := eq_true c7
              have c7b1 : decide (x5_1 ≤ (l0.length : Int)) = true := decide_eq_true c7
              clear c7
              replace H := Option.bind_eq_some_iff.mp H
              obtain ⟨⟨t617,t618,t619,t620,t621,t622⟩,A80,H⟩ := H
              replace H : (if t622 = 0 then (if x4_1.length < 3518437208883 then (verdererref04_Back.l0 k1 l0 (x4_1 ++ [(⟨t617,t618,t619,t620⟩ : S50)]) (wrap64 (x5_1 + t621))) else (none)) else (some (([] : List (S50)),t622))) = some (r1,r2) := H
              have A8 := Aside0.mk A80
              clear A80
              by_cases c9 : t622 = 0
              · rw [if_pos c9] at H
                have c9b0 : (t622 == 0) = true := beq_iff_eq.mpr c9
                have c9b1 : (t622 != 0) = false := bne_eq_false_iff_eq.mpr c9
                clear c9
                by_cases c10 : x4_1.length < 3518437208883
                · rw [if_pos c10] at H
                  have LMc10 := Aside0.mk c10
                  clear c10
                  obtain ⟨y624,hy624⟩ : ∃ y_ : List (S50),y_ = (x4_1 ++ [(⟨t617,t618,t619,t620⟩ : S50)]) := ⟨_,rfl⟩
                  replace H : (verdererref04_Back.l0 k1 l0 y624 (wrap64 (x5_1 + t621))) = some (r1,r2) := by first | (rw [hy624];with_reducible exact H) | (have H2_ := (Option.bind_some _ _).symm.trans H;rw [hy624];with_reducible exact H2_) | (have H2_ := (Option.bind_some _ _).symm.trans H;with_reducible exact H2_) | with_reducible exact H | (rw [hy624];exact H) | exact H
                  have Ny624 := Aside0.mk hy624
                  clear hy624
                  have H' := Aside0.mk H
                  clear H
                  have p615 : 0 ≤ (x5_1 : Int) := of_decide_eq_true (by first | (with_reducible assumption) | assumption)
                  have q615 : x5_1 < (l0.length : Int) := of_decide_eq_true (by first | (with_reducible assumption) | assumption)
                  obtain ⟨ad615,e615,hx615_0⟩ := Kd.at_int HR0.out x5_1 p615 q615
                  cases e615
                  replace hx615_0 := (HB.out.cell (World.block_lt_of_cell? w _ hx615_0)).trans hx615_0
                  replace p615 := eq_true p615
                  replace q615 := eq_true q615
                  obtain ⟨i011,hi011,_,hsz11,_⟩ := info_parts info5
                  obtain ⟨A11,hcut11,hA11,hC11⟩ := print_drop_of (P := Try.prog) (Value.int .u8) 0 47 5 .i64 Try.underlying47 hi011 hsz11 (some ad615) c0 l0 x5_1 (of_decide_eq_true (by first | (with_reducible assumption) | assumption)) (of_decide_eq_true (by first | (with_reducible assumption) | assumption)) HC0.out
                  have HR616 := Aside0.mk (Kd.C_of_reads (h1 := fun _ => rfl) (hA11 _ (Kd.reads_of_C HR0.out)))
                  have HC616 := Aside0.mk hC11
                  clear hA11 hC11 hi011 hsz11
                  go_wp2_with (first | ((with_reducible refine gate_callee (f := 38) rfl ?_);refine goesL_ (some 28) rfl rfl Try.func38 (by kernel_rfl) rfl #[.slice A11 (l0.drop (x5_1 : Int).toNat).length (c0 - x5_1.toNat)] rfl (by (try simp only [List.map_toArray,List.map_cons,List.map_nil]);first | done | (rw [show (l0.drop (x5_1 : Int).toNat).length = (l0.length - x5_1.toNat) from List.length_drop] <;> rfl) | rfl | (simp only [List.length_drop,List.length_take];rfl)) ?_;(with_reducible refine (verdererref04_First.calls k1 _ _ (l0.drop (x5_1 : Int).toNat) t617 t618 t619 t620 t621 t622 _ ?side1 ?side2 A8.out).mono ?_);(case side1 => repeat (first | exact (Kd.C_below HR616.out HB.out) | (with_reducible refine Kd.C_alloc ?_ _) | (with_reducible refine Kd.C_drewN ?_ _) | (with_reducible refine Kd.C_drew ?_)));(case side2 => exact HC616.out);rintro e w12 ⟨rfl,hb⟩;refine ⟨_,rfl,?_⟩;have n0_ := Aside0.mk (Kd.R_below (by (with_reducible repeat (first | apply Kd.R_alloc | apply Kd.R_drewN | apply Kd.R_drew));exact HO_4.out) hb);have n1_ := Aside0.mk (below_step (by repeat (first | (with_reducible first | exact HB.out | apply below_alloc | apply pw_below_drewN | apply below_drew1) | exact HB.out)) hb);clear HO_4;clear HB;have HO_4 := n0_;have HB := n1_;clear n0_ n1_;(try clear hb);(try clear hb2);(try clear hk);(try clear hi)) | ((with_reducible refine gate_dst (N := 6) rfl ?_);refine box_event ?hg (N := 6) ?hd (cs := #[.int .i64 0,.bool false,.int .i64 0,.string (⟨#[]⟩ : ByteArray)]) (t := 50) ?hr ?_;(case hd => rfl);(case hg => rfl);(case hr => first | (go_simp;done) | (go_simp;rfl));intro gb623 hg w13 hbox hb;have n0_ := Aside0.mk (Kd.R_below (Kd.R_elderB (by (with_reducible repeat (first | apply Kd.R_alloc | apply Kd.R_drewN | apply Kd.R_drew));exact HO_4.out) gb623 (Nat.le_of_eq hg.symm)) hb);have n1_ := Aside0.mk (below_step (by repeat (first | (with_reducible first | exact HB.out | apply below_alloc | apply pw_below_drewN | apply below_drew1) | exact HB.out)) hb);have n2_ := Aside0.mk (hbox);have n3_ := Aside0.mk ((by rw [hg];exact (below_size (by repeat (first | (with_reducible first | exact HB.out | apply below_alloc | apply pw_below_drewN | apply below_drew1) | exact HB.out))) : w.heap.size ≤ gb623));have n4_ := Aside0.mk ((by rw [hg];exact (below_size (by repeat (first | (with_reducible first | exact HB.out | apply below_alloc | apply pw_below_drewN | apply below_drew1) | exact HB.out))) : w.heap.size ≤ gb623));clear HO_4;clear HB;have HO_4 := n0_;have HB := n1_;have BK623 := n2_;have GW623 := n3_;have GE623 := n4_;clear n0_ n1_ n2_ n3_ n4_;clear hb hbox hg;have hcz14_0 : w13.cell? ⟨gb623,0,none⟩ = some (.int .i64 0) := (blk_cell BK623.out 0).trans rfl;have hcz14_1 : w13.cell? ⟨gb623,1,none⟩ = some (.bool false) := (blk_cell BK623.out 1).trans rfl;have hcz14_2 : w13.cell? ⟨gb623,2,none⟩ = some (.int .i64 0) := (blk_cell BK623.out 2).trans rfl;have hcz14_3 : w13.cell? ⟨gb623,3,none⟩ = some (.string (⟨#[]⟩ : ByteArray)) := (blk_cell BK623.out 3).trans rfl;have hfz14_0 := blk_frozen BK623.out 0;have hfz14_1 := blk_frozen BK623.out 1;have hfz14_2 := blk_frozen BK623.out 2;have hfz14_3 := blk_frozen BK623.out 3) | ((with_reducible refine gate_builtin (b := .append) (xs := #[.tmp 35,.tmp 37]) rfl ?_);at_builtin;refine Kd.R_append k50 (w0 := w) w.heap.size rfl (.tmp 35) (.tmp 37) 22 50 (.agg #[(.int .i64 0),(.bool false),(.int .i64 0),(.string ⟨#[]⟩)]) 40 rfl Try.underlying22 info50 rfl (by decide) (by omega) u4 x4_1 (⟨t617,t618,t619,t620⟩ : S50) [.int .i64 t617,.bool t618,.int .i64 t619,.string t620] (fun k_ => k_ ≠ gb623) (fun _ => False) rfl (by first | (go_simp;done) | (go_simp;rfl)) ?aP (fun _ hk => hk.elim) ?aF ?aO ?aB ?aS ?aL ?_;(case aP => exact k50_mkM _ _ _ (⟨t617,t618,t619,t620⟩ : S50));(case aB => exact (by repeat (first | (with_reducible first | exact HB.out | apply below_alloc | apply pw_below_drewN | apply below_drew1 | refine below_set ?_ GE623.out) | exact HB.out)));(case aF => exact (fun k_ hk => Kd.freshB (g := gb623) (o := .cells #[.int .i64 t617,.bool t618,.int .i64 t619,.string t620] 50 (0,0)) (by (with_reducible repeat (first | refine blk_drewN ?_ _ | refine blk_drew ?_ | refine blk_alloc ?_ _));refine blk_put (cs := #[.int .i64 t617,.bool t618,.int .i64 t619,.string (⟨#[]⟩ : ByteArray)]) ?_ 3 _ rfl;(with_reducible repeat (first | refine blk_drewN ?_ _ | refine blk_drew ?_ | refine blk_alloc ?_ _));refine blk_put (cs := #[.int .i64 t617,.bool t618,.int .i64 0,.string (⟨#[]⟩ : ByteArray)]) ?_ 2 _ rfl;(with_reducible repeat (first | refine blk_drewN ?_ _ | refine blk_drew ?_ | refine blk_alloc ?_ _));refine blk_put (cs := #[.int .i64 t617,.bool false,.int .i64 0,.string (⟨#[]⟩ : ByteArray)]) ?_ 1 _ rfl;(with_reducible repeat (first | refine blk_drewN ?_ _ | refine blk_drew ?_ | refine blk_alloc ?_ _));refine blk_put (cs := #[.int .i64 0,.bool false,.int .i64 0,.string (⟨#[]⟩ : ByteArray)]) ?_ 0 _ rfl;(with_reducible repeat (first | refine blk_drewN ?_ _ | refine blk_drew ?_ | refine blk_alloc ?_ _));exact BK623.out) k_ hk));(case aO => exact (by (with_reducible repeat (first | apply Kd.R_alloc | apply Kd.R_drewN | apply Kd.R_drew));exact Kd.R_mono (Kd.R_far (p := ⟨gb623,3,none⟩) (Kd.R_far (p := ⟨gb623,2,none⟩) (Kd.R_far (p := ⟨gb623,1,none⟩) (Kd.R_far (p := ⟨gb623,0,none⟩) (Kd.R_mono HO_4.out (fun k_ hk => (⟨hk,hk.2⟩ : _ ∧ k_ ≠ gb623))) (fun _ hk => hk.2) (.int .i64 t617)) (fun _ hk => hk.2) (.bool t618)) (fun _ hk => hk.2) (.int .i64 t619)) (fun _ hk => hk.2) (.string t620)) (fun _ hk => hk.1.2)));(case aS => exact (below_size (by repeat (first | (with_reducible first | exact HB.out | apply below_alloc | apply pw_below_drewN | apply below_drew1 | refine below_set ?_ GE623.out) | exact HB.out))));(case aL => have := LMc10.out;omega);intro v625 w15 ho hb hg hat;rw [← Ny624.out] at ho;have n0_ := Aside0.mk (blk_grown (g := gb623) (o := .cells #[.int .i64 t617,.bool t618,.int .i64 t619,.string t620] 50 (0,0)) (by (with_reducible repeat (first | refine blk_drewN ?_ _ | refine blk_drew ?_ | refine blk_alloc ?_ _));refine blk_put (cs := #[.int .i64 t617,.bool t618,.int .i64 t619,.string (⟨#[]⟩ : ByteArray)]) ?_ 3 _ rfl;(with_reducible repeat (first | refine blk_drewN ?_ _ | refine blk_drew ?_ | refine blk_alloc ?_ _));refine blk_put (cs := #[.int .i64 t617,.bool t618,.int .i64 0,.string (⟨#[]⟩ : ByteArray)]) ?_ 2 _ rfl;(with_reducible repeat (first | refine blk_drewN ?_ _ | refine blk_drew ?_ | refine blk_alloc ?_ _));refine blk_put (cs := #[.int .i64 t617,.bool false,.int .i64 0,.string (⟨#[]⟩ : ByteArray)]) ?_ 1 _ rfl;(with_reducible repeat (first | refine blk_drewN ?_ _ | refine blk_drew ?_ | refine blk_alloc ?_ _));refine blk_put (cs := #[.int .i64 0,.bool false,.int .i64 0,.string (⟨#[]⟩ : ByteArray)]) ?_ 0 _ rfl;(with_reducible repeat (first | refine blk_drewN ?_ _ | refine blk_drew ?_ | refine blk_alloc ?_ _));exact BK623.out) hg (Kd.R_away HO_4.out (fun _ hk => hk.2)));have n1_ := Aside0.mk (hb);have n2_ := Aside0.mk (ho);clear BK623;clear HB;clear HO_4;have BK623 := n0_;have HB := n1_;have HO626 := n2_;clear n0_ n1_ n2_;clear ho hb hg hat))
                  go_roundg k1
                  case measure => have := HK1.out;omega
                  case rel => exact ⟨(y624),(wrap64 (x5_1 + t621)),(by first | rfl | (simp;done) | (simp [*];done)),H',⟨by have := HK1.out;omega⟩,⟨by (with_reducible repeat (first | apply Kd.R_alloc | apply Kd.R_drewN | apply Kd.R_drew));exact Kd.R_mono HO626.out (fun _ hk => trivial)⟩,⟨by repeat (first | (with_reducible first | exact HB.out | apply below_alloc | apply pw_below_drewN | apply below_drew1 | refine below_set ?_ GE623.out) | exact HB.out)⟩⟩
                · rw [if_neg c10] at H
                  exact absurd H (by simp)
              · rw [if_neg c9] at H
                have c9b0 : (t622 == 0) = false := beq_eq_false_iff_ne.mpr c9
                have c9b1 : (t622 != 0) = true := bne_iff_ne.mpr c9
                simp only [Option.some.injEq,Prod.mk.injEq] at H
                obtain ⟨rfl,rfl⟩ := H
                have p615 : 0 ≤ (x5_1 : Int) := of_decide_eq_true (by first | (with_reducible assumption) | assumption)
                have q615 : x5_1 < (l0.length : Int) := of_decide_eq_true (by first | (with_reducible assumption) | assumption)
                obtain ⟨ad615,e615,hx615_0⟩ := Kd.at_int HR0.out x5_1 p615 q615
                cases e615
                replace hx615_0 := (HB.out.cell (World.block_lt_of_cell? w _ hx615_0)).trans hx615_0
                replace p615 := eq_true p615
                replace q615 := eq_true q615
                obtain ⟨i016,hi016,_,hsz16,_⟩ := info_parts info5
                obtain ⟨A16,hcut16,hA16,hC16⟩ := print_drop_of (P := Try.prog) (Value.int .u8) 0 47 5 .i64 Try.underlying47 hi016 hsz16 (some ad615) c0 l0 x5_1 (of_decide_eq_true (by first | (with_reducible assumption) | assumption)) (of_decide_eq_true (by first | (with_reducible assumption) | assumption)) HC0.out
                have HR616 := Aside0.mk (Kd.C_of_reads (h1 := fun _ => rfl) (hA16 _ (Kd.reads_of_C HR0.out)))
                have HC616 := Aside0.mk hC16
                clear hA16 hC16 hi016 hsz16
                go_wp2_with (first | ((with_reducible refine gate_callee (f := 38) rfl ?_);refine goesL_ (some 28) rfl rfl Try.func38 (by kernel_rfl) rfl #[.slice A16 (l0.drop (x5_1 : Int).toNat).length (c0 - x5_1.toNat)] rfl (by (try simp only [List.map_toArray,List.map_cons,List.map_nil]);first | done | (rw [show (l0.drop (x5_1 : Int).toNat).length = (l0.length - x5_1.toNat) from List.length_drop] <;> rfl) | rfl | (simp only [List.length_drop,List.length_take];rfl)) ?_;(with_reducible refine (verdererref04_First.calls k1 _ _ (l0.drop (x5_1 : Int).toNat) t617 t618 t619 t620 t621 t622 _ ?side1 ?side2 A8.out).mono ?_);(case side1 => repeat (first | exact (Kd.C_below HR616.out HB.out) | (with_reducible refine Kd.C_alloc ?_ _) | (with_reducible refine Kd.C_drewN ?_ _) | (with_reducible refine Kd.C_drew ?_)));(case side2 => exact HC616.out);rintro e w17 ⟨rfl,hb⟩;refine ⟨_,rfl,?_⟩;have n0_ := Aside0.mk (Kd.R_below (by (with_reducible repeat (first | apply Kd.R_alloc | apply Kd.R_drewN | apply Kd.R_drew));exact HO_4.out) hb);have n1_ := Aside0.mk (below_step (by repeat (first | (with_reducible first | exact HB.out | apply below_alloc | apply pw_below_drewN | apply below_drew1) | exact HB.out)) hb);clear HO_4;clear HB;have HO_4 := n0_;have HB := n1_;clear n0_ n1_;(try clear hb);(try clear hb2);(try clear hk);(try clear hi)) | ((with_reducible refine gate_dst (N := 6) rfl ?_);refine box_event ?hg (N := 6) ?hd (cs := #[.int .i64 0,.bool false,.int .i64 0,.string (⟨#[]⟩ : ByteArray)]) (t := 50) ?hr ?_;(case hd => rfl);(case hg => rfl);(case hr => first | (go_simp;done) | (go_simp;rfl));intro gb623 hg w18 hbox hb;have n0_ := Aside0.mk (Kd.R_below (Kd.R_elderB (by (with_reducible repeat (first | apply Kd.R_alloc | apply Kd.R_drewN | apply Kd.R_drew));exact HO_4.out) gb623 (Nat.le_of_eq hg.symm)) hb);have n1_ := Aside0.mk (below_step (by repeat (first | (with_reducible first | exact HB.out | apply below_alloc | apply pw_below_drewN | apply below_drew1) | exact HB.out)) hb);have n2_ := Aside0.mk (hbox);have n3_ := Aside0.mk ((by rw [hg];exact (below_size (by repeat (first | (with_reducible first | exact HB.out | apply below_alloc | apply pw_below_drewN | apply below_drew1) | exact HB.out))) : w.heap.size ≤ gb623));have n4_ := Aside0.mk ((by rw [hg];exact (below_size (by repeat (first | (with_reducible first | exact HB.out | apply below_alloc | apply pw_below_drewN | apply below_drew1) | exact HB.out))) : w.heap.size ≤ gb623));clear HO_4;clear HB;have HO_4 := n0_;have HB := n1_;have BK623 := n2_;have GW623 := n3_;have GE623 := n4_;clear n0_ n1_ n2_ n3_ n4_;clear hb hbox hg;have hcz19_0 : w18.cell? ⟨gb623,0,none⟩ = some (.int .i64 0) := (blk_cell BK623.out 0).trans rfl;have hcz19_1 : w18.cell? ⟨gb623,1,none⟩ = some (.bool false) := (blk_cell BK623.out 1).trans rfl;have hcz19_2 : w18.cell? ⟨gb623,2,none⟩ = some (.int .i64 0) := (blk_cell BK623.out 2).trans rfl;have hcz19_3 : w18.cell? ⟨gb623,3,none⟩ = some (.string (⟨#[]⟩ : ByteArray)) := (blk_cell BK623.out 3).trans rfl;have hfz19_0 := blk_frozen BK623.out 0;have hfz19_1 := blk_frozen BK623.out 1;have hfz19_2 := blk_frozen BK623.out 2;have hfz19_3 := blk_frozen BK623.out 3))
                go_ret2
                exact ⟨_,by first | rfl | (simp [errW_none,errW_some] <;> rfl) | (simp [*,errW_none,errW_some] <;> rfl),by first | exact Kd.R_nil _ _ _ _ _ | exact Kd.N_nil _ _ _ _ _ | exact Kd.V_nil _ _ _ _ _ | exact Kd.Q_nil _ _ _ _ _ | exact Kd.S_nil _ _ _ _ _,by repeat (first | (with_reducible first | exact HB.out | apply below_alloc | apply pw_below_drewN | apply below_drew1 | refine below_set ?_ GE623.out) | exact HB.out)⟩
            · rw [if_neg c7] at H
              exact absurd H (by simp)
        · rw [if_neg c3] at H
          exact absurd H (by simp)
      · rw [if_neg c2] at H
        have c2b0 : decide (x5_1 < (l0.length : Int)) = false := decide_eq_false c2
        clear c2
        simp only [Option.some.injEq,Prod.mk.injEq] at H
        obtain ⟨rfl,rfl⟩ := H
        go_wp2
        go_ret2
        exact ⟨_,by first | rfl | (simp [errW_none,errW_some] <;> rfl) | (simp [*,errW_none,errW_some] <;> rfl),by first | exact Kd.R_nil _ _ _ _ _ | exact Kd.N_nil _ _ _ _ _ | exact Kd.V_nil _ _ _ _ _ | exact Kd.Q_nil _ _ _ _ _ | exact Kd.S_nil _ _ _ _ _,by repeat (first | (with_reducible first | exact HB.out | apply below_alloc | apply pw_below_drewN | apply below_drew1) | exact HB.out)⟩
end Go.Proofs.Ytfoaeigoajooeaa.Z
end
section
namespace Go.Proofs.Ytfoaeigoajooeaa.Z
open Go.RowKit Go.Proofs.YtfoaeigoajooeaaW.PrintWords Go.Proofs.YtfoaeigoajooeaaW.PrintLast Go.Proofs.YtfoaeigoajooeaaW.PrintMore
attribute [local go_sem] max2_int min2_int max_two min_two max_three min_three max_four min_four
set_option linter.unusedVariables false
set_option linter.unusedSimpArgs false
attribute [local go_sem high] eqA50
def verdererlaw04_PackReads.f (k : Nat) (l0 : List Int) : Option (Bool) := if (l0.length : Int) > 3000 then ((verdererlaw04_known.f k).bind fun t627 => (some t627)) else ((pack_First.f k l0).bind fun bt628 => ((verdererref04_First.f k l0).bind fun bt635 => ((pack_Back.f k l0).bind fun bt642 => ((verdererref04_Back.f k l0).bind fun bt646 => (if (bt628.1 == bt635.1 && (bt628.2.1 == bt635.2.1 && (bt628.2.2.1 == bt635.2.2.1 && (bt628.2.2.2.1.toList == bt635.2.2.2.1.toList)))) = true then (if bt628.2.2.2.2.1 = bt635.2.2.2.2.1 then (if bt628.2.2.2.2.2 = bt635.2.2.2.2.2 then ((verdererref02_Equal.f k bt642.1 bt646.1).bind fun t650 => (if t650 = true then (if bt642.2 = bt646.2 then ((verdererlaw04_known.f k).bind fun t651 => (some t651)) else (none)) else (none))) else (none)) else (none)) else (none))))))
theorem verdererlaw04_PackReads.mono : ∀ a0 k,LeO (verdererlaw04_PackReads.f k a0) (verdererlaw04_PackReads.f (k + 1) a0) := by
  intro a0 k
  unfold verdererlaw04_PackReads.f
  repeat' first
      | (with_reducible exact pack_Back.mono _ _)
      | (with_reducible exact pack_First.mono _ _)
      | (with_reducible exact verdererlaw04_known.mono _)
      | (with_reducible exact verdererref02_Equal.mono _ _ _)
      | (with_reducible exact verdererref04_Back.mono _ _)
      | (with_reducible exact verdererref04_First.mono _ _)
      | (with_reducible exact LeO.refl _)
      | (with_reducible exact LeO.none _)
      | (with_reducible refine LeO.ite ?_ ?_)
      | (with_reducible refine LeO.bind ?_ (fun _ => ?_))
      | exact pack_Back.mono _ _
      | exact pack_First.mono _ _
      | exact verdererlaw04_known.mono _
      | exact verdererref02_Equal.mono _ _ _
      | exact verdererref04_Back.mono _ _
      | exact verdererref04_First.mono _ _
      | exact LeO.none _
      | refine LeO.ite ?_ ?_
      | refine LeO.bind ?_ (fun _ => ?_)
set_option maxHeartbeats 8000000 in
set_option maxRecDepth 100000 in
theorem verdererlaw04_PackReads.calls (k : Nat) (A0 : Option Addr) (c0 : Nat) (l0 : List Int) (r : Bool) (w : World) (hr0 : Kd.C (Kd.int .u8) w A0 l0.length l0) (hc0 : l0.length ≤ c0) (h : verdererlaw04_PackReads.f k l0 = some r) :
    Calls Try.prog 9 #[.slice A0 l0.length c0] w fun e w' => e = .returned (.bool r) ∧ Below w.heap.size w w' := by
  have hu50 := Try.underlying50
  have HR0 := Aside0.mk hr0
  have HC0 := Aside0.mk hc0
  clear hr0 hc0
  have HB := Aside0.mk (Below.refl w.heap.size w)
  have H : (if (l0.length : Int) > 3000 then ((verdererlaw04_known.f k).bind fun t627 => (some t627)) else ((pack_First.f k l0).bind fun bt628 => ((verdererref04_First.f k l0).bind fun bt635 => ((pack_Back.f k l0).bind fun bt642 => ((verdererref04_Back.f k l0).bind fun bt646 => (if (bt628.1 == bt635.1 && (bt628.2.1 == bt635.2.1 && (bt628.2.2.1 == bt635.2.2.1 && (bt628.2.2.2.1.toList == bt635.2.2.2.1.toList)))) = true then (if bt628.2.2.2.2.1 = bt635.2.2.2.2.1 then (if bt628.2.2.2.2.2 = bt635.2.2.2.2.2 then ((verdererref02_Equal.f k bt642.1 bt646.1).bind fun t650 => (if t650 = true then (if bt642.2 = bt646.2 then ((verdererlaw04_known.f k).bind fun t651 => (some t651)) else (none)) else (none))) else (none)) else (none)) else (none))))))) = some r := h
  clear h
  by_cases c2 : (l0.length : Int) > 3000
  · rw [if_pos c2] at H
    have c2b0 : decide (3000 < (l0.length : Int)) = true := decide_eq_true c2
    have c2b1 : decide (3000 < l0.length) = true := decide_eq_true (by omega)
    clear c2
    replace H := Option.bind_eq_some_iff.mp H
    obtain ⟨t627,A30,H⟩ := H
    replace H : (some t627) = some r := H
    have A3 := Aside0.mk A30
    clear A30
    obtain rfl := Option.some.inj H
    go_enter Try.func9,Try.ntmps9
    go_wp2_with (first | ((with_reducible refine gate_callee (f := 32) rfl ?_);refine goesL_ (some 16) rfl rfl Try.func32 (by kernel_rfl) rfl #[] rfl (by (try simp only [List.map_toArray,List.map_cons,List.map_nil]);first | done | rfl | (simp only [List.length_drop,List.length_take];rfl)) ?_;(with_reducible refine (verdererlaw04_known.calls k  t627 _ A3.out).mono ?_);rintro e w4 ⟨rfl,hb⟩;refine ⟨_,rfl,?_⟩;have n0_ := Aside0.mk (below_step (by repeat (first | (with_reducible first | exact HB.out | apply below_alloc | apply pw_below_drewN | apply below_drew1) | exact HB.out)) hb);clear HB;have HB := n0_;clear n0_;(try clear hb);(try clear hb2);(try clear hk);(try clear hi)))
    go_ret
    exact ⟨by first | rfl | (simp [errW_none,errW_some] <;> rfl) | (simp [*,errW_none,errW_some] <;> rfl),by repeat (first | (with_reducible first | exact HB.out | apply below_alloc | apply pw_below_drewN | apply below_drew1) | exact HB.out)⟩
  · rw [if_neg c2] at H
    have c2b0 : decide (3000 < (l0.length : Int)) = false := decide_eq_false c2
    have c2b1 : decide (3000 < l0.length) = false := decide_eq_false (by omega)
    clear c2
    replace H := Option.bind_eq_some_iff.mp H
    obtain ⟨⟨t628,t629,t630,t631,t632,t633⟩,A50,H⟩ := H
    replace H : ((verdererref04_First.f k l0).bind fun bt635 => ((pack_Back.f k l0).bind fun bt642 => ((verdererref04_Back.f k l0).bind fun bt646 => (if (t628 == bt635.1 && (t629 == bt635.2.1 && (t630 == bt635.2.2.1 && (t631.toList == bt635.2.2.2.1.toList)))) = true then (if t632 = bt635.2.2.2.2.1 then (if t633 = bt635.2.2.2.2.2 then ((verdererref02_Equal.f k bt642.1 bt646.1).bind fun t650 => (if t650 = true then (if bt642.2 = bt646.2 then ((verdererlaw04_known.f k).bind fun t651 => (some t651)) else (none)) else (none))) else (none)) else (none)) else (none))))) = some r := H
    have A5 := Aside0.mk A50
    clear A50
    replace H := Option.bind_eq_some_iff.mp H
    obtain ⟨⟨t635,t636,t637,t638,t639,t640⟩,A60,H⟩ := H
    replace H : ((pack_Back.f k l0).bind fun bt642 => ((verdererref04_Back.f k l0).bind fun bt646 => (if (t628 == t635 && (t629 == t636 && (t630 == t637 && (t631.toList == t638.toList)))) = true then (if t632 = t639 then (if t633 = t640 then ((verdererref02_Equal.f k bt642.1 bt646.1).bind fun t650 => (if t650 = true then (if bt642.2 = bt646.2 then ((verdererlaw04_known.f k).bind fun t651 => (some t651)) else (none)) else (none))) else (none)) else (none)) else (none)))) = some r := H
    have A6 := Aside0.mk A60
    clear A60
    replace H := Option.bind_eq_some_iff.mp H
    obtain ⟨⟨t642,t645⟩,A70,H⟩ := H
    replace H : ((verdererref04_Back.f k l0).bind fun bt646 => (if (t628 == t635 && (t629 == t636 && (t630 == t637 && (t631.toList == t638.toList)))) = true then (if t632 = t639 then (if t633 = t640 then ((verdererref02_Equal.f k t642 bt646.1).bind fun t650 => (if t650 = true then (if t645 = bt646.2 then ((verdererlaw04_known.f k).bind fun t651 => (some t651)) else (none)) else (none))) else (none)) else (none)) else (none))) = some r := H
    have A7 := Aside0.mk A70
    clear A70
    replace H := Option.bind_eq_some_iff.mp H
    obtain ⟨⟨t646,t647⟩,A80,H⟩ := H
    replace H : (if (t628 == t635 && (t629 == t636 && (t630 == t637 && (t631.toList == t638.toList)))) = true then (if t632 = t639 then (if t633 = t640 then ((verdererref02_Equal.f k t642 t646).bind fun t650 => (if t650 = true then (if t645 = t647 then ((verdererlaw04_known.f k).bind fun t651 => (some t651)) else (none)) else (none))) else (none)) else (none)) else (none)) = some r := H
    have A8 := Aside0.mk A80
    clear A80
    by_cases c9 : (t628 == t635 && (t629 == t636 && (t630 == t637 && (t631.toList == t638.toList)))) = true
    · rw [if_pos c9] at H
      have c9b0 : (t628 == t635 && (t629 == t636 && (t630 == t637 && (t631.toList == t638.toList)))) = true := c9
      (try (have c9b1 : decide (t628 = t635 && (t629 == t636 && (t630 == t637 && (t631.toList == t638.toList)))) = true := by simpa using c9))
      (try (have c9b2 : (t628 == t635 && (t629 == t636 && (t630 == t637 && (t631.toList == t638.toList)))) = true := by simpa using c9))
      clear c9
      by_cases c10 : t632 = t639
      · rw [if_pos c10] at H
        have c10b0 : (t632 == t639) = true := beq_iff_eq.mpr c10
        have c10b1 : (t632 != t639) = false := bne_eq_false_iff_eq.mpr c10
        clear c10
        by_cases c11 : t633 = t640
        · rw [if_pos c11] at H
          have c11b0 : (t633 == t640) = true := beq_iff_eq.mpr c11
          have c11b1 : (t633 != t640) = false := bne_eq_false_iff_eq.mpr c11
          clear c11
          replace H := Option.bind_eq_some_iff.mp H
          obtain ⟨t650,A120,H⟩ := H
          replace H : (if t650 = true then (if t645 = t647 then ((verdererlaw04_known.f k).bind fun t651 => (some t651)) else (none)) else (none)) = some r := H
          have A12 := Aside0.mk A120
          clear A120
          by_cases c13 : t650 = true
          · subst c13
            have H1 : (if t645 = t647 then ((verdererlaw04_known.f k).bind fun t651 => (some t651)) else (none)) = some r := by rw [if_pos rfl] at H;exact H
            clear H
            have H := H1
            clear H1
            by_cases c14 : t645 = t647
            · rw [if_pos c14] at H
              have c14b0 : (t645 == t647) = true := beq_iff_eq.mpr c14
              have c14b1 : (t645 != t647) = false := bne_eq_false_iff_eq.mpr c14
              clear c14
              replace H := Option.bind_eq_some_iff.mp H
              obtain ⟨t651,A150,H⟩ := H
              replace H : (some t651) = some r := H
              have A15 := Aside0.mk A150
              clear A150
              obtain rfl := Option.some.inj H
              go_enter Try.func9,Try.ntmps9
              go_wp2_with (first | ((with_reducible refine gate_callee (f := 37) rfl ?_);refine goesL_ (some 19) rfl rfl Try.func37 (by kernel_rfl) rfl #[.slice A0 l0.length c0] rfl (by (try simp only [List.map_toArray,List.map_cons,List.map_nil]);first | done | rfl | (simp only [List.length_drop,List.length_take];rfl)) ?_;(with_reducible refine (pack_First.calls k _ _ l0 t628 t629 t630 t631 t632 t633 _ ?side1 ?side2 A5.out).mono ?_);(case side1 => repeat (first | exact HR0.out | (with_reducible refine Kd.C_alloc ?_ _) | (with_reducible refine Kd.C_drewN ?_ _) | (with_reducible refine Kd.C_drew ?_)));(case side2 => exact HC0.out);rintro e w16 ⟨rfl,hb⟩;refine ⟨_,rfl,?_⟩;have n0_ := Aside0.mk (below_step (by repeat (first | (with_reducible first | exact HB.out | apply below_alloc | apply pw_below_drewN | apply below_drew1) | exact HB.out)) hb);clear HB;have HB := n0_;clear n0_;(try clear hb);(try clear hb2);(try clear hk);(try clear hi)) | ((with_reducible refine gate_dst (N := 3) rfl ?_);refine box_event ?hg (N := 3) ?hd (cs := #[.int .i64 0,.bool false,.int .i64 0,.string (⟨#[]⟩ : ByteArray)]) (t := 50) ?hr ?_;(case hd => rfl);(case hg => rfl);(case hr => first | (go_simp;done) | (go_simp;rfl));intro gb634 hg w17 hbox hb;have n0_ := Aside0.mk (below_step (by repeat (first | (with_reducible first | exact HB.out | apply below_alloc | apply pw_below_drewN | apply below_drew1) | exact HB.out)) hb);have n1_ := Aside0.mk (hbox);have n2_ := Aside0.mk ((by rw [hg];exact (below_size (by repeat (first | (with_reducible first | exact HB.out | apply below_alloc | apply pw_below_drewN | apply below_drew1) | exact HB.out))) : w.heap.size ≤ gb634));have n3_ := Aside0.mk ((by rw [hg];exact (below_size (by repeat (first | (with_reducible first | exact HB.out | apply below_alloc | apply pw_below_drewN | apply below_drew1) | exact HB.out))) : w.heap.size ≤ gb634));clear HB;have HB := n0_;have BK634 := n1_;have GW634 := n2_;have GE634 := n3_;clear n0_ n1_ n2_ n3_;clear hb hbox hg;have hcz18_0 : w17.cell? ⟨gb634,0,none⟩ = some (.int .i64 0) := (blk_cell BK634.out 0).trans rfl;have hcz18_1 : w17.cell? ⟨gb634,1,none⟩ = some (.bool false) := (blk_cell BK634.out 1).trans rfl;have hcz18_2 : w17.cell? ⟨gb634,2,none⟩ = some (.int .i64 0) := (blk_cell BK634.out 2).trans rfl;have hcz18_3 : w17.cell? ⟨gb634,3,none⟩ = some (.string (⟨#[]⟩ : ByteArray)) := (blk_cell BK634.out 3).trans rfl;have hfz18_0 := blk_frozen BK634.out 0;have hfz18_1 := blk_frozen BK634.out 1;have hfz18_2 := blk_frozen BK634.out 2;have hfz18_3 := blk_frozen BK634.out 3) | ((with_reducible refine gate_callee (f := 38) rfl ?_);refine goesL_ (some 25) rfl rfl Try.func38 (by kernel_rfl) rfl #[.slice A0 l0.length c0] rfl (by (try simp only [List.map_toArray,List.map_cons,List.map_nil]);first | done | rfl | (simp only [List.length_drop,List.length_take];rfl)) ?_;(with_reducible refine (verdererref04_First.calls k _ _ l0 t635 t636 t637 t638 t639 t640 _ ?side1 ?side2 A6.out).mono ?_);(case side1 => exact Kd.C_below HR0.out (by repeat (first | (with_reducible first | exact HB.out | apply below_alloc | apply pw_below_drewN | apply below_drew1 | refine below_set ?_ GE634.out) | exact HB.out)));(case side2 => exact HC0.out);rintro e w19 ⟨rfl,hb⟩;refine ⟨_,rfl,?_⟩;have n0_ := Aside0.mk (blk_below (g := gb634) (o := .cells #[.int .i64 t628,.bool t629,.int .i64 t630,.string t631] 50 (0,0)) (by (with_reducible repeat (first | refine blk_drewN ?_ _ | refine blk_drew ?_ | refine blk_alloc ?_ _));refine blk_put (cs := #[.int .i64 t628,.bool t629,.int .i64 t630,.string (⟨#[]⟩ : ByteArray)]) ?_ 3 _ rfl;(with_reducible repeat (first | refine blk_drewN ?_ _ | refine blk_drew ?_ | refine blk_alloc ?_ _));refine blk_put (cs := #[.int .i64 t628,.bool t629,.int .i64 0,.string (⟨#[]⟩ : ByteArray)]) ?_ 2 _ rfl;(with_reducible repeat (first | refine blk_drewN ?_ _ | refine blk_drew ?_ | refine blk_alloc ?_ _));refine blk_put (cs := #[.int .i64 t628,.bool false,.int .i64 0,.string (⟨#[]⟩ : ByteArray)]) ?_ 1 _ rfl;(with_reducible repeat (first | refine blk_drewN ?_ _ | refine blk_drew ?_ | refine blk_alloc ?_ _));refine blk_put (cs := #[.int .i64 0,.bool false,.int .i64 0,.string (⟨#[]⟩ : ByteArray)]) ?_ 0 _ rfl;(with_reducible repeat (first | refine blk_drewN ?_ _ | refine blk_drew ?_ | refine blk_alloc ?_ _));exact BK634.out) hb);have n1_ := Aside0.mk (below_step (by repeat (first | (with_reducible first | exact HB.out | apply below_alloc | apply pw_below_drewN | apply below_drew1 | refine below_set ?_ GE634.out) | exact HB.out)) hb);clear BK634;clear HB;have BK634 := n0_;have HB := n1_;clear n0_ n1_;(try clear hb);(try clear hb2);(try clear hk);(try clear hi)) | ((with_reducible refine gate_dst (N := 6) rfl ?_);refine box_event ?hg (N := 6) ?hd (cs := #[.int .i64 0,.bool false,.int .i64 0,.string (⟨#[]⟩ : ByteArray)]) (t := 50) ?hr ?_;(case hd => rfl);(case hg => rfl);(case hr => first | (go_simp;done) | (go_simp;rfl));intro gb641 hg w20 hbox hb;have n0_ := Aside0.mk (blk_below (g := gb634) (o := .cells #[.int .i64 t628,.bool t629,.int .i64 t630,.string t631] 50 (0,0)) (by (with_reducible repeat (first | refine blk_drewN ?_ _ | refine blk_drew ?_ | refine blk_alloc ?_ _));exact BK634.out) hb);have n1_ := Aside0.mk (below_step (by repeat (first | (with_reducible first | exact HB.out | apply below_alloc | apply pw_below_drewN | apply below_drew1 | refine below_set ?_ GE634.out) | exact HB.out)) hb);have n2_ := Aside0.mk (hbox);have n3_ := Aside0.mk ((by rw [hg];exact (below_size (by repeat (first | (with_reducible first | exact HB.out | apply below_alloc | apply pw_below_drewN | apply below_drew1 | refine below_set ?_ GE634.out) | exact HB.out))) : w.heap.size ≤ gb641));have n4_ := Aside0.mk ((by rw [hg];exact (below_size (by repeat (first | (with_reducible first | exact HB.out | apply below_alloc | apply pw_below_drewN | apply below_drew1 | refine below_set ?_ GE634.out) | exact HB.out))) : w.heap.size ≤ gb641));have n5_ := Aside0.mk ((by rw [hg];exact Nat.ne_of_lt (blk_lt (g := gb634) (o := .cells #[.int .i64 t628,.bool t629,.int .i64 t630,.string t631] 50 (0,0)) (by (with_reducible repeat (first | refine blk_drewN ?_ _ | refine blk_drew ?_ | refine blk_alloc ?_ _));exact BK634.out)) : gb634 ≠ gb641));have n6_ := Aside0.mk ((by rw [hg];exact Nat.ne_of_gt (blk_lt (g := gb634) (o := .cells #[.int .i64 t628,.bool t629,.int .i64 t630,.string t631] 50 (0,0)) (by (with_reducible repeat (first | refine blk_drewN ?_ _ | refine blk_drew ?_ | refine blk_alloc ?_ _));exact BK634.out)) : gb641 ≠ gb634));clear BK634;clear HB;have BK634 := n0_;have HB := n1_;have BK641 := n2_;have GW641 := n3_;have GE641 := n4_;have NB634_641 := n5_;have NB641_634 := n6_;clear n0_ n1_ n2_ n3_ n4_ n5_ n6_;clear hb hbox hg;have hnb21 := NB641_634.out;have hnc21 := NB634_641.out;have hcz22_0 : w20.cell? ⟨gb641,0,none⟩ = some (.int .i64 0) := (blk_cell BK641.out 0).trans rfl;have hcz22_1 : w20.cell? ⟨gb641,1,none⟩ = some (.bool false) := (blk_cell BK641.out 1).trans rfl;have hcz22_2 : w20.cell? ⟨gb641,2,none⟩ = some (.int .i64 0) := (blk_cell BK641.out 2).trans rfl;have hcz22_3 : w20.cell? ⟨gb641,3,none⟩ = some (.string (⟨#[]⟩ : ByteArray)) := (blk_cell BK641.out 3).trans rfl;have hfz22_0 := blk_frozen BK641.out 0;have hfz22_1 := blk_frozen BK641.out 1;have hfz22_2 := blk_frozen BK641.out 2;have hfz22_3 := blk_frozen BK641.out 3) | ((with_reducible refine gate_store (t := 50) (p := 6) rfl ?_);refine store_event (t := 50) (p := 6) (v := ?vo_w23) (w1 := ((((w20.setCell ⟨gb641,0,none⟩ (.int .i64 t635)).setCell ⟨gb641,1,none⟩ (.bool t636)).setCell ⟨gb641,2,none⟩ (.int .i64 t637)).setCell ⟨gb641,3,none⟩ (.string t638))) ?hg ?ho ?hn ?hr ?_;(case ho => rfl);(case hg => rfl);(case hn => rfl);(case hr => first | (go_simp;done) | (go_simp;rfl));intro w23 hw;have n0_ : Aside0 (w23.heap[gb634]? = some (.cells #[.int .i64 t628,.bool t629,.int .i64 t630,.string t631] 50 (0,0))) := ⟨(by rw [hw];exact (by (with_reducible repeat (first | refine blk_drewN ?_ _ | refine blk_drew ?_ | refine blk_alloc ?_ _));refine blk_far ?_ NB634_641.out _;(with_reducible repeat (first | refine blk_drewN ?_ _ | refine blk_drew ?_ | refine blk_alloc ?_ _));refine blk_far ?_ NB634_641.out _;(with_reducible repeat (first | refine blk_drewN ?_ _ | refine blk_drew ?_ | refine blk_alloc ?_ _));refine blk_far ?_ NB634_641.out _;(with_reducible repeat (first | refine blk_drewN ?_ _ | refine blk_drew ?_ | refine blk_alloc ?_ _));refine blk_far ?_ NB634_641.out _;(with_reducible repeat (first | refine blk_drewN ?_ _ | refine blk_drew ?_ | refine blk_alloc ?_ _));exact BK634.out))⟩;have n1_ : Aside0 (w23.heap[gb641]? = some (.cells #[.int .i64 t635,.bool t636,.int .i64 t637,.string t638] 50 (0,0))) := ⟨(by rw [hw];exact (by (with_reducible repeat (first | refine blk_drewN ?_ _ | refine blk_drew ?_ | refine blk_alloc ?_ _));refine blk_put (cs := #[.int .i64 t635,.bool t636,.int .i64 t637,.string (⟨#[]⟩ : ByteArray)]) ?_ 3 _ rfl;(with_reducible repeat (first | refine blk_drewN ?_ _ | refine blk_drew ?_ | refine blk_alloc ?_ _));refine blk_put (cs := #[.int .i64 t635,.bool t636,.int .i64 0,.string (⟨#[]⟩ : ByteArray)]) ?_ 2 _ rfl;(with_reducible repeat (first | refine blk_drewN ?_ _ | refine blk_drew ?_ | refine blk_alloc ?_ _));refine blk_put (cs := #[.int .i64 t635,.bool false,.int .i64 0,.string (⟨#[]⟩ : ByteArray)]) ?_ 1 _ rfl;(with_reducible repeat (first | refine blk_drewN ?_ _ | refine blk_drew ?_ | refine blk_alloc ?_ _));refine blk_put (cs := #[.int .i64 0,.bool false,.int .i64 0,.string (⟨#[]⟩ : ByteArray)]) ?_ 0 _ rfl;(with_reducible repeat (first | refine blk_drewN ?_ _ | refine blk_drew ?_ | refine blk_alloc ?_ _));exact BK641.out))⟩;have n2_ : Aside0 (Below w.heap.size w w23) := ⟨(by rw [hw];exact (by repeat (first | (with_reducible first | exact HB.out | apply below_alloc | apply pw_below_drewN | apply below_drew1 | refine below_set ?_ GE634.out | refine below_set ?_ GE641.out) | exact HB.out)))⟩;clear hw;clear BK634;clear BK641;clear HB;have BK634 := n0_;have BK641 := n1_;have HB := n2_;clear n0_ n1_ n2_) | ((with_reducible refine gate_callee (f := 39) rfl ?_);refine goesL_ (some 31) rfl rfl Try.func39 (by kernel_rfl) rfl #[.slice A0 l0.length c0] rfl (by (try simp only [List.map_toArray,List.map_cons,List.map_nil]);first | done | rfl | (simp only [List.length_drop,List.length_take];rfl)) ?_;(with_reducible refine (pack_Back.calls k (fun k_ => k_ < w.heap.size) _ _ l0 t642 t645 _ ?side1 A7.out).mono ?_);(case side1 => exact Kd.V_mk HC0.out (Kd.F_below (Kd.C_F (Kd.heap_int .u8) HR0.out) (by repeat (first | (with_reducible first | exact HB.out | apply below_alloc | apply pw_below_drewN | apply below_drew1 | refine below_set ?_ GE634.out | refine below_set ?_ GE641.out) | exact HB.out))));rintro e w24 ⟨v643,rfl,ho0,hb⟩;refine ⟨_,rfl,?_⟩;have n0_ := Aside0.mk (Kd.R_lower (Kd.R_newB (Kd.R_newB (Kd.R_mono (ok' := fun k_ => True) ho0 (fun _ hk_ => trivial)) (g := gb634) (o := .cells #[.int .i64 t628,.bool t629,.int .i64 t630,.string t631] 50 (0,0)) (by (with_reducible repeat (first | refine blk_drewN ?_ _ | refine blk_drew ?_ | refine blk_alloc ?_ _));exact BK634.out)) (g := gb641) (o := .cells #[.int .i64 t635,.bool t636,.int .i64 t637,.string t638] 50 (0,0)) (by (with_reducible repeat (first | refine blk_drewN ?_ _ | refine blk_drew ?_ | refine blk_alloc ?_ _));exact BK641.out)) (below_size (by repeat (first | (with_reducible first | exact HB.out | apply below_alloc | apply pw_below_drewN | apply below_drew1 | refine below_set ?_ GE634.out | refine below_set ?_ GE641.out) | exact HB.out))));have n1_ := Aside0.mk (blk_below (g := gb634) (o := .cells #[.int .i64 t628,.bool t629,.int .i64 t630,.string t631] 50 (0,0)) (by (with_reducible repeat (first | refine blk_drewN ?_ _ | refine blk_drew ?_ | refine blk_alloc ?_ _));exact BK634.out) hb);have n2_ := Aside0.mk (blk_below (g := gb641) (o := .cells #[.int .i64 t635,.bool t636,.int .i64 t637,.string t638] 50 (0,0)) (by (with_reducible repeat (first | refine blk_drewN ?_ _ | refine blk_drew ?_ | refine blk_alloc ?_ _));exact BK641.out) hb);have n3_ := Aside0.mk (below_step (by repeat (first | (with_reducible first | exact HB.out | apply below_alloc | apply pw_below_drewN | apply below_drew1 | refine below_set ?_ GE634.out | refine below_set ?_ GE641.out) | exact HB.out)) hb);clear BK634;clear BK641;clear HB;have HO644 := n0_;have BK634 := n1_;have BK641 := n2_;have HB := n3_;clear n0_ n1_ n2_ n3_;(try clear hb);(try clear hb2);(try clear hk);(try clear hi);(try clear ho0)) | ((with_reducible refine gate_callee (f := 40) rfl ?_);refine goesL_ (some 36) rfl rfl Try.func40 (by kernel_rfl) rfl #[.slice A0 l0.length c0] rfl (by (try simp only [List.map_toArray,List.map_cons,List.map_nil]);first | done | rfl | (simp only [List.length_drop,List.length_take];rfl)) ?_;(with_reducible refine (verdererref04_Back.calls k _ _ l0 t646 t647 _ ?side1 ?side2 A8.out).mono ?_);(case side1 => repeat (first | exact (Kd.C_below HR0.out HB.out) | (with_reducible refine Kd.C_alloc ?_ _) | (with_reducible refine Kd.C_drewN ?_ _) | (with_reducible refine Kd.C_drew ?_)));(case side2 => exact HC0.out);rintro e w25 ⟨v648,rfl,ho0,hb⟩;refine ⟨_,rfl,?_⟩;have n0_ := Aside0.mk (Kd.R_elder' (by (with_reducible repeat (first | apply Kd.R_alloc | apply Kd.R_drewN | apply Kd.R_drew));exact HO644.out) (Kd.R_base ho0) hb);have n1_ := Aside0.mk (Kd.R_lower (Kd.R_newB (Kd.R_newB (Kd.R_new' ho0 (Kd.R_lt (by (with_reducible repeat (first | apply Kd.R_alloc | apply Kd.R_drewN | apply Kd.R_drew));exact HO644.out))) (g := gb634) (o := .cells #[.int .i64 t628,.bool t629,.int .i64 t630,.string t631] 50 (0,0)) (by (with_reducible repeat (first | refine blk_drewN ?_ _ | refine blk_drew ?_ | refine blk_alloc ?_ _));exact BK634.out)) (g := gb641) (o := .cells #[.int .i64 t635,.bool t636,.int .i64 t637,.string t638] 50 (0,0)) (by (with_reducible repeat (first | refine blk_drewN ?_ _ | refine blk_drew ?_ | refine blk_alloc ?_ _));exact BK641.out)) (below_size (by repeat (first | (with_reducible first | exact HB.out | apply below_alloc | apply pw_below_drewN | apply below_drew1 | refine below_set ?_ GE634.out | refine below_set ?_ GE641.out) | exact HB.out))));have n2_ := Aside0.mk (blk_below (g := gb634) (o := .cells #[.int .i64 t628,.bool t629,.int .i64 t630,.string t631] 50 (0,0)) (by (with_reducible repeat (first | refine blk_drewN ?_ _ | refine blk_drew ?_ | refine blk_alloc ?_ _));exact BK634.out) hb);have n3_ := Aside0.mk (blk_below (g := gb641) (o := .cells #[.int .i64 t635,.bool t636,.int .i64 t637,.string t638] 50 (0,0)) (by (with_reducible repeat (first | refine blk_drewN ?_ _ | refine blk_drew ?_ | refine blk_alloc ?_ _));exact BK641.out) hb);have n4_ := Aside0.mk (below_step (by repeat (first | (with_reducible first | exact HB.out | apply below_alloc | apply pw_below_drewN | apply below_drew1 | refine below_set ?_ GE634.out | refine below_set ?_ GE641.out) | exact HB.out)) hb);clear HO644;clear BK634;clear BK641;clear HB;have HO644 := n0_;have HO649 := n1_;have BK634 := n2_;have BK641 := n3_;have HB := n4_;clear n0_ n1_ n2_ n3_ n4_;(try clear hb);(try clear hb2);(try clear hk);(try clear hi);(try clear ho0);have hcz26_0 : w25.cell? ⟨gb634,0,none⟩ = some (.int .i64 t628) := (blk_cell BK634.out 0).trans rfl;have hcz26_1 : w25.cell? ⟨gb634,1,none⟩ = some (.bool t629) := (blk_cell BK634.out 1).trans rfl;have hcz26_2 : w25.cell? ⟨gb634,2,none⟩ = some (.int .i64 t630) := (blk_cell BK634.out 2).trans rfl;have hcz26_3 : w25.cell? ⟨gb634,3,none⟩ = some (.string t631) := (blk_cell BK634.out 3).trans rfl;have hfz26_0 := blk_frozen BK634.out 0;have hfz26_1 := blk_frozen BK634.out 1;have hfz26_2 := blk_frozen BK634.out 2;have hfz26_3 := blk_frozen BK634.out 3;have hcz27_0 : w25.cell? ⟨gb641,0,none⟩ = some (.int .i64 t635) := (blk_cell BK641.out 0).trans rfl;have hcz27_1 : w25.cell? ⟨gb641,1,none⟩ = some (.bool t636) := (blk_cell BK641.out 1).trans rfl;have hcz27_2 : w25.cell? ⟨gb641,2,none⟩ = some (.int .i64 t637) := (blk_cell BK641.out 2).trans rfl;have hcz27_3 : w25.cell? ⟨gb641,3,none⟩ = some (.string t638) := (blk_cell BK641.out 3).trans rfl;have hfz27_0 := blk_frozen BK641.out 0;have hfz27_1 := blk_frozen BK641.out 1;have hfz27_2 := blk_frozen BK641.out 2;have hfz27_3 := blk_frozen BK641.out 3;obtain ⟨Ao28,co28,eo28⟩ := Kd.R_slice HO644.out;subst eo28;obtain ⟨Ao29,co29,eo29⟩ := Kd.R_slice HO649.out;subst eo29) | (go_at_call 16;(with_reducible refine (verdererref02_Equal.calls k _ _ t642 _ _ t646 true _ ?side1 ?side2 ?side3 ?side4 A12.out).mono ?_);(case side1 => repeat (first | exact (Kd.R_reads' HO644.out).2.2 | (with_reducible refine Kd.C_alloc ?_ _) | (with_reducible refine Kd.C_drewN ?_ _) | (with_reducible refine Kd.C_drew ?_)));(case side2 => exact (Kd.R_reads' HO644.out).2.1);(case side3 => repeat (first | exact (Kd.R_reads' HO649.out).2.2 | (with_reducible refine Kd.C_alloc ?_ _) | (with_reducible refine Kd.C_drewN ?_ _) | (with_reducible refine Kd.C_drew ?_)));(case side4 => exact (Kd.R_reads' HO649.out).2.1);rintro e w' ⟨rfl,⟨nd,rfl⟩⟩) | (go_at_call 32;(with_reducible refine (verdererlaw04_known.calls k  t651 _ A15.out).mono ?_);rintro e w30 ⟨rfl,hb⟩;have n0_ := Aside0.mk (Kd.R_below (by (with_reducible repeat (first | apply Kd.R_alloc | apply Kd.R_drewN | apply Kd.R_drew));exact HO644.out) hb);have n1_ := Aside0.mk (Kd.R_below (by (with_reducible repeat (first | apply Kd.R_alloc | apply Kd.R_drewN | apply Kd.R_drew));exact HO649.out) hb);have n2_ := Aside0.mk (blk_below (g := gb634) (o := .cells #[.int .i64 t628,.bool t629,.int .i64 t630,.string t631] 50 (0,0)) (by (with_reducible repeat (first | refine blk_drewN ?_ _ | refine blk_drew ?_ | refine blk_alloc ?_ _));exact BK634.out) hb);have n3_ := Aside0.mk (blk_below (g := gb641) (o := .cells #[.int .i64 t635,.bool t636,.int .i64 t637,.string t638] 50 (0,0)) (by (with_reducible repeat (first | refine blk_drewN ?_ _ | refine blk_drew ?_ | refine blk_alloc ?_ _));exact BK641.out) hb);have n4_ := Aside0.mk (below_step (by repeat (first | (with_reducible first | exact HB.out | apply below_alloc | apply pw_below_drewN | apply below_drew1 | refine below_set ?_ GE634.out | refine below_set ?_ GE641.out) | exact HB.out)) hb);clear HO644;clear HO649;clear BK634;clear BK641;clear HB;have HO644 := n0_;have HO649 := n1_;have BK634 := n2_;have BK641 := n3_;have HB := n4_;clear n0_ n1_ n2_ n3_ n4_;(try clear hb);(try clear hb2);(try clear hk);(try clear hi)))
              go_ret
              exact ⟨by first | rfl | (simp [errW_none,errW_some] <;> rfl) | (simp [*,errW_none,errW_some] <;> rfl),by repeat (first | (with_reducible first | exact HB.out | apply below_alloc | apply pw_below_drewN | apply below_drew1 | refine below_set ?_ GE634.out | refine below_set ?_ GE641.out) | exact HB.out)⟩
            · rw [if_neg c14] at H
              exact absurd H (by simp)
          · replace c13 := Bool.eq_false_iff.mpr c13
            subst c13
            have H1 : (none) = some r := by rw [if_neg (show ¬ (false = true) by decide)] at H;exact H
            clear H
            have H := H1
            clear H1
            exact absurd H (by simp)
        · rw [if_neg c11] at H
          exact absurd H (by simp)
      · rw [if_neg c10] at H
        exact absurd H (by simp)
    · rw [if_neg c9] at H
      exact absurd H (by simp)
end Go.Proofs.Ytfoaeigoajooeaa.Z
end
section
namespace Go.Proofs.YtfoaeigoajooeaaW.PrintWords
open Go.RowKit Go.ChangeShapes Go.WideShapes
section
variable {P : Program} {α β : Type}
def OfTrod (P : Program) (t : TypeId) (d : Kd α) (G : α → Prop) : Prop :=
  ∀ (H : Type) (enc : TypeId × Value → H) (w : World) (base : Nat) (spare : Nat → Bool) (held : Bool) (fuel : Nat) (cs : List Value) (x : DataW H × List MemPlace),DataW.trod enc P w base spare held fuel t cs = some x → ∃ s,d.K w s cs ∧ G s
theorem ofTrod_int {t : TypeId} {k : IntKind} (ht : P.underlying t = some (.int k)) : OfTrod P t (Kd.int k) (fun n => (Lit.int k n).wf = true) := by
  intro H enc w base spare held fuel cs x h
  obtain ⟨n,rfl,_,hw⟩ := DataW.trod_int ht h
  exact ⟨n,rfl,hw⟩
theorem list_of_all {n : Nat} {Q : Nat → α → Prop} (h : ∀ i,i < n → ∃ x,Q i x) : ∃ xs : List α,xs.length = n ∧ ∀ i x,xs[i]? = some x → Q i x := by
  induction n with
  | zero => exact ⟨[],rfl,fun i x hx => by simp at hx⟩
  | succ n ih =>
    obtain ⟨xs,hl,hx⟩ := ih (fun i hi => h i (by omega))
    obtain ⟨y,hy⟩ := h n (by omega)
    refine ⟨xs ++ [y],by simp [hl],fun i x hi => ?_⟩
    rcases Nat.lt_trichotomy i xs.length with hlt | rfl | hgt
    · rw [List.getElem?_append_left hlt] at hi
      exact hx i x hi
    · rw [List.getElem?_append_right (Nat.le_refl _)] at hi
      simp at hi
      subst hi
      rw [hl]
      exact hy
    · rw [List.getElem?_append_right (by omega),List.getElem?_eq_none (by simp;omega)] at hi
      cases hi
theorem ofTrod_slice {t e : TypeId} {d : Kd α} {G : α → Prop} (ht : P.underlying t = some (.slice e)) (hc : P.cellsOf e = d.sz) (h : OfTrod P e d G) :
    OfTrod P t (Kd.slice e d) (fun l => l.length ≤ maxLen ∧ ∀ x ∈ l,G x) := by
  intro H enc w base spare held fuel cs x hx
  rcases Go.Deep.open_slice ht hx with ⟨rfl,_⟩ | ⟨a,len,cap,m,n,D,Pl,rfl,_,hl,hm,hmm,_,hel⟩
  · exact ⟨[],⟨none,0,rfl,Nat.le_refl _,Kd.C_nil d w⟩,by simp,fun x hx => by simp at hx⟩
  · have hlm : len ≤ m := by rw [hmm];split <;> omega
    obtain ⟨xs,hxl,hxs⟩ := list_of_all (n := len) (Q := fun i s => ∃ cs',w.cells? base (a.add (i * P.cellsOf e)) (P.cellsOf e) = some cs' ∧ d.K w s cs' ∧ G s) (fun i hi => by
      obtain ⟨cs',h1,h2⟩ := hel i (by omega)
      obtain ⟨s,h3,h4⟩ := h _ _ _ _ _ _ _ _ _ h2
      exact ⟨s,cs',h1,h3,h4⟩)
    refine ⟨xs,⟨some a,cap,by rw [hxl],by omega,rfl,by rw [hxl];unfold maxLen at hm;omega,fun _ => ⟨a,rfl,fun j p hp => ?_⟩⟩,by omega,fun x hx => ?_⟩
    · obtain ⟨cs',h1,h2,_⟩ := hxs j p hp
      obtain ⟨_,hcl,hcell⟩ := World.cells?_some h1
      refine ⟨cs',by rw [hcl,hc],h2,fun i u hu => ?_⟩
      have hi : i < P.cellsOf e := by
        rw [← hcl]
        exact (List.getElem?_eq_some_iff.1 hu).1
      have := hcell i hi
      rw [Go.Deep.add_add,hc] at this
      rw [this]
      exact hu
    · obtain ⟨i,hi,rfl⟩ := List.getElem_of_mem hx
      obtain ⟨_,_,_,h4⟩ := hxs i xs[i] (List.getElem?_eq_getElem hi)
      exact h4
theorem cell_heap {w w' : World} (h : w.heap = w'.heap) (a : Addr) : w'.cell? a = w.cell? a := by unfold World.cell?;rw [h]
end
end Go.Proofs.YtfoaeigoajooeaaW.PrintWords
end
section
namespace Go.Proofs.Ytfoaeigoajooeaa.Z
open Go.RowKit Go.Proofs.YtfoaeigoajooeaaW.PrintWords Go.Proofs.YtfoaeigoajooeaaW.PrintLast Go.Proofs.YtfoaeigoajooeaaW.PrintMore
set_option maxRecDepth 100000
end Go.Proofs.Ytfoaeigoajooeaa.Z
end
