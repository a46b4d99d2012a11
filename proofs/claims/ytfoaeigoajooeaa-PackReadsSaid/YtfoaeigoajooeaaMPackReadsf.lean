/-
  verdererlaw04.PackReads: for every input the law returns true, and each argument reads behind the call as it read before. No condition.
-/
import Derived.Test.YtfoaeigoajooeaaMPackReadsa
import Derived.Test.YtfoaeigoajooeaaMPackReadsb
import Derived.Test.YtfoaeigoajooeaaMPackReadsc
import Derived.Test.YtfoaeigoajooeaaMPackReadsd
import Derived.Test.YtfoaeigoajooeaaMPackReadse
import Derived.Lib.Bytealg
import Derived.Laws.Bits64b
import Derived.Laws.BitsLemmas
import Derived.Test.YtfoaeigoajooeaaRows
import Derived.WalkKit
import Derived.ProofKit
import Derived.OpenShut
import Derived.ShutString
import Derived.ChangeOld
import Derived.Below
section
namespace Go.Proofs.Ytfoaeigoajooeaa.Z
open Go.RowKit Go.Proofs.YtfoaeigoajooeaaW.PrintWords Go.Proofs.YtfoaeigoajooeaaW.PrintLast Go.Proofs.YtfoaeigoajooeaaW.PrintMore
attribute [local go_sem] max2_int min2_int max_two min_two max_three min_three max_four min_four
set_option linter.unusedVariables false
set_option linter.unusedSimpArgs false
def slices_CompareFunc.l0 : Nat → List (S50) → List (S50) → List (S50) → Int → Int → Option (Int)
  | 0,_,_,_,_,_ => none
  | k + 1,x0,x1,x11,x12,x13 => if x13 < x12 then (if 0 ≤ x13 then (if x13 < (x11.length : Int) then (if x13 ≥ (x1.length : Int) then (some 1) else (if x13 < (x1.length : Int) then ((value_Compare.f ((rd_T50 x11 x13).f0) ((rd_T50 x11 x13).f1) ((rd_T50 x11 x13).f2) ((rd_T50 x11 x13).f3) ((rd_T50 x1 x13).f0) ((rd_T50 x1 x13).f1) ((rd_T50 x1 x13).f2) ((rd_T50 x1 x13).f3)).bind fun t138 => (if t138 = 0 then (slices_CompareFunc.l0 k x0 x1 x11 x12 (wrap64 (x13 + 1))) else (some t138))) else (none))) else (none)) else (none)) else (if (x0.length : Int) < (x1.length : Int) then (some (-1)) else (some 0))
def slices_CompareFunc.f (k : Nat) (l0 : List (S50)) (l1 : List (S50)) (a2 : Int) : Option (Int) := slices_CompareFunc.l0 k l0 l1 l0 (l0.length : Int) 0
theorem slices_CompareFunc.mono_l : ∀ k,(∀ y0 y1 y2 y3 y4,LeO (slices_CompareFunc.l0 k y0 y1 y2 y3 y4) (slices_CompareFunc.l0 (k + 1) y0 y1 y2 y3 y4))
  | 0 => fun _ _ _ _ _ r h => by simp [slices_CompareFunc.l0] at h
  | k + 1 => by
    have ih0 := slices_CompareFunc.mono_l k
    · intro y0 y1 y2 y3 y4
      unfold slices_CompareFunc.l0
      repeat' first
      | (with_reducible exact ih0 _ _ _ _ _)
      | (with_reducible exact LeO.refl _)
      | (with_reducible exact LeO.none _)
      | (with_reducible refine LeO.ite ?_ ?_)
      | (with_reducible refine LeO.bind ?_ (fun _ => ?_))
      | exact ih0 _ _ _ _ _
      | exact LeO.none _
      | refine LeO.ite ?_ ?_
      | refine LeO.bind ?_ (fun _ => ?_)
theorem slices_CompareFunc.mono : ∀ a0 a1 a2 k,LeO (slices_CompareFunc.f k a0 a1 a2) (slices_CompareFunc.f (k + 1) a0 a1 a2) := by
  intro a0 a1 a2 k
  have ih0 := slices_CompareFunc.mono_l k
  unfold slices_CompareFunc.f
  repeat' first
      | (with_reducible exact ih0 _ _ _ _ _)
      | (with_reducible exact LeO.refl _)
      | (with_reducible exact LeO.none _)
      | (with_reducible refine LeO.ite ?_ ?_)
      | (with_reducible refine LeO.bind ?_ (fun _ => ?_))
      | exact ih0 _ _ _ _ _
      | exact LeO.none _
      | refine LeO.ite ?_ ?_
      | refine LeO.bind ?_ (fun _ => ?_)
set_option maxHeartbeats 8000000 in
set_option maxRecDepth 100000 in
theorem slices_CompareFunc.calls (k : Nat) (A0 : Option Addr) (c0 : Nat) (l0 : List (S50)) (A1 : Option Addr) (c1 : Nat) (l1 : List (S50)) (a2 : Int) (r : Int) (w : World) (hr0 : Kd.C k50 w A0 l0.length l0) (hc0 : l0.length ≤ c0) (hr1 : Kd.C k50 w A1 l1.length l1) (hc1 : l1.length ≤ c1) (h : slices_CompareFunc.f k l0 l1 a2 = some r) :
    Calls Try.prog 45 #[.slice A0 l0.length c0,.slice A1 l1.length c1,.func (.func 46) #[] #[]] w fun e w' => e = .returned (.int .i64 r) ∧ Below w.heap.size w w' := by
  have hu50 := Try.underlying50
  have HR0 := Aside0.mk hr0
  have HC0 := Aside0.mk hc0
  clear hr0 hc0
  have HR1 := Aside0.mk hr1
  have HC1 := Aside0.mk hc1
  clear hr1 hc1
  have HB := Aside0.mk (Below.refl w.heap.size w)
  have H : (slices_CompareFunc.l0 k l0 l1 l0 (l0.length : Int) 0) = some r := h
  clear h
  have H' := Aside0.mk H
  clear H
  go_enter Try.func45,Try.ntmps45
  go_wp2
  go_loopg [13] k (fun kq v13 w' => ∃ (x13_1 : Int),v13 = .int .i64 x13_1 ∧ Aside0 (slices_CompareFunc.l0 kq l0 l1 l0 (l0.length : Int) x13_1 = some r) ∧ Aside0 (kq ≤ k) ∧ Aside0 (Below w.heap.size w w'))
  case atStart => exact ⟨(0),(by first | rfl | (simp;done) | (simp [*];done)),H',⟨Nat.le_refl _⟩,⟨by repeat (first | (with_reducible first | exact HB.out | apply below_alloc | apply pw_below_drewN | apply below_drew1) | exact HB.out)⟩⟩
  case round =>
    clear H'
    try clear c1
    try clear p2
    obtain ⟨x13_1,rfl,HA,HK1,HB⟩ := hrel
    cases gk with
    | zero => exact absurd HA.out (by simp [slices_CompareFunc.l0])
    | succ k1 =>
      have H := HA.out
      clear HA
      simp only [slices_CompareFunc.l0] at H
      by_cases c4 : x13_1 < (l0.length : Int)
      · rw [if_pos c4] at H
        have c4b0 : decide (x13_1 < (l0.length : Int)) = true := decide_eq_true c4
        clear c4
        by_cases c5 : 0 ≤ x13_1
        · rw [if_pos c5] at H
          have c5b0 : decide (0 ≤ x13_1) = true := decide_eq_true c5
          clear c5
          by_cases c6 : x13_1 < (l0.length : Int)
          · rw [if_pos c6] at H
            have c6b0 : decide (x13_1 < (l0.length : Int)) = true := decide_eq_true c6
            clear c6
            by_cases c7 : x13_1 ≥ (l1.length : Int)
            · rw [if_pos c7] at H
              have c7b0 : decide ((l1.length : Int) ≤ x13_1) = true := decide_eq_true c7
              clear c7
              obtain rfl := Option.some.inj H
              have p134 : 0 ≤ (x13_1 : Int) := of_decide_eq_true (by first | (with_reducible assumption) | assumption)
              have q134 : x13_1 < (l0.length : Int) := of_decide_eq_true (by first | (with_reducible assumption) | assumption)
              obtain ⟨ad134,e134,hx134_0,hx134_1,hx134_2,hx134_3⟩ := at_T50 HR0.out x13_1 p134 q134
              cases e134
              replace hx134_0 := (HB.out.cell (World.block_lt_of_cell? w _ hx134_0)).trans hx134_0
              replace hx134_1 := (HB.out.cell (World.block_lt_of_cell? w _ hx134_1)).trans hx134_1
              replace hx134_2 := (HB.out.cell (World.block_lt_of_cell? w _ hx134_2)).trans hx134_2
              replace hx134_3 := (HB.out.cell (World.block_lt_of_cell? w _ hx134_3)).trans hx134_3
              replace p134 := eq_true p134
              replace q134 := eq_true q134
              go_wp2_with (first | ((with_reducible refine gate_dst (N := 8) rfl ?_);refine box_event ?hg (N := 8) ?hd (cs := #[.int .i64 0,.bool false,.int .i64 0,.string (⟨#[]⟩ : ByteArray)]) (t := 50) ?hr ?_;(case hd => rfl);(case hg => rfl);(case hr => first | (go_simp;done) | (go_simp;rfl));intro gb135 hg w8 hbox hb;have n0_ := Aside0.mk (below_step (by repeat (first | (with_reducible first | exact HB.out | apply below_alloc | apply pw_below_drewN | apply below_drew1) | exact HB.out)) hb);have n1_ := Aside0.mk (hbox);have n2_ := Aside0.mk ((by rw [hg];exact (below_size (by repeat (first | (with_reducible first | exact HB.out | apply below_alloc | apply pw_below_drewN | apply below_drew1) | exact HB.out))) : w.heap.size ≤ gb135));have n3_ := Aside0.mk ((by rw [hg];exact (below_size (by repeat (first | (with_reducible first | exact HB.out | apply below_alloc | apply pw_below_drewN | apply below_drew1) | exact HB.out))) : w.heap.size ≤ gb135));clear HB;have HB := n0_;have BK135 := n1_;have GW135 := n2_;have GE135 := n3_;clear n0_ n1_ n2_ n3_;clear hb hbox hg;have hcz9_0 : w8.cell? ⟨gb135,0,none⟩ = some (.int .i64 0) := (blk_cell BK135.out 0).trans rfl;have hcz9_1 : w8.cell? ⟨gb135,1,none⟩ = some (.bool false) := (blk_cell BK135.out 1).trans rfl;have hcz9_2 : w8.cell? ⟨gb135,2,none⟩ = some (.int .i64 0) := (blk_cell BK135.out 2).trans rfl;have hcz9_3 : w8.cell? ⟨gb135,3,none⟩ = some (.string (⟨#[]⟩ : ByteArray)) := (blk_cell BK135.out 3).trans rfl;have hfz9_0 := blk_frozen BK135.out 0;have hfz9_1 := blk_frozen BK135.out 1;have hfz9_2 := blk_frozen BK135.out 2;have hfz9_3 := blk_frozen BK135.out 3))
              go_ret
              exact ⟨by first | rfl | (simp [errW_none,errW_some] <;> rfl) | (simp [*,errW_none,errW_some] <;> rfl),by repeat (first | (with_reducible first | exact HB.out | apply below_alloc | apply pw_below_drewN | apply below_drew1 | refine below_set ?_ GE135.out) | exact HB.out)⟩
            · rw [if_neg c7] at H
              have c7b0 : decide ((l1.length : Int) ≤ x13_1) = false := decide_eq_false c7
              clear c7
              by_cases c10 : x13_1 < (l1.length : Int)
              · rw [if_pos c10] at H
                have c10b0 : decide (x13_1 < (l1.length : Int)) = true := decide_eq_true c10
                clear c10
                replace H := Option.bind_eq_some_iff.mp H
                obtain ⟨t138,A110,H⟩ := H
                replace H : (if t138 = 0 then (slices_CompareFunc.l0 k1 l0 l1 l0 (l0.length : Int) (wrap64 (x13_1 + 1))) else (some t138)) = some r := H
                have A11 := Aside0.mk A110
                clear A110
                by_cases c12 : t138 = 0
                · rw [if_pos c12] at H
                  have c12b0 : (t138 == 0) = true := beq_iff_eq.mpr c12
                  have c12b1 : (t138 != 0) = false := bne_eq_false_iff_eq.mpr c12
                  clear c12
                  have H' := Aside0.mk H
                  clear H
                  have p134 : 0 ≤ (x13_1 : Int) := of_decide_eq_true (by first | (with_reducible assumption) | assumption)
                  have q134 : x13_1 < (l0.length : Int) := of_decide_eq_true (by first | (with_reducible assumption) | assumption)
                  obtain ⟨ad134,e134,hx134_0,hx134_1,hx134_2,hx134_3⟩ := at_T50 HR0.out x13_1 p134 q134
                  cases e134
                  replace hx134_0 := (HB.out.cell (World.block_lt_of_cell? w _ hx134_0)).trans hx134_0
                  replace hx134_1 := (HB.out.cell (World.block_lt_of_cell? w _ hx134_1)).trans hx134_1
                  replace hx134_2 := (HB.out.cell (World.block_lt_of_cell? w _ hx134_2)).trans hx134_2
                  replace hx134_3 := (HB.out.cell (World.block_lt_of_cell? w _ hx134_3)).trans hx134_3
                  replace p134 := eq_true p134
                  replace q134 := eq_true q134
                  go_wp2_with (first | ((with_reducible refine gate_dst (N := 8) rfl ?_);refine box_event ?hg (N := 8) ?hd (cs := #[.int .i64 0,.bool false,.int .i64 0,.string (⟨#[]⟩ : ByteArray)]) (t := 50) ?hr ?_;(case hd => rfl);(case hg => rfl);(case hr => first | (go_simp;done) | (go_simp;rfl));intro gb135 hg w13 hbox hb;have n0_ := Aside0.mk (below_step (by repeat (first | (with_reducible first | exact HB.out | apply below_alloc | apply pw_below_drewN | apply below_drew1) | exact HB.out)) hb);have n1_ := Aside0.mk (hbox);have n2_ := Aside0.mk ((by rw [hg];exact (below_size (by repeat (first | (with_reducible first | exact HB.out | apply below_alloc | apply pw_below_drewN | apply below_drew1) | exact HB.out))) : w.heap.size ≤ gb135));have n3_ := Aside0.mk ((by rw [hg];exact (below_size (by repeat (first | (with_reducible first | exact HB.out | apply below_alloc | apply pw_below_drewN | apply below_drew1) | exact HB.out))) : w.heap.size ≤ gb135));clear HB;have HB := n0_;have BK135 := n1_;have GW135 := n2_;have GE135 := n3_;clear n0_ n1_ n2_ n3_;clear hb hbox hg;have hcz14_0 : w13.cell? ⟨gb135,0,none⟩ = some (.int .i64 0) := (blk_cell BK135.out 0).trans rfl;have hcz14_1 : w13.cell? ⟨gb135,1,none⟩ = some (.bool false) := (blk_cell BK135.out 1).trans rfl;have hcz14_2 : w13.cell? ⟨gb135,2,none⟩ = some (.int .i64 0) := (blk_cell BK135.out 2).trans rfl;have hcz14_3 : w13.cell? ⟨gb135,3,none⟩ = some (.string (⟨#[]⟩ : ByteArray)) := (blk_cell BK135.out 3).trans rfl;have hfz14_0 := blk_frozen BK135.out 0;have hfz14_1 := blk_frozen BK135.out 1;have hfz14_2 := blk_frozen BK135.out 2;have hfz14_3 := blk_frozen BK135.out 3;have p136 : 0 ≤ (x13_1 : Int) := of_decide_eq_true (by first | (with_reducible assumption) | assumption);have q136 : x13_1 < (l1.length : Int) := of_decide_eq_true (by first | (with_reducible assumption) | assumption);obtain ⟨ad136,e136,hx136_0,hx136_1,hx136_2,hx136_3⟩ := at_T50 HR1.out x13_1 p136 q136;cases e136;have hn136_0 : ad136.block ≠ gb135 := Nat.ne_of_lt (Nat.lt_of_lt_of_le (by have := World.block_lt_of_cell? _ _ hx136_0;first | rwa [add_block] at this | exact this) GW135.out);have hn136_1 : ad136.block ≠ gb135 := Nat.ne_of_lt (Nat.lt_of_lt_of_le (by have := World.block_lt_of_cell? _ _ hx136_0;first | rwa [add_block] at this | exact this) GW135.out);have hn136_2 : ad136.block ≠ gb135 := Nat.ne_of_lt (Nat.lt_of_lt_of_le (by have := World.block_lt_of_cell? _ _ hx136_0;first | rwa [add_block] at this | exact this) GW135.out);have hn136_3 : ad136.block ≠ gb135 := Nat.ne_of_lt (Nat.lt_of_lt_of_le (by have := World.block_lt_of_cell? _ _ hx136_0;first | rwa [add_block] at this | exact this) GW135.out);replace hx136_0 := (HB.out.cell (World.block_lt_of_cell? w _ hx136_0)).trans hx136_0;replace hx136_1 := (HB.out.cell (World.block_lt_of_cell? w _ hx136_1)).trans hx136_1;replace hx136_2 := (HB.out.cell (World.block_lt_of_cell? w _ hx136_2)).trans hx136_2;replace hx136_3 := (HB.out.cell (World.block_lt_of_cell? w _ hx136_3)).trans hx136_3;replace hx136_0 := (cell_far (p := ⟨gb135,0,none⟩) (by first | (rw [add_block];exact hn136_0) | (show (Addr.add _ _).block ≠ _;rw [add_block];exact hn136_0) | exact hn136_0) (.int .i64 ((rd_T50 l0 x13_1).f0))).trans hx136_0;replace hx136_1 := (cell_far (p := ⟨gb135,0,none⟩) (by first | (rw [add_block];exact hn136_0) | (show (Addr.add _ _).block ≠ _;rw [add_block];exact hn136_0) | exact hn136_0) (.int .i64 ((rd_T50 l0 x13_1).f0))).trans hx136_1;replace hx136_2 := (cell_far (p := ⟨gb135,0,none⟩) (by first | (rw [add_block];exact hn136_0) | (show (Addr.add _ _).block ≠ _;rw [add_block];exact hn136_0) | exact hn136_0) (.int .i64 ((rd_T50 l0 x13_1).f0))).trans hx136_2;replace hx136_3 := (cell_far (p := ⟨gb135,0,none⟩) (by first | (rw [add_block];exact hn136_0) | (show (Addr.add _ _).block ≠ _;rw [add_block];exact hn136_0) | exact hn136_0) (.int .i64 ((rd_T50 l0 x13_1).f0))).trans hx136_3;replace hx136_0 := (cell_far (p := ⟨gb135,1,none⟩) (by first | (rw [add_block];exact hn136_1) | (show (Addr.add _ _).block ≠ _;rw [add_block];exact hn136_1) | exact hn136_1) (.bool ((rd_T50 l0 x13_1).f1))).trans hx136_0;replace hx136_1 := (cell_far (p := ⟨gb135,1,none⟩) (by first | (rw [add_block];exact hn136_1) | (show (Addr.add _ _).block ≠ _;rw [add_block];exact hn136_1) | exact hn136_1) (.bool ((rd_T50 l0 x13_1).f1))).trans hx136_1;replace hx136_2 := (cell_far (p := ⟨gb135,1,none⟩) (by first | (rw [add_block];exact hn136_1) | (show (Addr.add _ _).block ≠ _;rw [add_block];exact hn136_1) | exact hn136_1) (.bool ((rd_T50 l0 x13_1).f1))).trans hx136_2;replace hx136_3 := (cell_far (p := ⟨gb135,1,none⟩) (by first | (rw [add_block];exact hn136_1) | (show (Addr.add _ _).block ≠ _;rw [add_block];exact hn136_1) | exact hn136_1) (.bool ((rd_T50 l0 x13_1).f1))).trans hx136_3;replace hx136_0 := (cell_far (p := ⟨gb135,2,none⟩) (by first | (rw [add_block];exact hn136_2) | (show (Addr.add _ _).block ≠ _;rw [add_block];exact hn136_2) | exact hn136_2) (.int .i64 ((rd_T50 l0 x13_1).f2))).trans hx136_0;replace hx136_1 := (cell_far (p := ⟨gb135,2,none⟩) (by first | (rw [add_block];exact hn136_2) | (show (Addr.add _ _).block ≠ _;rw [add_block];exact hn136_2) | exact hn136_2) (.int .i64 ((rd_T50 l0 x13_1).f2))).trans hx136_1;replace hx136_2 := (cell_far (p := ⟨gb135,2,none⟩) (by first | (rw [add_block];exact hn136_2) | (show (Addr.add _ _).block ≠ _;rw [add_block];exact hn136_2) | exact hn136_2) (.int .i64 ((rd_T50 l0 x13_1).f2))).trans hx136_2;replace hx136_3 := (cell_far (p := ⟨gb135,2,none⟩) (by first | (rw [add_block];exact hn136_2) | (show (Addr.add _ _).block ≠ _;rw [add_block];exact hn136_2) | exact hn136_2) (.int .i64 ((rd_T50 l0 x13_1).f2))).trans hx136_3;replace hx136_0 := (cell_far (p := ⟨gb135,3,none⟩) (by first | (rw [add_block];exact hn136_3) | (show (Addr.add _ _).block ≠ _;rw [add_block];exact hn136_3) | exact hn136_3) (.string ((rd_T50 l0 x13_1).f3))).trans hx136_0;replace hx136_1 := (cell_far (p := ⟨gb135,3,none⟩) (by first | (rw [add_block];exact hn136_3) | (show (Addr.add _ _).block ≠ _;rw [add_block];exact hn136_3) | exact hn136_3) (.string ((rd_T50 l0 x13_1).f3))).trans hx136_1;replace hx136_2 := (cell_far (p := ⟨gb135,3,none⟩) (by first | (rw [add_block];exact hn136_3) | (show (Addr.add _ _).block ≠ _;rw [add_block];exact hn136_3) | exact hn136_3) (.string ((rd_T50 l0 x13_1).f3))).trans hx136_2;replace hx136_3 := (cell_far (p := ⟨gb135,3,none⟩) (by first | (rw [add_block];exact hn136_3) | (show (Addr.add _ _).block ≠ _;rw [add_block];exact hn136_3) | exact hn136_3) (.string ((rd_T50 l0 x13_1).f3))).trans hx136_3;clear hn136_0;clear hn136_1;clear hn136_2;clear hn136_3;replace p136 := eq_true p136;replace q136 := eq_true q136) | ((with_reducible refine gate_dst (N := 9) rfl ?_);refine box_event ?hg (N := 9) ?hd (cs := #[.int .i64 0,.bool false,.int .i64 0,.string (⟨#[]⟩ : ByteArray)]) (t := 50) ?hr ?_;(case hd => rfl);(case hg => rfl);(case hr => first | (go_simp;done) | (go_simp;rfl));intro gb137 hg w15 hbox hb;have n0_ := Aside0.mk (blk_below (g := gb135) (o := .cells #[.int .i64 ((rd_T50 l0 x13_1).f0),.bool ((rd_T50 l0 x13_1).f1),.int .i64 ((rd_T50 l0 x13_1).f2),.string ((rd_T50 l0 x13_1).f3)] 50 (0,0)) (by (with_reducible repeat (first | refine blk_drewN ?_ _ | refine blk_drew ?_ | refine blk_alloc ?_ _));refine blk_put (cs := #[.int .i64 ((rd_T50 l0 x13_1).f0),.bool ((rd_T50 l0 x13_1).f1),.int .i64 ((rd_T50 l0 x13_1).f2),.string (⟨#[]⟩ : ByteArray)]) ?_ 3 _ rfl;(with_reducible repeat (first | refine blk_drewN ?_ _ | refine blk_drew ?_ | refine blk_alloc ?_ _));refine blk_put (cs := #[.int .i64 ((rd_T50 l0 x13_1).f0),.bool ((rd_T50 l0 x13_1).f1),.int .i64 0,.string (⟨#[]⟩ : ByteArray)]) ?_ 2 _ rfl;(with_reducible repeat (first | refine blk_drewN ?_ _ | refine blk_drew ?_ | refine blk_alloc ?_ _));refine blk_put (cs := #[.int .i64 ((rd_T50 l0 x13_1).f0),.bool false,.int .i64 0,.string (⟨#[]⟩ : ByteArray)]) ?_ 1 _ rfl;(with_reducible repeat (first | refine blk_drewN ?_ _ | refine blk_drew ?_ | refine blk_alloc ?_ _));refine blk_put (cs := #[.int .i64 0,.bool false,.int .i64 0,.string (⟨#[]⟩ : ByteArray)]) ?_ 0 _ rfl;(with_reducible repeat (first | refine blk_drewN ?_ _ | refine blk_drew ?_ | refine blk_alloc ?_ _));exact BK135.out) hb);have n1_ := Aside0.mk (below_step (by repeat (first | (with_reducible first | exact HB.out | apply below_alloc | apply pw_below_drewN | apply below_drew1 | refine below_set ?_ GE135.out) | exact HB.out)) hb);have n2_ := Aside0.mk (hbox);have n3_ := Aside0.mk ((by rw [hg];exact (below_size (by repeat (first | (with_reducible first | exact HB.out | apply below_alloc | apply pw_below_drewN | apply below_drew1 | refine below_set ?_ GE135.out) | exact HB.out))) : w.heap.size ≤ gb137));have n4_ := Aside0.mk ((by rw [hg];exact (below_size (by repeat (first | (with_reducible first | exact HB.out | apply below_alloc | apply pw_below_drewN | apply below_drew1 | refine below_set ?_ GE135.out) | exact HB.out))) : w.heap.size ≤ gb137));have n5_ := Aside0.mk ((by rw [hg];exact Nat.ne_of_lt (blk_lt (g := gb135) (o := .cells #[.int .i64 ((rd_T50 l0 x13_1).f0),.bool ((rd_T50 l0 x13_1).f1),.int .i64 ((rd_T50 l0 x13_1).f2),.string ((rd_T50 l0 x13_1).f3)] 50 (0,0)) (by (with_reducible repeat (first | refine blk_drewN ?_ _ | refine blk_drew ?_ | refine blk_alloc ?_ _));refine blk_put (cs := #[.int .i64 ((rd_T50 l0 x13_1).f0),.bool ((rd_T50 l0 x13_1).f1),.int .i64 ((rd_T50 l0 x13_1).f2),.string (⟨#[]⟩ : ByteArray)]) ?_ 3 _ rfl;(with_reducible repeat (first | refine blk_drewN ?_ _ | refine blk_drew ?_ | refine blk_alloc ?_ _));refine blk_put (cs := #[.int .i64 ((rd_T50 l0 x13_1).f0),.bool ((rd_T50 l0 x13_1).f1),.int .i64 0,.string (⟨#[]⟩ : ByteArray)]) ?_ 2 _ rfl;(with_reducible repeat (first | refine blk_drewN ?_ _ | refine blk_drew ?_ | refine blk_alloc ?_ _));refine blk_put (cs := #[.int .i64 ((rd_T50 l0 x13_1).f0),.bool false,.int .i64 0,.string (⟨#[]⟩ : ByteArray)]) ?_ 1 _ rfl;(with_reducible repeat (first | refine blk_drewN ?_ _ | refine blk_drew ?_ | refine blk_alloc ?_ _));refine blk_put (cs := #[.int .i64 0,.bool false,.int .i64 0,.string (⟨#[]⟩ : ByteArray)]) ?_ 0 _ rfl;(with_reducible repeat (first | refine blk_drewN ?_ _ | refine blk_drew ?_ | refine blk_alloc ?_ _));exact BK135.out)) : gb135 ≠ gb137));have n6_ := Aside0.mk ((by rw [hg];exact Nat.ne_of_gt (blk_lt (g := gb135) (o := .cells #[.int .i64 ((rd_T50 l0 x13_1).f0),.bool ((rd_T50 l0 x13_1).f1),.int .i64 ((rd_T50 l0 x13_1).f2),.string ((rd_T50 l0 x13_1).f3)] 50 (0,0)) (by (with_reducible repeat (first | refine blk_drewN ?_ _ | refine blk_drew ?_ | refine blk_alloc ?_ _));refine blk_put (cs := #[.int .i64 ((rd_T50 l0 x13_1).f0),.bool ((rd_T50 l0 x13_1).f1),.int .i64 ((rd_T50 l0 x13_1).f2),.string (⟨#[]⟩ : ByteArray)]) ?_ 3 _ rfl;(with_reducible repeat (first | refine blk_drewN ?_ _ | refine blk_drew ?_ | refine blk_alloc ?_ _));refine blk_put (cs := #[.int .i64 ((rd_T50 l0 x13_1).f0),.bool ((rd_T50 l0 x13_1).f1),.int .i64 0,.string (⟨#[]⟩ : ByteArray)]) ?_ 2 _ rfl;(with_reducible repeat (first | refine blk_drewN ?_ _ | refine blk_drew ?_ | refine blk_alloc ?_ _));refine blk_put (cs := #[.int .i64 ((rd_T50 l0 x13_1).f0),.bool false,.int .i64 0,.string (⟨#[]⟩ : ByteArray)]) ?_ 1 _ rfl;(with_reducible repeat (first | refine blk_drewN ?_ _ | refine blk_drew ?_ | refine blk_alloc ?_ _));refine blk_put (cs := #[.int .i64 0,.bool false,.int .i64 0,.string (⟨#[]⟩ : ByteArray)]) ?_ 0 _ rfl;(with_reducible repeat (first | refine blk_drewN ?_ _ | refine blk_drew ?_ | refine blk_alloc ?_ _));exact BK135.out)) : gb137 ≠ gb135));clear BK135;clear HB;have BK135 := n0_;have HB := n1_;have BK137 := n2_;have GW137 := n3_;have GE137 := n4_;have NB135_137 := n5_;have NB137_135 := n6_;clear n0_ n1_ n2_ n3_ n4_ n5_ n6_;clear hb hbox hg;have hnb16 := NB137_135.out;have hnc16 := NB135_137.out;have hcz17_0 : w15.cell? ⟨gb137,0,none⟩ = some (.int .i64 0) := (blk_cell BK137.out 0).trans rfl;have hcz17_1 : w15.cell? ⟨gb137,1,none⟩ = some (.bool false) := (blk_cell BK137.out 1).trans rfl;have hcz17_2 : w15.cell? ⟨gb137,2,none⟩ = some (.int .i64 0) := (blk_cell BK137.out 2).trans rfl;have hcz17_3 : w15.cell? ⟨gb137,3,none⟩ = some (.string (⟨#[]⟩ : ByteArray)) := (blk_cell BK137.out 3).trans rfl;have hfz17_0 := blk_frozen BK137.out 0;have hfz17_1 := blk_frozen BK137.out 1;have hfz17_2 := blk_frozen BK137.out 2;have hfz17_3 := blk_frozen BK137.out 3;have hcz18_0 : w15.cell? ⟨gb135,0,none⟩ = some (.int .i64 ((rd_T50 l0 x13_1).f0)) := (blk_cell BK135.out 0).trans rfl;have hcz18_1 : w15.cell? ⟨gb135,1,none⟩ = some (.bool ((rd_T50 l0 x13_1).f1)) := (blk_cell BK135.out 1).trans rfl;have hcz18_2 : w15.cell? ⟨gb135,2,none⟩ = some (.int .i64 ((rd_T50 l0 x13_1).f2)) := (blk_cell BK135.out 2).trans rfl;have hcz18_3 : w15.cell? ⟨gb135,3,none⟩ = some (.string ((rd_T50 l0 x13_1).f3)) := (blk_cell BK135.out 3).trans rfl;have hfz18_0 := blk_frozen BK135.out 0;have hfz18_1 := blk_frozen BK135.out 1;have hfz18_2 := blk_frozen BK135.out 2;have hfz18_3 := blk_frozen BK135.out 3) | ((with_reducible refine gate_tmp (n := 26) rfl ?_);refine goesT_ (some 29) rfl rfl Try.func46 (by kernel_rfl) rfl #[.agg #[.int .i64 ((rd_T50 l0 x13_1).f0),.bool ((rd_T50 l0 x13_1).f1),.int .i64 ((rd_T50 l0 x13_1).f2),.string ((rd_T50 l0 x13_1).f3)],.agg #[.int .i64 ((rd_T50 l1 x13_1).f0),.bool ((rd_T50 l1 x13_1).f1),.int .i64 ((rd_T50 l1 x13_1).f2),.string ((rd_T50 l1 x13_1).f3)]] rfl rfl (by (try simp only [List.map_toArray,List.map_cons,List.map_nil]);first | done | rfl | (simp only [List.length_drop,List.length_take];rfl)) ?_;(with_reducible refine (value_Compare.calls ((rd_T50 l0 x13_1).f0) ((rd_T50 l0 x13_1).f1) ((rd_T50 l0 x13_1).f2) ((rd_T50 l0 x13_1).f3) ((rd_T50 l1 x13_1).f0) ((rd_T50 l1 x13_1).f1) ((rd_T50 l1 x13_1).f2) ((rd_T50 l1 x13_1).f3) t138 _ A11.out).mono ?_);rintro e w19 ⟨rfl,hb⟩;refine ⟨_,rfl,?_⟩;have n0_ := Aside0.mk (blk_below (g := gb135) (o := .cells #[.int .i64 ((rd_T50 l0 x13_1).f0),.bool ((rd_T50 l0 x13_1).f1),.int .i64 ((rd_T50 l0 x13_1).f2),.string ((rd_T50 l0 x13_1).f3)] 50 (0,0)) (by (with_reducible repeat (first | refine blk_drewN ?_ _ | refine blk_drew ?_ | refine blk_alloc ?_ _));refine blk_far ?_ NB135_137.out _;(with_reducible repeat (first | refine blk_drewN ?_ _ | refine blk_drew ?_ | refine blk_alloc ?_ _));refine blk_far ?_ NB135_137.out _;(with_reducible repeat (first | refine blk_drewN ?_ _ | refine blk_drew ?_ | refine blk_alloc ?_ _));refine blk_far ?_ NB135_137.out _;(with_reducible repeat (first | refine blk_drewN ?_ _ | refine blk_drew ?_ | refine blk_alloc ?_ _));refine blk_far ?_ NB135_137.out _;(with_reducible repeat (first | refine blk_drewN ?_ _ | refine blk_drew ?_ | refine blk_alloc ?_ _));exact BK135.out) hb);have n1_ := Aside0.mk (blk_below (g := gb137) (o := .cells #[.int .i64 ((rd_T50 l1 x13_1).f0),.bool ((rd_T50 l1 x13_1).f1),.int .i64 ((rd_T50 l1 x13_1).f2),.string ((rd_T50 l1 x13_1).f3)] 50 (0,0)) (by (with_reducible repeat (first | refine blk_drewN ?_ _ | refine blk_drew ?_ | refine blk_alloc ?_ _));refine blk_put (cs := #[.int .i64 ((rd_T50 l1 x13_1).f0),.bool ((rd_T50 l1 x13_1).f1),.int .i64 ((rd_T50 l1 x13_1).f2),.string (⟨#[]⟩ : ByteArray)]) ?_ 3 _ rfl;(with_reducible repeat (first | refine blk_drewN ?_ _ | refine blk_drew ?_ | refine blk_alloc ?_ _));refine blk_put (cs := #[.int .i64 ((rd_T50 l1 x13_1).f0),.bool ((rd_T50 l1 x13_1).f1),.int .i64 0,.string (⟨#[]⟩ : ByteArray)]) ?_ 2 _ rfl;(with_reducible repeat (first | refine blk_drewN ?_ _ | refine blk_drew ?_ | refine blk_alloc ?_ _));refine blk_put (cs := #[.int .i64 ((rd_T50 l1 x13_1).f0),.bool false,.int .i64 0,.string (⟨#[]⟩ : ByteArray)]) ?_ 1 _ rfl;(with_reducible repeat (first | refine blk_drewN ?_ _ | refine blk_drew ?_ | refine blk_alloc ?_ _));refine blk_put (cs := #[.int .i64 0,.bool false,.int .i64 0,.string (⟨#[]⟩ : ByteArray)]) ?_ 0 _ rfl;(with_reducible repeat (first | refine blk_drewN ?_ _ | refine blk_drew ?_ | refine blk_alloc ?_ _));exact BK137.out) hb);have n2_ := Aside0.mk (below_step (by repeat (first | (with_reducible first | exact HB.out | apply below_alloc | apply pw_below_drewN | apply below_drew1 | refine below_set ?_ GE135.out | refine below_set ?_ GE137.out) | exact HB.out)) hb);clear BK135;clear BK137;clear HB;have BK135 := n0_;have BK137 := n1_;have HB := n2_;clear n0_ n1_ n2_;(try clear hb);(try clear hb2);(try clear hk);(try clear hi)))
                  go_roundg k1
                  case measure => have := HK1.out;omega
                  case rel => exact ⟨(wrap64 (x13_1 + 1)),(by first | rfl | (simp;done) | (simp [*];done)),H',⟨by have := HK1.out;omega⟩,⟨by repeat (first | (with_reducible first | exact HB.out | apply below_alloc | apply pw_below_drewN | apply below_drew1 | refine below_set ?_ GE135.out | refine below_set ?_ GE137.out) | exact HB.out)⟩⟩
                · rw [if_neg c12] at H
                  have c12b0 : (t138 == 0) = false := beq_eq_false_iff_ne.mpr c12
                  have c12b1 : (t138 != 0) = true := bne_iff_ne.mpr c12
                  obtain rfl := Option.some.inj H
                  have p134 : 0 ≤ (x13_1 : Int) := of_decide_eq_true (by first | (with_reducible assumption) | assumption)
                  have q134 : x13_1 < (l0.length : Int) := of_decide_eq_true (by first | (with_reducible assumption) | assumption)
                  obtain ⟨ad134,e134,hx134_0,hx134_1,hx134_2,hx134_3⟩ := at_T50 HR0.out x13_1 p134 q134
                  cases e134
                  replace hx134_0 := (HB.out.cell (World.block_lt_of_cell? w _ hx134_0)).trans hx134_0
                  replace hx134_1 := (HB.out.cell (World.block_lt_of_cell? w _ hx134_1)).trans hx134_1
                  replace hx134_2 := (HB.out.cell (World.block_lt_of_cell? w _ hx134_2)).trans hx134_2
                  replace hx134_3 := (HB.out.cell (World.block_lt_of_cell? w _ hx134_3)).trans hx134_3
                  replace p134 := eq_true p134
                  replace q134 := eq_true q134
                  go_wp2_with (first | ((with_reducible refine gate_dst (N := 8) rfl ?_);refine box_event ?hg (N := 8) ?hd (cs := #[.int .i64 0,.bool false,.int .i64 0,.string (⟨#[]⟩ : ByteArray)]) (t := 50) ?hr ?_;(case hd => rfl);(case hg => rfl);(case hr => first | (go_simp;done) | (go_simp;rfl));intro gb135 hg w20 hbox hb;have n0_ := Aside0.mk (below_step (by repeat (first | (with_reducible first | exact HB.out | apply below_alloc | apply pw_below_drewN | apply below_drew1) | exact HB.out)) hb);have n1_ := Aside0.mk (hbox);have n2_ := Aside0.mk ((by rw [hg];exact (below_size (by repeat (first | (with_reducible first | exact HB.out | apply below_alloc | apply pw_below_drewN | apply below_drew1) | exact HB.out))) : w.heap.size ≤ gb135));have n3_ := Aside0.mk ((by rw [hg];exact (below_size (by repeat (first | (with_reducible first | exact HB.out | apply below_alloc | apply pw_below_drewN | apply below_drew1) | exact HB.out))) : w.heap.size ≤ gb135));clear HB;have HB := n0_;have BK135 := n1_;have GW135 := n2_;have GE135 := n3_;clear n0_ n1_ n2_ n3_;clear hb hbox hg;have hcz21_0 : w20.cell? ⟨gb135,0,none⟩ = some (.int .i64 0) := (blk_cell BK135.out 0).trans rfl;have hcz21_1 : w20.cell? ⟨gb135,1,none⟩ = some (.bool false) := (blk_cell BK135.out 1).trans rfl;have hcz21_2 : w20.cell? ⟨gb135,2,none⟩ = some (.int .i64 0) := (blk_cell BK135.out 2).trans rfl;have hcz21_3 : w20.cell? ⟨gb135,3,none⟩ = some (.string (⟨#[]⟩ : ByteArray)) := (blk_cell BK135.out 3).trans rfl;have hfz21_0 := blk_frozen BK135.out 0;have hfz21_1 := blk_frozen BK135.out 1;have hfz21_2 := blk_frozen BK135.out 2;have hfz21_3 := blk_frozen BK135.out 3;have p136 : 0 ≤ (x13_1 : Int) := of_decide_eq_true (by first | (with_reducible assumption) | assumption);have q136 : x13_1 < (l1.length : Int) := of_decide_eq_true (by first | (with_reducible assumption) | assumption);obtain ⟨ad136,e136,hx136_0,hx136_1,hx136_2,hx136_3⟩ := at_T50 HR1.out x13_1 p136 q136;cases e136;have hn136_0 : ad136.block ≠ gb135 := Nat.ne_of_lt (Nat.lt_of_lt_of_le (by have := World.block_lt_of_cell? _ _ hx136_0;first | rwa [add_block] at this | exact this) GW135.out);have hn136_1 : ad136.block ≠ gb135 := Nat.ne_of_lt (Nat.lt_of_lt_of_le (by have := World.block_lt_of_cell? _ _ hx136_0;first | rwa [add_block] at this | exact this) GW135.out);have hn136_2 : ad136.block ≠ gb135 := Nat.ne_of_lt (Nat.lt_of_lt_of_le (by have := World.block_lt_of_cell? _ _ hx136_0;first | rwa [add_block] at this | exact this) GW135.out);have hn136_3 : ad136.block ≠ gb135 := Nat.ne_of_lt (Nat.lt_of_lt_of_le (by have := World.block_lt_of_cell? _ _ hx136_0;first | rwa [add_block] at this | exact this) GW135.out);replace hx136_0 := (HB.out.cell (World.block_lt_of_cell? w _ hx136_0)).trans hx136_0;replace hx136_1 := (HB.out.cell (World.block_lt_of_cell? w _ hx136_1)).trans hx136_1;replace hx136_2 := (HB.out.cell (World.block_lt_of_cell? w _ hx136_2)).trans hx136_2;replace hx136_3 := (HB.out.cell (World.block_lt_of_cell? w _ hx136_3)).trans hx136_3;replace hx136_0 := (cell_far (p := ⟨gb135,0,none⟩) (by first | (rw [add_block];exact hn136_0) | (show (Addr.add _ _).block ≠ _;rw [add_block];exact hn136_0) | exact hn136_0) (.int .i64 ((rd_T50 l0 x13_1).f0))).trans hx136_0;replace hx136_1 := (cell_far (p := ⟨gb135,0,none⟩) (by first | (rw [add_block];exact hn136_0) | (show (Addr.add _ _).block ≠ _;rw [add_block];exact hn136_0) | exact hn136_0) (.int .i64 ((rd_T50 l0 x13_1).f0))).trans hx136_1;replace hx136_2 := (cell_far (p := ⟨gb135,0,none⟩) (by first | (rw [add_block];exact hn136_0) | (show (Addr.add _ _).block ≠ _;rw [add_block];exact hn136_0) | exact hn136_0) (.int .i64 ((rd_T50 l0 x13_1).f0))).trans hx136_2;replace hx136_3 := (cell_far (p := ⟨gb135,0,none⟩) (by first | (rw [add_block];exact hn136_0) | (show (Addr.add _ _).block ≠ _;rw [add_block];exact hn136_0) | exact hn136_0) (.int .i64 ((rd_T50 l0 x13_1).f0))).trans hx136_3;replace hx136_0 := (cell_far (p := ⟨gb135,1,none⟩) (by first | (rw [add_block];exact hn136_1) | (show (Addr.add _ _).block ≠ _;rw [add_block];exact hn136_1) | exact hn136_1) (.bool ((rd_T50 l0 x13_1).f1))).trans hx136_0;replace hx136_1 := (cell_far (p := ⟨gb135,1,none⟩) (by first | (rw [add_block];exact hn136_1) | (show (Addr.add _ _).block ≠ _;rw [add_block];exact hn136_1) | exact hn136_1) (.bool ((rd_T50 l0 x13_1).f1))).trans hx136_1;replace hx136_2 := (cell_far (p := ⟨gb135,1,none⟩) (by first | (rw [add_block];exact hn136_1) | (show (Addr.add _ _).block ≠ _;rw [add_block];exact hn136_1) | exact hn136_1) (.bool ((rd_T50 l0 x13_1).f1))).trans hx136_2;replace hx136_3 := (cell_far (p := ⟨gb135,1,none⟩) (by first | (rw [add_block];exact hn136_1) | (show (Addr.add _ _).block ≠ _;rw [add_block];exact hn136_1) | exact hn136_1) (.bool ((rd_T50 l0 x13_1).f1))).trans hx136_3;replace hx136_0 := (cell_far (p := ⟨gb135,2,none⟩) (by first | (rw [add_block];exact hn136_2) | (show (Addr.add _ _).block ≠ _;rw [add_block];exact hn136_2) | exact hn136_2) (.int .i64 ((rd_T50 l0 x13_1).f2))).trans hx136_0;replace hx136_1 := (cell_far (p := ⟨gb135,2,none⟩) (by first | (rw [add_block];exact hn136_2) | (show (Addr.add _ _).block ≠ _;rw [add_block];exact hn136_2) | exact hn136_2) (.int .i64 ((rd_T50 l0 x13_1).f2))).trans hx136_1;replace hx136_2 := (cell_far (p := ⟨gb135,2,none⟩) (by first | (rw [add_block];exact hn136_2) | (show (Addr.add _ _).block ≠ _;rw [add_block];exact hn136_2) | exact hn136_2) (.int .i64 ((rd_T50 l0 x13_1).f2))).trans hx136_2;replace hx136_3 := (cell_far (p := ⟨gb135,2,none⟩) (by first | (rw [add_block];exact hn136_2) | (show (Addr.add _ _).block ≠ _;rw [add_block];exact hn136_2) | exact hn136_2) (.int .i64 ((rd_T50 l0 x13_1).f2))).trans hx136_3;replace hx136_0 := (cell_far (p := ⟨gb135,3,none⟩) (by first | (rw [add_block];exact hn136_3) | (show (Addr.add _ _).block ≠ _;rw [add_block];exact hn136_3) | exact hn136_3) (.string ((rd_T50 l0 x13_1).f3))).trans hx136_0;replace hx136_1 := (cell_far (p := ⟨gb135,3,none⟩) (by first | (rw [add_block];exact hn136_3) | (show (Addr.add _ _).block ≠ _;rw [add_block];exact hn136_3) | exact hn136_3) (.string ((rd_T50 l0 x13_1).f3))).trans hx136_1;replace hx136_2 := (cell_far (p := ⟨gb135,3,none⟩) (by first | (rw [add_block];exact hn136_3) | (show (Addr.add _ _).block ≠ _;rw [add_block];exact hn136_3) | exact hn136_3) (.string ((rd_T50 l0 x13_1).f3))).trans hx136_2;replace hx136_3 := (cell_far (p := ⟨gb135,3,none⟩) (by first | (rw [add_block];exact hn136_3) | (show (Addr.add _ _).block ≠ _;rw [add_block];exact hn136_3) | exact hn136_3) (.string ((rd_T50 l0 x13_1).f3))).trans hx136_3;clear hn136_0;clear hn136_1;clear hn136_2;clear hn136_3;replace p136 := eq_true p136;replace q136 := eq_true q136) | ((with_reducible refine gate_dst (N := 9) rfl ?_);refine box_event ?hg (N := 9) ?hd (cs := #[.int .i64 0,.bool false,.int .i64 0,.string (⟨#[]⟩ : ByteArray)]) (t := 50) ?hr ?_;(case hd => rfl);(case hg => rfl);(case hr => first | (go_simp;done) | (go_simp;rfl));intro gb137 hg w22 hbox hb;have n0_ := Aside0.mk (blk_below (g := gb135) (o := .cells #[.int .i64 ((rd_T50 l0 x13_1).f0),.bool ((rd_T50 l0 x13_1).f1),.int .i64 ((rd_T50 l0 x13_1).f2),.string ((rd_T50 l0 x13_1).f3)] 50 (0,0)) (by (with_reducible repeat (first | refine blk_drewN ?_ _ | refine blk_drew ?_ | refine blk_alloc ?_ _));refine blk_put (cs := #[.int .i64 ((rd_T50 l0 x13_1).f0),.bool ((rd_T50 l0 x13_1).f1),.int .i64 ((rd_T50 l0 x13_1).f2),.string (⟨#[]⟩ : ByteArray)]) ?_ 3 _ rfl;(with_reducible repeat (first | refine blk_drewN ?_ _ | refine blk_drew ?_ | refine blk_alloc ?_ _));refine blk_put (cs := #[.int .i64 ((rd_T50 l0 x13_1).f0),.bool ((rd_T50 l0 x13_1).f1),.int .i64 0,.string (⟨#[]⟩ : ByteArray)]) ?_ 2 _ rfl;(with_reducible repeat (first | refine blk_drewN ?_ _ | refine blk_drew ?_ | refine blk_alloc ?_ _));refine blk_put (cs := #[.int .i64 ((rd_T50 l0 x13_1).f0),.bool false,.int .i64 0,.string (⟨#[]⟩ : ByteArray)]) ?_ 1 _ rfl;(with_reducible repeat (first | refine blk_drewN ?_ _ | refine blk_drew ?_ | refine blk_alloc ?_ _));refine blk_put (cs := #[.int .i64 0,.bool false,.int .i64 0,.string (⟨#[]⟩ : ByteArray)]) ?_ 0 _ rfl;(with_reducible repeat (first | refine blk_drewN ?_ _ | refine blk_drew ?_ | refine blk_alloc ?_ _));exact BK135.out) hb);have n1_ := Aside0.mk (below_step (by repeat (first | (with_reducible first | exact HB.out | apply below_alloc | apply pw_below_drewN | apply below_drew1 | refine below_set ?_ GE135.out) | exact HB.out)) hb);have n2_ := Aside0.mk (hbox);have n3_ := Aside0.mk ((by rw [hg];exact (below_size (by repeat (first | (with_reducible first | exact HB.out | apply below_alloc | apply pw_below_drewN | apply below_drew1 | refine below_set ?_ GE135.out) | exact HB.out))) : w.heap.size ≤ gb137));have n4_ := Aside0.mk ((by rw [hg];exact (below_size (by repeat (first | (with_reducible first | exact HB.out | apply below_alloc | apply pw_below_drewN | apply below_drew1 | refine below_set ?_ GE135.out) | exact HB.out))) : w.heap.size ≤ gb137));have n5_ := Aside0.mk ((by rw [hg];exact Nat.ne_of_lt (blk_lt (g := gb135) (o := .cells #[.int .i64 ((rd_T50 l0 x13_1).f0),.bool ((rd_T50 l0 x13_1).f1),.int .i64 ((rd_T50 l0 x13_1).f2),.string ((rd_T50 l0 x13_1).f3)] 50 (0,0)) (by (with_reducible repeat (first | refine blk_drewN ?_ _ | refine blk_drew ?_ | refine blk_alloc ?_ _));refine blk_put (cs := #[.int .i64 ((rd_T50 l0 x13_1).f0),.bool ((rd_T50 l0 x13_1).f1),.int .i64 ((rd_T50 l0 x13_1).f2),.string (⟨#[]⟩ : ByteArray)]) ?_ 3 _ rfl;(with_reducible repeat (first | refine blk_drewN ?_ _ | refine blk_drew ?_ | refine blk_alloc ?_ _));refine blk_put (cs := #[.int .i64 ((rd_T50 l0 x13_1).f0),.bool ((rd_T50 l0 x13_1).f1),.int .i64 0,.string (⟨#[]⟩ : ByteArray)]) ?_ 2 _ rfl;(with_reducible repeat (first | refine blk_drewN ?_ _ | refine blk_drew ?_ | refine blk_alloc ?_ _));refine blk_put (cs := #[.int .i64 ((rd_T50 l0 x13_1).f0),.bool false,.int .i64 0,.string (⟨#[]⟩ : ByteArray)]) ?_ 1 _ rfl;(with_reducible repeat (first | refine blk_drewN ?_ _ | refine blk_drew ?_ | refine blk_alloc ?_ _));refine blk_put (cs := #[.int .i64 0,.bool false,.int .i64 0,.string (⟨#[]⟩ : ByteArray)]) ?_ 0 _ rfl;(with_reducible repeat (first | refine blk_drewN ?_ _ | refine blk_drew ?_ | refine blk_alloc ?_ _));exact BK135.out)) : gb135 ≠ gb137));have n6_ := Aside0.mk ((by rw [hg];exact Nat.ne_of_gt (blk_lt (g := gb135) (o := .cells #[.int .i64 ((rd_T50 l0 x13_1).f0),.bool ((rd_T50 l0 x13_1).f1),.int .i64 ((rd_T50 l0 x13_1).f2),.string ((rd_T50 l0 x13_1).f3)] 50 (0,0)) (by (with_reducible repeat (first | refine blk_drewN ?_ _ | refine blk_drew ?_ | refine blk_alloc ?_ _));refine blk_put (cs := #[.int .i64 ((rd_T50 l0 x13_1).f0),.bool ((rd_T50 l0 x13_1).f1),.int .i64 ((rd_T50 l0 x13_1).f2),.string (⟨#[]⟩ : ByteArray)]) ?_ 3 _ rfl;(with_reducible repeat (first | refine blk_drewN ?_ _ | refine blk_drew ?_ | refine blk_alloc ?_ _));refine blk_put (cs := #[.int .i64 ((rd_T50 l0 x13_1).f0),.bool ((rd_T50 l0 x13_1).f1),.int .i64 0,.string (⟨#[]⟩ : ByteArray)]) ?_ 2 _ rfl;(with_reducible repeat (first | refine blk_drewN ?_ _ | refine blk_drew ?_ | refine blk_alloc ?_ _));refine blk_put (cs := #[.int .i64 ((rd_T50 l0 x13_1).f0),.bool false,.int .i64 0,.string (⟨#[]⟩ : ByteArray)]) ?_ 1 _ rfl;(with_reducible repeat (first | refine blk_drewN ?_ _ | refine blk_drew ?_ | refine blk_alloc ?_ _));refine blk_put (cs := #[.int .i64 0,.bool false,.int .i64 0,.string (⟨#[]⟩ : ByteArray)]) ?_ 0 _ rfl;(with_reducible repeat (first | refine blk_drewN ?_ _ | refine blk_drew ?_ | refine blk_alloc ?_ _));exact BK135.out)) : gb137 ≠ gb135));clear BK135;clear HB;have BK135 := n0_;have HB := n1_;have BK137 := n2_;have GW137 := n3_;have GE137 := n4_;have NB135_137 := n5_;have NB137_135 := n6_;clear n0_ n1_ n2_ n3_ n4_ n5_ n6_;clear hb hbox hg;have hnb23 := NB137_135.out;have hnc23 := NB135_137.out;have hcz24_0 : w22.cell? ⟨gb137,0,none⟩ = some (.int .i64 0) := (blk_cell BK137.out 0).trans rfl;have hcz24_1 : w22.cell? ⟨gb137,1,none⟩ = some (.bool false) := (blk_cell BK137.out 1).trans rfl;have hcz24_2 : w22.cell? ⟨gb137,2,none⟩ = some (.int .i64 0) := (blk_cell BK137.out 2).trans rfl;have hcz24_3 : w22.cell? ⟨gb137,3,none⟩ = some (.string (⟨#[]⟩ : ByteArray)) := (blk_cell BK137.out 3).trans rfl;have hfz24_0 := blk_frozen BK137.out 0;have hfz24_1 := blk_frozen BK137.out 1;have hfz24_2 := blk_frozen BK137.out 2;have hfz24_3 := blk_frozen BK137.out 3;have hcz25_0 : w22.cell? ⟨gb135,0,none⟩ = some (.int .i64 ((rd_T50 l0 x13_1).f0)) := (blk_cell BK135.out 0).trans rfl;have hcz25_1 : w22.cell? ⟨gb135,1,none⟩ = some (.bool ((rd_T50 l0 x13_1).f1)) := (blk_cell BK135.out 1).trans rfl;have hcz25_2 : w22.cell? ⟨gb135,2,none⟩ = some (.int .i64 ((rd_T50 l0 x13_1).f2)) := (blk_cell BK135.out 2).trans rfl;have hcz25_3 : w22.cell? ⟨gb135,3,none⟩ = some (.string ((rd_T50 l0 x13_1).f3)) := (blk_cell BK135.out 3).trans rfl;have hfz25_0 := blk_frozen BK135.out 0;have hfz25_1 := blk_frozen BK135.out 1;have hfz25_2 := blk_frozen BK135.out 2;have hfz25_3 := blk_frozen BK135.out 3) | ((with_reducible refine gate_tmp (n := 26) rfl ?_);refine goesT_ (some 29) rfl rfl Try.func46 (by kernel_rfl) rfl #[.agg #[.int .i64 ((rd_T50 l0 x13_1).f0),.bool ((rd_T50 l0 x13_1).f1),.int .i64 ((rd_T50 l0 x13_1).f2),.string ((rd_T50 l0 x13_1).f3)],.agg #[.int .i64 ((rd_T50 l1 x13_1).f0),.bool ((rd_T50 l1 x13_1).f1),.int .i64 ((rd_T50 l1 x13_1).f2),.string ((rd_T50 l1 x13_1).f3)]] rfl rfl (by (try simp only [List.map_toArray,List.map_cons,List.map_nil]);first | done | rfl | (simp only [List.length_drop,List.length_take];rfl)) ?_;(with_reducible refine (value_Compare.calls ((rd_T50 l0 x13_1).f0) ((rd_T50 l0 x13_1).f1) ((rd_T50 l0 x13_1).f2) ((rd_T50 l0 x13_1).f3) ((rd_T50 l1 x13_1).f0) ((rd_T50 l1 x13_1).f1) ((rd_T50 l1 x13_1).f2) ((rd_T50 l1 x13_1).f3) t138 _ A11.out).mono ?_);rintro e w26 ⟨rfl,hb⟩;refine ⟨_,rfl,?_⟩;have n0_ := Aside0.mk (blk_below (g := gb135) (o := .cells #[.int .i64 ((rd_T50 l0 x13_1).f0),.bool ((rd_T50 l0 x13_1).f1),.int .i64 ((rd_T50 l0 x13_1).f2),.string ((rd_T50 l0 x13_1).f3)] 50 (0,0)) (by (with_reducible repeat (first | refine blk_drewN ?_ _ | refine blk_drew ?_ | refine blk_alloc ?_ _));refine blk_far ?_ NB135_137.out _;(with_reducible repeat (first | refine blk_drewN ?_ _ | refine blk_drew ?_ | refine blk_alloc ?_ _));refine blk_far ?_ NB135_137.out _;(with_reducible repeat (first | refine blk_drewN ?_ _ | refine blk_drew ?_ | refine blk_alloc ?_ _));refine blk_far ?_ NB135_137.out _;(with_reducible repeat (first | refine blk_drewN ?_ _ | refine blk_drew ?_ | refine blk_alloc ?_ _));refine blk_far ?_ NB135_137.out _;(with_reducible repeat (first | refine blk_drewN ?_ _ | refine blk_drew ?_ | refine blk_alloc ?_ _));exact BK135.out) hb);have n1_ := Aside0.mk (blk_below (g := gb137) (o := .cells #[.int .i64 ((rd_T50 l1 x13_1).f0),.bool ((rd_T50 l1 x13_1).f1),.int .i64 ((rd_T50 l1 x13_1).f2),.string ((rd_T50 l1 x13_1).f3)] 50 (0,0)) (by (with_reducible repeat (first | refine blk_drewN ?_ _ | refine blk_drew ?_ | refine blk_alloc ?_ _));refine blk_put (cs := #[.int .i64 ((rd_T50 l1 x13_1).f0),.bool ((rd_T50 l1 x13_1).f1),.int .i64 ((rd_T50 l1 x13_1).f2),.string (⟨#[]⟩ : ByteArray)]) ?_ 3 _ rfl;(with_reducible repeat (first | refine blk_drewN ?_ _ | refine blk_drew ?_ | refine blk_alloc ?_ _));refine blk_put (cs := #[.int .i64 ((rd_T50 l1 x13_1).f0),.bool ((rd_T50 l1 x13_1).f1),.int .i64 0,.string (⟨#[]⟩ : ByteArray)]) ?_ 2 _ rfl;(with_reducible repeat (first | refine blk_drewN ?_ _ | refine blk_drew ?_ | refine blk_alloc ?_ _));refine blk_put (cs := #[.int .i64 ((rd_T50 l1 x13_1).f0),.bool false,.int .i64 0,.string (⟨#[]⟩ : ByteArray)]) ?_ 1 _ rfl;(with_reducible repeat (first | refine blk_drewN ?_ _ | refine blk_drew ?_ | refine blk_alloc ?_ _));refine blk_put (cs := #[.int .i64 0,.bool false,.int .i64 0,.string (⟨#[]⟩ : ByteArray)]) ?_ 0 _ rfl;(with_reducible repeat (first | refine blk_drewN ?_ _ | refine blk_drew ?_ | refine blk_alloc ?_ _));exact BK137.out) hb);have n2_ := Aside0.mk (below_step (by repeat (first | (with_reducible first | exact HB.out | apply below_alloc | apply pw_below_drewN | apply below_drew1 | refine below_set ?_ GE135.out | refine below_set ?_ GE137.out) | exact HB.out)) hb);clear BK135;clear BK137;clear HB;have BK135 := n0_;have BK137 := n1_;have HB := n2_;clear n0_ n1_ n2_;(try clear hb);(try clear hb2);(try clear hk);(try clear hi)))
                  go_ret
                  exact ⟨by first | rfl | (simp [errW_none,errW_some] <;> rfl) | (simp [*,errW_none,errW_some] <;> rfl),by repeat (first | (with_reducible first | exact HB.out | apply below_alloc | apply pw_below_drewN | apply below_drew1 | refine below_set ?_ GE135.out | refine below_set ?_ GE137.out) | exact HB.out)⟩
              · rw [if_neg c10] at H
                exact absurd H (by simp)
          · rw [if_neg c6] at H
            exact absurd H (by simp)
        · rw [if_neg c5] at H
          exact absurd H (by simp)
      · rw [if_neg c4] at H
        have c4b0 : decide (x13_1 < (l0.length : Int)) = false := decide_eq_false c4
        clear c4
        by_cases c27 : (l0.length : Int) < (l1.length : Int)
        · rw [if_pos c27] at H
          have c27b0 : decide ((l0.length : Int) < (l1.length : Int)) = true := decide_eq_true c27
          have c27b1 : decide (l0.length < l1.length) = true := decide_eq_true (Int.ofNat_lt.mp c27)
          clear c27
          obtain rfl := Option.some.inj H
          go_wp2
          go_ret
          exact ⟨by first | rfl | (simp [errW_none,errW_some] <;> rfl) | (simp [*,errW_none,errW_some] <;> rfl),by repeat (first | (with_reducible first | exact HB.out | apply below_alloc | apply pw_below_drewN | apply below_drew1) | exact HB.out)⟩
        · rw [if_neg c27] at H
          have c27b0 : decide ((l0.length : Int) < (l1.length : Int)) = false := decide_eq_false c27
          have c27b1 : decide (l0.length < l1.length) = false := decide_eq_false (fun h => c27 (Int.ofNat_lt.mpr h))
          clear c27
          obtain rfl := Option.some.inj H
          go_wp2
          go_ret
          exact ⟨by first | rfl | (simp [errW_none,errW_some] <;> rfl) | (simp [*,errW_none,errW_some] <;> rfl),by repeat (first | (with_reducible first | exact HB.out | apply below_alloc | apply pw_below_drewN | apply below_drew1) | exact HB.out)⟩
end Go.Proofs.Ytfoaeigoajooeaa.Z
end
section
namespace Go.Proofs.Ytfoaeigoajooeaa.Z
open Go.RowKit Go.Proofs.YtfoaeigoajooeaaW.PrintWords Go.Proofs.YtfoaeigoajooeaaW.PrintLast Go.Proofs.YtfoaeigoajooeaaW.PrintMore
attribute [local go_sem] max2_int min2_int max_two min_two max_three min_three max_four min_four
set_option linter.unusedVariables false
set_option linter.unusedSimpArgs false
def row_Compare.f (k : Nat) (l0 : List (S50)) (l1 : List (S50)) : Option (Int) := (slices_CompareFunc.f k l0 l1 424246).bind fun t139 => (some t139)
theorem row_Compare.mono : ∀ a0 a1 k,LeO (row_Compare.f k a0 a1) (row_Compare.f (k + 1) a0 a1) := by
  intro a0 a1 k
  unfold row_Compare.f
  repeat' first
      | (with_reducible exact slices_CompareFunc.mono _ _ _ _)
      | (with_reducible exact LeO.refl _)
      | (with_reducible exact LeO.none _)
      | (with_reducible refine LeO.ite ?_ ?_)
      | (with_reducible refine LeO.bind ?_ (fun _ => ?_))
      | exact slices_CompareFunc.mono _ _ _ _
      | exact LeO.none _
      | refine LeO.ite ?_ ?_
      | refine LeO.bind ?_ (fun _ => ?_)
set_option maxHeartbeats 8000000 in
set_option maxRecDepth 100000 in
theorem row_Compare.calls (k : Nat) (A0 : Option Addr) (c0 : Nat) (l0 : List (S50)) (A1 : Option Addr) (c1 : Nat) (l1 : List (S50)) (r : Int) (w : World) (hr0 : Kd.C k50 w A0 l0.length l0) (hc0 : l0.length ≤ c0) (hr1 : Kd.C k50 w A1 l1.length l1) (hc1 : l1.length ≤ c1) (h : row_Compare.f k l0 l1 = some r) :
    Calls Try.prog 13 #[.slice A0 l0.length c0,.slice A1 l1.length c1] w fun e w' => e = .returned (.int .i64 r) ∧ Below w.heap.size w w' := by
  have HR0 := Aside0.mk hr0
  have HC0 := Aside0.mk hc0
  clear hr0 hc0
  have HR1 := Aside0.mk hr1
  have HC1 := Aside0.mk hc1
  clear hr1 hc1
  have HB := Aside0.mk (Below.refl w.heap.size w)
  have H : ((slices_CompareFunc.f k l0 l1 424246).bind fun t139 => (some t139)) = some r := h
  clear h
  replace H := Option.bind_eq_some_iff.mp H
  obtain ⟨t139,A30,H⟩ := H
  replace H : (some t139) = some r := H
  have A3 := Aside0.mk A30
  clear A30
  obtain rfl := Option.some.inj H
  go_enter Try.func13,Try.ntmps13
  go_wp2_with (first | ((with_reducible refine gate_callee (f := 45) rfl ?_);refine goesL_ (some 7) rfl rfl Try.func45 (by kernel_rfl) rfl #[.slice A0 l0.length c0,.slice A1 l1.length c1,.func (.func 46) #[] #[]] rfl (by (try simp only [List.map_toArray,List.map_cons,List.map_nil]);first | done | rfl | (simp only [List.length_drop,List.length_take];rfl)) ?_;(with_reducible refine (slices_CompareFunc.calls k _ _ l0 _ _ l1 424246 t139 _ ?side1 ?side2 ?side3 ?side4 A3.out).mono ?_);(case side1 => repeat (first | exact HR0.out | (with_reducible refine Kd.C_alloc ?_ _) | (with_reducible refine Kd.C_drewN ?_ _) | (with_reducible refine Kd.C_drew ?_)));(case side2 => exact HC0.out);(case side3 => repeat (first | exact HR1.out | (with_reducible refine Kd.C_alloc ?_ _) | (with_reducible refine Kd.C_drewN ?_ _) | (with_reducible refine Kd.C_drew ?_)));(case side4 => exact HC1.out);rintro e w4 ⟨rfl,hb⟩;refine ⟨_,rfl,?_⟩;have n0_ := Aside0.mk (below_step (by repeat (first | (with_reducible first | exact HB.out | apply below_alloc | apply pw_below_drewN | apply below_drew1) | exact HB.out)) hb);clear HB;have HB := n0_;clear n0_;(try clear hb);(try clear hb2);(try clear hk);(try clear hi)))
  go_ret
  exact ⟨by first | rfl | (simp [errW_none,errW_some] <;> rfl) | (simp [*,errW_none,errW_some] <;> rfl),by repeat (first | (with_reducible first | exact HB.out | apply below_alloc | apply pw_below_drewN | apply below_drew1) | exact HB.out)⟩
end Go.Proofs.Ytfoaeigoajooeaa.Z
end
section
namespace Go.Proofs.Ytfoaeigoajooeaa.Cmp
structure CmpLaw {α : Type} (c : α → α → Int) : Prop where
  lo : ∀ a b,-1 ≤ c a b
  anti : ∀ a b,c b a = - c a b
  le : ∀ a b d,c a b ≤ 0 → c b d ≤ 0 → c a d ≤ 0
variable {α : Type} {c : α → α → Int}
theorem CmpLaw.hi (h : CmpLaw c) (a b : α) : c a b ≤ 1 := by have := h.lo b a;have := h.anti b a;omega
theorem CmpLaw.lt_le (h : CmpLaw c) {a b d : α} (h1 : c a b < 0) (h2 : c b d ≤ 0) : c a d < 0 := by
  have h3 := h.le a b d (by omega) h2
  rcases Int.lt_or_eq_of_le h3 with h4 | h4
  · exact h4
  · have h5 := h.anti a d
    have h6 := h.le b d a h2 (by omega)
    have h7 := h.anti a b
    omega
theorem CmpLaw.le_lt (h : CmpLaw c) {a b d : α} (h1 : c a b ≤ 0) (h2 : c b d < 0) : c a d < 0 := by
  have h3 := h.le a b d h1 (by omega)
  rcases Int.lt_or_eq_of_le h3 with h4 | h4
  · exact h4
  · have h5 := h.anti a d
    have h6 := h.le d a b (by omega) h1
    have h7 := h.anti b d
    omega
theorem CmpLaw.eq_left (h : CmpLaw c) {a b : α} (d : α) (h1 : c a b = 0) : c a d = c b d := by
  have a1 := h.anti a b
  have lo1 := h.lo a d
  have hi1 := h.hi a d
  have lo2 := h.lo b d
  have hi2 := h.hi b d
  rcases Int.lt_trichotomy (c b d) 0 with h2 | h2 | h2
  · have := h.le_lt (a := a) (b := b) (d := d) (by omega) h2
    omega
  · have h3 := h.le a b d (by omega) (by omega)
    have h4 := h.le d b a (by have := h.anti b d;omega) (by omega)
    have := h.anti a d
    omega
  · have h3 : c d b < 0 := by have := h.anti b d;omega
    have := h.lt_le h3 (show c b a ≤ 0 by omega)
    have := h.anti a d
    omega
theorem CmpLaw.on {β : Type} (f : β → α) (h : CmpLaw c) : CmpLaw (fun x y => c (f x) (f y)) := ⟨fun _ _ => h.lo _ _,fun _ _ => h.anti _ _,fun _ _ _ => h.le _ _ _⟩
def andThenC (c d : α → α → Int) (a b : α) : Int := if c a b = 0 then d a b else c a b
theorem CmpLaw.andThen {d : α → α → Int} (hc : CmpLaw c) (hd : CmpLaw d) : CmpLaw (andThenC c d) := by
  refine ⟨fun a b => ?_,fun a b => ?_,fun a b e h1 h2 => ?_⟩
  · unfold andThenC;split
    · exact hd.lo a b
    · exact hc.lo a b
  · unfold andThenC
    have h1 := hc.anti a b
    have h2 := hd.anti a b
    by_cases h : c a b = 0
    · rw [if_pos h,if_pos (by omega)];exact h2
    · rw [if_neg h,if_neg (by omega)];exact h1
  · unfold andThenC at *
    by_cases ha : c a b = 0
    · rw [if_pos ha] at h1
      rw [hc.eq_left e ha]
      by_cases hb : c b e = 0
      · rw [if_pos hb] at h2 ⊢
        exact hd.le _ _ _ h1 h2
      · rw [if_neg hb] at h2 ⊢
        exact h2
    · rw [if_neg ha] at h1
      have h3 : c b e ≤ 0 := by
        by_cases hb : c b e = 0
        · omega
        · rw [if_neg hb] at h2;exact h2
      have h4 := hc.lt_le (show c a b < 0 by omega) h3
      rw [if_neg (by omega)]
      omega
end Go.Proofs.Ytfoaeigoajooeaa.Cmp
end
section
namespace Go.Proofs.Ytfoaeigoajooeaa.Z
open Go.RowKit Go.Proofs.YtfoaeigoajooeaaW.PrintWords Go.Proofs.YtfoaeigoajooeaaW.PrintLast Go.Proofs.YtfoaeigoajooeaaW.PrintMore Go.Proofs.Ytfoaeigoajooeaa.Cmp
theorem wrap_id {x : Int} (h0 : -9223372036854775808 ≤ x) (h1 : x ≤ 9223372036854775807) : wrap64 x = x := by unfold wrap64;omega
theorem wrap_succ {n : Nat} {m : Nat} (h : n < m) (hm : m ≤ 9223372036854775807) : wrap64 ((n : Int) + 1) = ((n + 1 : Nat) : Int) := by rw [wrap_id (by omega) (by omega)];omega
end Go.Proofs.Ytfoaeigoajooeaa.Z
end
section
namespace Go.Proofs.Ytfoaeigoajooeaa.Z
open Go.RowKit Go.Proofs.YtfoaeigoajooeaaW.PrintWords Go.Proofs.YtfoaeigoajooeaaW.PrintLast Go.Proofs.YtfoaeigoajooeaaW.PrintMore Go.Proofs.Ytfoaeigoajooeaa.Cmp
theorem equal_l0 (x : List S50) (hl : x.length ≤ 9223372036854775807) : ∀ d i k,x.length - i = d → i ≤ x.length → d < k → verdererref02_Equal.l0 k x x (i : Int) = some true := by
  intro d
  induction d with
  | zero =>
    intro i k hd hi hk
    obtain ⟨k,rfl⟩ : ∃ m,k = m + 1 := ⟨k - 1,by omega⟩
    simp only [verdererref02_Equal.l0]
    rw [if_neg (by omega)]
  | succ d ih =>
    intro i k hd hi hk
    obtain ⟨k,rfl⟩ : ∃ m,k = m + 1 := ⟨k - 1,by omega⟩
    simp only [verdererref02_Equal.l0]
    rw [if_pos (by omega),if_pos (by omega),if_pos (by omega),if_neg (by simp),wrap_succ (show i < x.length by omega) hl,ih (i + 1) k (by omega) (by omega) (by omega)]
theorem equal_self (x : List S50) (hl : x.length ≤ 9223372036854775807) (k : Nat) (hk : x.length < k) : verdererref02_Equal.f k x x = some true := by
  unfold verdererref02_Equal.f
  rw [if_pos rfl]
  have h := equal_l0 x hl x.length 0 k (by omega) (by omega) hk
  rw [show ((0 : Nat) : Int) = 0 from rfl] at h
  exact h
end Go.Proofs.Ytfoaeigoajooeaa.Z
end
section
namespace Go.Proofs.Ytfoaeigoajooeaa.Z
open Go.RowKit Go.Proofs.YtfoaeigoajooeaaW.PrintWords Go.Proofs.YtfoaeigoajooeaaW.PrintLast Go.Proofs.YtfoaeigoajooeaaW.PrintMore Go.Proofs.Ytfoaeigoajooeaa.Cmp
end Go.Proofs.Ytfoaeigoajooeaa.Z
end
section
namespace Go.Proofs.Ytfoaeigoajooeaa.Z
open Go.RowKit Go.Proofs.YtfoaeigoajooeaaW.PrintWords Go.Proofs.YtfoaeigoajooeaaW.PrintLast Go.Proofs.YtfoaeigoajooeaaW.PrintMore Go.Proofs.Ytfoaeigoajooeaa.Cmp
theorem xor_top_lo {m : Nat} (h : m < 9223372036854775808) : m ^^^ 9223372036854775808 = m + 9223372036854775808 := by
  have e : 9223372036854775808 + m = 9223372036854775808 ||| m := Nat.two_pow_add_eq_or_of_lt (i := 63) (b := m) (by omega) 1
  rw [Nat.add_comm,e]
  apply Nat.eq_of_testBit_eq
  intro i
  rw [Nat.testBit_xor,Nat.testBit_or,show (9223372036854775808 : Nat) = 2 ^ 63 from rfl,Nat.testBit_two_pow]
  by_cases hi : 63 = i
  · subst hi
    simp [Nat.testBit_lt_two_pow (show m < 2 ^ 63 by omega)]
  · simp [hi]
theorem xor_top {n : Nat} (h : n < 18446744073709551616) : n ^^^ 9223372036854775808 = (n + 9223372036854775808) % 18446744073709551616 := by
  rcases Nat.lt_or_ge n 9223372036854775808 with h1 | h1
  · rw [xor_top_lo h1];omega
  · obtain ⟨m,rfl⟩ : ∃ m,n = m + 9223372036854775808 := ⟨n - 9223372036854775808,by omega⟩
    rw [← xor_top_lo (show m < 9223372036854775808 by omega),Nat.xor_assoc,Nat.xor_self,Nat.xor_zero,xor_top_lo (show m < 9223372036854775808 by omega)]
    omega
def turn (x : Int) : Int := (x + 9223372036854775808) % 18446744073709551616
theorem turn_xor (x : Int) : Go.bits .xor .u64 (IntKind.u64.wrap x) 9223372036854775808 = turn x := by
  rw [Go.IntKind.wrap_u64]
  obtain ⟨n,hn⟩ : ∃ n : Nat,x % 18446744073709551616 = n := ⟨(x % 18446744073709551616).toNat,by omega⟩
  have hlt : n < 18446744073709551616 := by omega
  rw [hn,show (9223372036854775808 : Int) = ((9223372036854775808 : Nat) : Int) from rfl,Go.bits_xor_u64_nat n _ hlt (by decide),xor_top hlt]
  unfold turn
  omega
end Go.Proofs.Ytfoaeigoajooeaa.Z
end
section
namespace Go.Proofs.Ytfoaeigoajooeaa.Z
set_option linter.unusedVariables false
open Go.RowKit Go.Proofs.YtfoaeigoajooeaaW.PrintWords Go.Proofs.YtfoaeigoajooeaaW.PrintLast Go.Proofs.YtfoaeigoajooeaaW.PrintMore Go.Proofs.Ytfoaeigoajooeaa.Cmp
theorem rdn_get {xs : List Int} {i : Nat} (h : i < xs.length) : rd xs (i : Int) = xs[i] := by unfold rd;simp [List.getD,List.getElem?_eq_getElem h]
theorem dropn_rd {xs : List Int} {i : Nat} (h : i < xs.length) : xs.drop i = rd xs (i : Int) :: xs.drop (i + 1) := by rw [rdn_get h];exact List.drop_eq_getElem_cons h
def Bs (l : List Int) : Prop := ∀ x ∈ l,0 ≤ x ∧ x < 256
theorem Bs.drop {l : List Int} (h : Bs l) (n : Nat) : Bs (l.drop n) := fun x hx => h x (List.mem_of_mem_drop hx)
theorem Bs.take {l : List Int} (h : Bs l) (n : Nat) : Bs (l.take n) := fun x hx => h x (List.mem_of_mem_take hx)
theorem bs_rd {l : List Int} (h : Bs l) {i : Nat} (hi : i < l.length) : 0 ≤ rd l (i : Int) ∧ rd l (i : Int) < 256 := by rw [rdn_get hi];exact h _ (List.getElem_mem hi)
def cnt : List Int → Int → Int
  | [],acc => acc
  | b :: bs,acc => cnt bs ((acc * 256 + b) % 18446744073709551616)
theorem or_step {x b : Int} (h0 : 0 ≤ b) (h1 : b < 256) : Go.bits .or .u64 (IntKind.u64.wrap (x * 256)) (IntKind.u64.wrap b) = (x * 256 + b) % 18446744073709551616 := by
  rw [Go.IntKind.wrap_u64,Go.IntKind.wrap_u64,show b % 18446744073709551616 = b by omega]
  rw [Go.bits_join .u64 64 (by decide) (fun n g0 g1 => by rw [Go.IntKind.wrap_u64];omega) 8 _ _ (by omega) (by omega) (by omega) h0 (by omega) (by omega)]
  omega
theorem add_step {x b : Int} (h0 : 0 ≤ b) (h1 : b < 256) : IntKind.u64.wrap (IntKind.u64.wrap (x * 256) + IntKind.u64.wrap b) = (x * 256 + b) % 18446744073709551616 := by
  rw [Go.IntKind.wrap_u64,Go.IntKind.wrap_u64,Go.IntKind.wrap_u64]
  omega
def numRes (X : Int) : Int × Bool × Int × ByteArray × Int × Int := (2,false,wrap64 (turn X),⟨#[]⟩,9,0)
theorem count_l0 (x : List Int) (hb : Bs x) (hl : x.length ≤ 20000) : ∀ d i k acc,x.length - i = d → i ≤ x.length → 0 ≤ acc → acc < 18446744073709551616 → d < k → pack_count.l0 k acc x (x.length : Int) (i : Int) = some (numRes (cnt (x.drop i) acc)) := by
  intro d
  induction d with
  | zero =>
    intro i k acc hd hi h0 h1 hk
    obtain ⟨k,rfl⟩ : ∃ m,k = m + 1 := ⟨k - 1,by omega⟩
    simp only [pack_count.l0]
    have e : IntKind.u64.wrap acc = acc := by rw [Go.IntKind.wrap_u64];omega
    have t := turn_xor acc
    rw [e] at t
    rw [if_neg (by omega),List.drop_eq_nil_of_le (by omega),t]
    rfl
  | succ d ih =>
    intro i k acc hd hi h0 h1 hk
    obtain ⟨k,rfl⟩ : ∃ m,k = m + 1 := ⟨k - 1,by omega⟩
    have hlt : i < x.length := by omega
    obtain ⟨b0,b1⟩ := bs_rd hb hlt
    simp only [pack_count.l0]
    rw [if_pos (by omega),if_pos (by omega),if_pos (by omega),or_step b0 b1,wrap_succ hlt (by omega),dropn_rd hlt]
    exact ih (i + 1) k _ (by omega) (by omega) (by omega) (by omega) (by omega)
theorem countR_l0 (l : List Int) (hb : Bs l) (hl : 9 ≤ l.length) : ∀ (d i k : Nat) (acc : Int),9 - i = d → i ≤ 9 → d < k → verdererref04_First.l0 k l acc (i : Int) = some (numRes (cnt ((l.take 9).drop i) acc)) := by
  intro d
  induction d with
  | zero =>
    intro i k acc hd hi hk
    obtain ⟨k,rfl⟩ : ∃ m,k = m + 1 := ⟨k - 1,by omega⟩
    simp only [verdererref04_First.l0]
    rw [if_neg (by omega),List.drop_eq_nil_of_le (by simp;omega)]
    have e : IntKind.u64.wrap (acc - 9223372036854775808) = turn acc := by rw [Go.IntKind.wrap_u64];unfold turn;omega
    rw [e]
    rfl
  | succ d ih =>
    intro i k acc hd hi hk
    obtain ⟨k,rfl⟩ : ∃ m,k = m + 1 := ⟨k - 1,by omega⟩
    have hlt : i < (l.take 9).length := by simp;omega
    obtain ⟨b0,b1⟩ := bs_rd hb (show i < l.length by omega)
    simp only [verdererref04_First.l0]
    have e : rd (l.take 9) (i : Int) = rd l (i : Int) := by rw [rdn_get hlt,rdn_get (show i < l.length by omega)];simp
    rw [if_pos (by omega),if_pos (by omega),if_pos (by omega),add_step b0 b1,wrap_succ (show i < 9 by omega) (by omega),dropn_rd hlt,e]
    exact ih (i + 1) k _ (by omega) (by omega) (by omega)
def cutF : List Int → List Int → Int → ByteArray × Int × Int
  | [],_,_ => (⟨#[]⟩,0,8)
  | c :: cs,acc,i => if c = 0 then (match cs with
      | [] => (⟨#[]⟩,0,8)
      | d :: ds => if d = 1 then (strOfNums acc,i + 2,0) else if d = 255 then (if acc.length = 60 then (⟨#[]⟩,0,9) else cutF ds (acc ++ [c]) (i + 2)) else (⟨#[]⟩,0,7))
    else if acc.length = 60 then (⟨#[]⟩,0,9) else cutF cs (acc ++ [c]) (i + 1)
theorem cutF_nil (acc : List Int) (i : Int) : cutF [] acc i = (⟨#[]⟩,0,8) := by rw [cutF.eq_def]
theorem cutF_one (acc : List Int) (i : Int) : cutF [0] acc i = (⟨#[]⟩,0,8) := by rw [cutF.eq_def];rfl
theorem cutF_zero (d : Int) (ds acc : List Int) (i : Int) : cutF (0 :: d :: ds) acc i = if d = 1 then (strOfNums acc,i + 2,0) else if d = 255 then (if acc.length = 60 then (⟨#[]⟩,0,9) else cutF ds (acc ++ [0]) (i + 2)) else (⟨#[]⟩,0,7) := by rw [cutF.eq_def];rfl
theorem cutF_char {c : Int} (h : ¬ c = 0) (cs acc : List Int) (i : Int) : cutF (c :: cs) acc i = if acc.length = 60 then (⟨#[]⟩,0,9) else cutF cs (acc ++ [c]) (i + 1) := by rw [cutF.eq_def];simp only;rw [if_neg h]
theorem cutF_end : ∀ n (x acc : List Int) (i : Int),x.length ≤ n → ((cutF x acc i).2.2 = 0 → i + 2 ≤ (cutF x acc i).2.1 ∧ (cutF x acc i).2.1 ≤ i + x.length) := by
  intro n
  induction n with
  | zero =>
    intro x acc i hx h
    obtain rfl : x = [] := List.eq_nil_of_length_eq_zero (by omega)
    rw [cutF_nil] at h;cases h
  | succ n ih =>
    intro x acc i hx h
    cases x with
    | nil => rw [cutF_nil] at h;cases h
    | cons c cs =>
      by_cases h0 : c = 0
      · subst h0
        cases cs with
        | nil => rw [cutF_one] at h;cases h
        | cons d ds =>
          rw [cutF_zero] at h ⊢
          simp only [List.length_cons] at hx ⊢
          by_cases h1 : d = 1
          · rw [if_pos h1];simp only;omega
          · by_cases h2 : d = 255
            · rw [if_neg h1,if_pos h2] at h ⊢
              by_cases h3 : acc.length = 60
              · rw [if_pos h3] at h;cases h
              · rw [if_neg h3] at h ⊢
                have := ih ds _ _ (by omega) h
                omega
            · rw [if_neg h1,if_neg h2] at h;cases h
      · rw [cutF_char h0] at h ⊢
        simp only [List.length_cons] at hx ⊢
        by_cases h3 : acc.length = 60
        · rw [if_pos h3] at h;cases h
        · rw [if_neg h3] at h ⊢
          have := ih cs _ _ (by omega) h
          omega
theorem cut_l0 (x : List Int) (hl : x.length ≤ 20000) : ∀ d i k (acc : List Int),x.length - i ≤ d → i ≤ x.length → acc.length ≤ 60 → d < k → pack_cut.l0 k x acc (i : Int) = some (cutF (x.drop i) acc i) := by
  intro d
  induction d with
  | zero =>
    intro i k acc hd hi ha hk
    obtain ⟨k,rfl⟩ : ∃ m,k = m + 1 := ⟨k - 1,by omega⟩
    simp only [pack_cut.l0]
    rw [if_neg (by omega),List.drop_eq_nil_of_le (by omega),cutF_nil]
  | succ d ih =>
    intro i k acc hd hi ha hk
    obtain ⟨k,rfl⟩ : ∃ m,k = m + 1 := ⟨k - 1,by omega⟩
    simp only [pack_cut.l0]
    by_cases hlt : i < x.length
    · rw [if_pos (by omega),if_pos (by omega),wrap_succ hlt (by omega),dropn_rd hlt]
      by_cases h0 : rd x (i : Int) = 0
      · rw [if_pos h0,h0]
        by_cases h1 : ((i + 1 : Nat) : Int) = (x.length : Int)
        · rw [if_pos h1,List.drop_eq_nil_of_le (by omega),cutF_one]
        · have hlt1 : i + 1 < x.length := by omega
          rw [if_neg h1,if_pos (by omega),if_pos (by omega),dropn_rd hlt1,cutF_zero,wrap_succ hlt1 (by omega)]
          by_cases h2 : rd x ((i + 1 : Nat) : Int) = 1
          · rw [if_pos h2,if_pos h2]
            congr 1
          · rw [if_neg h2,if_neg h2]
            by_cases h3 : rd x ((i + 1 : Nat) : Int) = 255
            · rw [if_pos h3,if_pos h3]
              by_cases h4 : acc.length = 60
              · rw [if_pos h4,if_pos (by omega)]
              · rw [if_neg h4,if_neg (by omega),if_pos (by omega),ih (i + 1 + 1) k _ (by omega) (by omega) (by simp;omega) (by omega)]
                congr 1
            · rw [if_neg h3,if_neg h3]
      · rw [if_neg h0,cutF_char h0]
        by_cases h4 : acc.length = 60
        · rw [if_pos h4,if_pos (by omega)]
        · rw [if_neg h4,if_neg (by omega),if_pos (by omega),ih (i + 1) k _ (by omega) (by omega) (by simp;omega) (by omega)]
          congr 1
    · rw [if_neg (by omega),List.drop_eq_nil_of_le (by omega),cutF_nil]
def cutRes (r : ByteArray × Int × Int) : Int × Bool × Int × ByteArray × Int × Int := if r.2.2 = 0 then (3,false,0,r.1,1 + r.2.1,0) else (0,false,0,⟨#[]⟩,0,r.2.2)
theorem text_l0' (x : List Int) (hl : x.length ≤ 20001) : ∀ d i k (acc : List Int),x.length - (i + 1) ≤ d → i + 1 ≤ x.length → acc.length ≤ 60 → d < k → verdererref04_text.l0 k x acc ((i + 1 : Nat) : Int) 0 false 0 ⟨#[]⟩ = some (cutRes (cutF (x.drop (i + 1)) acc i)) := by
  intro d
  induction d with
  | zero =>
    intro i k acc hd hi ha hk
    obtain ⟨k,rfl⟩ : ∃ m,k = m + 1 := ⟨k - 1,by omega⟩
    simp only [verdererref04_text.l0]
    rw [if_neg (by omega),List.drop_eq_nil_of_le (by omega),cutF_nil]
    rfl
  | succ d ih =>
    intro i k acc hd hi ha hk
    obtain ⟨k,rfl⟩ : ∃ m,k = m + 1 := ⟨k - 1,by omega⟩
    simp only [verdererref04_text.l0]
    by_cases hlt : i + 1 < x.length
    · rw [if_pos (by omega),if_pos (by omega),wrap_succ hlt (by omega),dropn_rd hlt]
      by_cases h0 : rd x ((i + 1 : Nat) : Int) = 0
      · rw [if_pos h0,h0]
        by_cases h1 : ((i + 1 + 1 : Nat) : Int) ≥ (x.length : Int)
        · rw [if_pos h1,List.drop_eq_nil_of_le (by omega),cutF_one]
          rfl
        · have hlt1 : i + 1 + 1 < x.length := by omega
          rw [if_neg h1,if_pos (by omega),if_pos (by omega),dropn_rd hlt1,cutF_zero,wrap_succ hlt1 (by omega)]
          by_cases h2 : rd x ((i + 1 + 1 : Nat) : Int) = 1
          · rw [if_pos h2,if_pos h2]
            unfold cutRes
            rw [if_pos rfl]
            simp only [Option.some.injEq,Prod.mk.injEq,and_true,true_and]
            omega
          · rw [if_neg h2,if_neg h2]
            by_cases h3 : rd x ((i + 1 + 1 : Nat) : Int) = 255
            · rw [if_pos h3,if_pos h3]
              by_cases h4 : acc.length = 60
              · rw [if_pos h4,if_pos (by omega)]
                rfl
              · rw [if_neg h4,if_neg (by omega),if_pos (by omega),ih (i + 1 + 1) k _ (by omega) (by omega) (by simp;omega) (by omega)]
                congr 1
            · rw [if_neg h3,if_neg h3]
              rfl
      · rw [if_neg h0,cutF_char h0]
        by_cases h4 : acc.length = 60
        · rw [if_pos h4,if_pos (by omega)]
          rfl
        · rw [if_neg h4,if_neg (by omega),if_pos (by omega),ih (i + 1) k _ (by omega) (by omega) (by simp;omega) (by omega)]
          congr 1
    · rw [if_neg (by omega),List.drop_eq_nil_of_le (by omega),cutF_nil]
      rfl
def firstF (l : List Int) : Int × Bool × Int × ByteArray × Int × Int :=
  if l.length = 0 then (0,false,0,⟨#[]⟩,0,8)
  else if rd l 0 = 1 then (0,false,0,⟨#[]⟩,1,0)
  else if rd l 0 = 2 then (if l.length < 2 then (0,false,0,⟨#[]⟩,0,8) else if rd l 1 > 1 then (0,false,0,⟨#[]⟩,0,7) else (1,rd l 1 == 1,0,⟨#[]⟩,2,0))
  else if rd l 0 = 3 then (if l.length < 9 then (0,false,0,⟨#[]⟩,0,8) else numRes (cnt ((l.drop 1).take 8) 0))
  else if rd l 0 = 4 then cutRes (cutF (l.drop 1) [] 0)
  else (0,false,0,⟨#[]⟩,0,7)
theorem rd_drop (l : List Int) (i : Nat) (j : Nat) : rd (l.drop i) (j : Int) = rd l ((i + j : Nat) : Int) := by show (l.drop i).getD j 0 = l.getD (i + j) 0;simp [List.getD]
theorem packFirst_f (l : List Int) (hb : Bs l) (hl : l.length ≤ 20000) (k : Nat) (hk : 20010 ≤ k) : pack_First.f k l = some (firstF l) := by
  unfold pack_First.f firstF
  by_cases h : l.length = 0
  · rw [if_pos h,if_pos (by omega)]
  rw [if_neg h,if_neg (by omega),if_pos (by omega)]
  by_cases h1 : rd l 0 = 1
  · rw [if_pos h1,if_pos h1];rfl
  rw [if_neg h1,if_neg h1]
  by_cases h2 : rd l 0 = 2
  · rw [if_pos h2,if_pos h2,if_pos (by omega)]
    unfold pack_flag.f
    have e : rd (l.drop 1) 0 = rd l 1 := rd_drop l 1 0
    rw [e]
    by_cases h3 : l.length < 2
    · rw [if_pos h3,if_pos (by simp;omega)];rfl
    · rw [if_neg h3,if_neg (by simp;omega),if_pos (by simp;omega)]
      by_cases h4 : rd l 1 > 1
      · rw [if_pos h4,if_pos h4];rfl
      · rw [if_neg h4,if_neg h4];rfl
  rw [if_neg h2,if_neg h2]
  by_cases h3 : rd l 0 = 3
  · rw [if_pos h3,if_pos h3,if_pos (by omega)]
    unfold pack_count.f
    by_cases h4 : l.length < 9
    · rw [if_pos h4,if_pos (by simp;omega)];rfl
    · have e := count_l0 ((l.drop 1).take 8) ((hb.drop 1).take 8) (by simp;omega) ((l.drop 1).take 8).length 0 k 0 (by omega) (by omega) (by omega) (by omega) (by simp;omega)
      rw [show ((0 : Nat) : Int) = 0 from rfl,List.drop_zero] at e
      rw [if_neg h4,if_neg (by simp;omega),if_pos (by simp;omega),e]
      rfl
  rw [if_neg h3,if_neg h3]
  by_cases h4 : rd l 0 = 4
  · have e := cut_l0 (l.drop 1) (by simp;omega) (l.drop 1).length 0 k [] (by omega) (by omega) (by simp) (by simp;omega)
    rw [show ((0 : Nat) : Int) = 0 from rfl,List.drop_zero] at e
    have en := cutF_end _ (l.drop 1) [] 0 (Nat.le_refl _)
    rw [if_pos h4,if_pos h4,if_pos (by omega)]
    unfold pack_cut.f cutRes
    rw [e,Option.bind_some]
    by_cases h5 : (cutF (l.drop 1) [] 0).2.2 = 0
    · have := en h5
      rw [List.length_drop] at this
      rw [if_pos h5,if_pos h5,wrap_id (by omega) (by omega)]
      rfl
    · rw [if_neg h5,if_neg h5]
  rw [if_neg h4,if_neg h4]
theorem refFirst_f (l : List Int) (hb : Bs l) (hl : l.length ≤ 20000) (k : Nat) (hk : 20010 ≤ k) : verdererref04_First.f k l = some (firstF l) := by
  unfold verdererref04_First.f firstF
  by_cases h : l.length = 0
  · rw [if_pos h,if_pos (by omega)]
  rw [if_neg h,if_neg (by omega),if_pos (by omega)]
  by_cases h1 : rd l 0 = 1
  · rw [if_pos h1,if_pos h1]
  rw [if_neg h1,if_neg h1]
  by_cases h2 : rd l 0 = 2
  · rw [if_pos h2,if_pos h2]
    by_cases h3 : l.length < 2
    · rw [if_pos h3,if_pos (by omega)]
    · rw [if_neg h3,if_neg (by omega),if_pos (by omega)]
      by_cases h4 : rd l 1 > 1
      · rw [if_pos h4,if_pos h4]
      · rw [if_neg h4,if_neg h4]
  rw [if_neg h2,if_neg h2]
  by_cases h3 : rd l 0 = 3
  · rw [if_pos h3,if_pos h3]
    by_cases h4 : l.length < 9
    · rw [if_pos h4,if_pos (by omega)]
    · have e := countR_l0 l hb (by omega) 8 1 k 0 (by omega) (by omega) (by omega)
      rw [if_neg h4,if_neg (by omega)]
      rw [show ((1 : Nat) : Int) = 1 from rfl,List.drop_take] at e
      exact e
  rw [if_neg h3,if_neg h3]
  by_cases h4 : rd l 0 = 4
  · have e := text_l0' l (by omega) l.length 0 k [] (by omega) (by omega) (by simp) (by omega)
    rw [show ((0 + 1 : Nat) : Int) = 1 from rfl] at e
    rw [if_pos h4,if_pos h4]
    unfold verdererref04_text.f
    rw [e]
    rfl
  rw [if_neg h4,if_neg h4]
theorem firstF_end (l : List Int) : (firstF l).2.2.2.2.2 = 0 → 1 ≤ (firstF l).2.2.2.2.1 ∧ (firstF l).2.2.2.2.1 ≤ (l.length : Int) := by
  unfold firstF
  intro h
  by_cases g : l.length = 0
  · rw [if_pos g] at h;cases h
  rw [if_neg g] at h ⊢
  by_cases h1 : rd l 0 = 1
  · rw [if_pos h1];simp only;omega
  rw [if_neg h1] at h ⊢
  by_cases h2 : rd l 0 = 2
  · rw [if_pos h2] at h ⊢
    by_cases h3 : l.length < 2
    · rw [if_pos h3] at h;cases h
    · rw [if_neg h3] at h ⊢
      by_cases h4 : rd l 1 > 1
      · rw [if_pos h4] at h;cases h
      · rw [if_neg h4];simp only;omega
  rw [if_neg h2] at h ⊢
  by_cases h3 : rd l 0 = 3
  · rw [if_pos h3] at h ⊢
    by_cases h4 : l.length < 9
    · rw [if_pos h4] at h;cases h
    · rw [if_neg h4];unfold numRes;simp only;omega
  rw [if_neg h3] at h ⊢
  by_cases h4 : rd l 0 = 4
  · rw [if_pos h4] at h ⊢
    unfold cutRes at h ⊢
    by_cases h5 : (cutF (l.drop 1) [] 0).2.2 = 0
    · have := cutF_end _ (l.drop 1) [] 0 (Nat.le_refl _) h5
      rw [List.length_drop] at this
      rw [if_pos h5];simp only;omega
    · rw [if_neg h5] at h;exact absurd h h5
  rw [if_neg h4] at h;cases h
def backF : Nat → List Int → List S50 → List S50 × Int
  | 0,_,_ => ([],8)
  | n + 1,x,acc => if x.length = 0 then ([],8) else if rd x 0 = 0 then (if x.length > 1 then ([],7) else (acc,0)) else if (firstF x).2.2.2.2.2 = 0 then backF n (x.drop (firstF x).2.2.2.2.1.toNat) (acc ++ [⟨(firstF x).1,(firstF x).2.1,(firstF x).2.2.1,(firstF x).2.2.2.1⟩]) else ([],(firstF x).2.2.2.2.2)
theorem packBack_l0 : ∀ n (x : List Int) (acc : List S50) k,Bs x → x.length ≤ 20000 → x.length ≤ n → acc.length + x.length ≤ 20000 → n + 20020 ≤ k → pack_Back.l0 k x acc = some (backF (n + 1) x acc) := by
  intro n
  induction n with
  | zero =>
    intro x acc k hb hl hx ha hk
    obtain ⟨k,rfl⟩ : ∃ m,k = m + 1 := ⟨k - 1,by omega⟩
    simp only [pack_Back.l0,backF]
    rw [if_neg (by omega),if_pos (by omega)]
  | succ n ih =>
    intro x acc k hb hl hx ha hk
    obtain ⟨k,rfl⟩ : ∃ m,k = m + 1 := ⟨k - 1,by omega⟩
    rw [backF]
    simp only [pack_Back.l0]
    by_cases h : x.length = 0
    · rw [if_neg (by omega),if_pos (by omega)]
    rw [if_pos (by omega),if_pos (by omega),if_neg h]
    by_cases h0 : rd x 0 = 0
    · rw [if_pos h0,if_pos h0]
      by_cases h1 : x.length > 1
      · rw [if_pos h1,if_pos (by omega)]
      · rw [if_neg h1,if_neg (by omega)]
    rw [if_neg h0,if_neg h0,packFirst_f x hb hl k (by omega),Option.bind_some]
    by_cases h1 : (firstF x).2.2.2.2.2 = 0
    · have he := firstF_end x h1
      rw [if_pos h1,if_pos h1,if_pos (by omega),if_pos (by omega),if_pos (by omega)]
      exact ih _ _ k (hb.drop _) (by simp;omega) (by simp;omega) (by simp;omega) (by omega)
    · rw [if_neg h1,if_neg h1]
theorem refBack_l0 (l : List Int) (hb : Bs l) (hl : l.length ≤ 20000) : ∀ n i (acc : List S50) k,i ≤ l.length → l.length - i ≤ n → acc.length + (l.length - i) ≤ 20000 → n + 20020 ≤ k → verdererref04_Back.l0 k l acc (i : Int) = some (backF (n + 1) (l.drop i) acc) := by
  intro n
  induction n with
  | zero =>
    intro i acc k hi hx ha hk
    obtain ⟨k,rfl⟩ : ∃ m,k = m + 1 := ⟨k - 1,by omega⟩
    simp only [verdererref04_Back.l0,backF]
    rw [if_neg (by omega),if_pos (by simp;omega)]
  | succ n ih =>
    intro i acc k hi hx ha hk
    obtain ⟨k,rfl⟩ : ∃ m,k = m + 1 := ⟨k - 1,by omega⟩
    rw [backF]
    simp only [verdererref04_Back.l0]
    have e : rd (l.drop i) 0 = rd l (i : Int) := by have := rd_drop l i 0;simpa using this
    by_cases h : i < l.length
    · rw [if_pos (by omega),if_pos (by omega),if_neg (show ¬ (l.drop i).length = 0 by simp;omega),e]
      by_cases h0 : rd l (i : Int) = 0
      · rw [if_pos h0,if_pos h0,wrap_succ h (by omega)]
        by_cases h1 : (l.drop i).length > 1
        · rw [if_pos h1,if_pos (by simp at h1;omega)]
        · rw [if_neg h1,if_neg (by simp at h1;omega)]
      rw [if_neg h0,if_neg h0,if_pos (by omega),show ((i : Int)).toNat = i from rfl,refFirst_f (l.drop i) (hb.drop _) (by simp;omega) k (by omega),Option.bind_some]
      by_cases h1 : (firstF (l.drop i)).2.2.2.2.2 = 0
      · have he := firstF_end (l.drop i) h1
        rw [List.length_drop] at he
        rw [if_pos h1,if_pos h1,if_pos (by omega)]
        have e2 : wrap64 ((i : Int) + (firstF (l.drop i)).2.2.2.2.1) = ((i + (firstF (l.drop i)).2.2.2.2.1.toNat : Nat) : Int) := by rw [wrap_id (by omega) (by omega)];omega
        rw [e2,List.drop_drop]
        exact ih _ _ k (by omega) (by omega) (by simp;omega) (by omega)
      · rw [if_neg h1,if_neg h1]
    · rw [if_neg (by omega),if_pos (by simp;omega)]
theorem backF_len : ∀ n (x : List Int) (acc : List S50),(backF n x acc).1.length ≤ acc.length + n := by
  intro n
  induction n with
  | zero => intro x acc;simp [backF]
  | succ n ih =>
    intro x acc
    rw [backF]
    repeat' split
    · simp
    · simp
    · simp only;omega
    · have := ih (x.drop (firstF x).2.2.2.2.1.toNat) (acc ++ [⟨(firstF x).1,(firstF x).2.1,(firstF x).2.2.1,(firstF x).2.2.2.1⟩])
      simp at this ⊢
      omega
    · simp
theorem packBack_f (l : List Int) (hb : Bs l) (hl : l.length ≤ 20000) (k : Nat) (hk : 41000 ≤ k) : pack_Back.f k l = some (backF 20001 l []) := packBack_l0 20000 l [] k hb hl hl (by simpa using hl) (by omega)
theorem refBack_f (l : List Int) (hb : Bs l) (hl : l.length ≤ 20000) (k : Nat) (hk : 41000 ≤ k) : verdererref04_Back.f k l = some (backF 20001 l []) := by
  have h := refBack_l0 l hb hl 20000 0 [] k (by omega) (by omega) (by simp;omega) (by omega)
  rw [show ((0 : Nat) : Int) = 0 from rfl] at h
  exact h
end Go.Proofs.Ytfoaeigoajooeaa.Z
end
section
namespace Go.Proofs.Ytfoaeigoajooeaa.Z
open Go.RowKit Go.Proofs.YtfoaeigoajooeaaW.PrintWords Go.Proofs.YtfoaeigoajooeaaW.PrintLast Go.Proofs.YtfoaeigoajooeaaW.PrintMore
theorem known04 (k : Nat) (hk : 60 ≤ k) : verdererlaw04_known.f k = some true := at_rounds (fun k => verdererlaw04_known.mono k) hk (by decide +kernel)
end Go.Proofs.Ytfoaeigoajooeaa.Z
end
section
namespace Go.Proofs.Ytfoaeigoajooeaa.Z
open Go.RowKit Go.Proofs.YtfoaeigoajooeaaW.PrintWords Go.Proofs.YtfoaeigoajooeaaW.PrintLast Go.Proofs.YtfoaeigoajooeaaW.PrintMore
theorem packReads_pure : ∀ (l0 : (List Int)),(l0.length ≤ maxLen ∧ ∀ x ∈ l0,(Lit.int .u8 x).wf = true) → ∃ k,verdererlaw04_PackReads.f k l0 = some true := by
  intro l ⟨_,hw⟩
  have hb : Bs l := by
    intro x hx
    have := hw x hx
    simp [Lit.wf,IntKind.min,IntKind.max,IntKind.signed,IntKind.bits] at this
    omega
  refine ⟨41000,?_⟩
  unfold verdererlaw04_PackReads.f
  by_cases h : (l.length : Int) > 3000
  · rw [if_pos h,known04 41000 (by omega)];rfl
  · rw [if_neg h,packFirst_f l hb (by omega) 41000 (by omega),refFirst_f l hb (by omega) 41000 (by omega),packBack_f l hb (by omega) 41000 (by omega),refBack_f l hb (by omega) 41000 (by omega)]
    simp only [Option.bind_some]
    have hl := backF_len 20001 l []
    rw [List.length_nil] at hl
    rw [if_pos (by simp),if_pos True.intro,if_pos True.intro,equal_self _ (by omega) 41000 (by omega),Option.bind_some,if_pos rfl,if_pos True.intro,known04 41000 (by omega)]
    rfl
end Go.Proofs.Ytfoaeigoajooeaa.Z
end
namespace Go.Proofs.Ytfoaeigoajooeaa.packReads
open Go.ChangeShapes Go.WideShapes Go.ChangeAt Go.RowKit Go.Proofs.YtfoaeigoajooeaaW.PrintWords
open Go.ChangeMaps (open_string shut_string)
set_option linter.unusedVariables false
theorem own : ownKnob Try.prog.godebug = none := by kernel_rfl
theorem laidOut : laidOutB Try.prog = true := by kernel_rfl
set_option maxRecDepth 100000 in
theorem lifted (os : Os) (started : os.Started) (H : Type) (enc : TypeId × Value → H) :
    ReturnsInHanded {} Try.checked os 9 .any (Rows.packReadsSpec.pre6 enc Try.prog Try.f9 Rows.packReadsRow.domain false) (Rows.packReadsSpec.post enc Try.prog Try.f9 false true false false) := by
  refine returnsInHanded_of_change (C := Try.checked) own started (by kernel_rfl) Try.func9
    (ChangeSpec.witness6 (enc := enc) (C := Try.checked) false ⟨#[],#[.slice none 0 0],[]⟩ 8 (by kernel_rfl) (by kernel_rfl) (by kernel_rfl) (by kernel_rfl)) ?_
  intro W base args ds gs before hval0 hW hcnd _
  have hval : ∀ (j : Nat) t v,Try.f9.params[j]? = some t → args[j]? = some v → Value.okWide Try.prog W .any base t v := hval0
  have hW' := hW
  obtain ⟨p,q,hA0,hV,rfl,hfz,hnd⟩ := hW
  have hA : DataW.TrodAll enc Try.prog W 0 (fun _ => true) true Try.f9.params.toList args.toList ds p := hA0
  rw [Try.params9] at hA hval
  obtain ⟨v0,vs0,d0,ds0,p0,q0,hargs,rfl,rfl,h0,r0⟩ := trodAll_cons hA
  obtain ⟨rfl,rfl,rfl⟩ := trodAll_nil r0
  obtain rfl : args = #[v0] := by cases args;simp_all
  obtain ⟨rfl,rfl⟩ := trodVars_none hV
  obtain ⟨a0,len0,cap0,rfl⟩ := okWide_slice Try.underlying47 (hval 0 47 v0 rfl rfl)
  have k0 := h0
  have lt0 : ∀ x ∈ p0,x.block < W.heap.size := by obtain ⟨m,hm⟩ := k0;exact DataW.trod_lt m _ _ _ hm
  obtain ⟨l0,hK0,hG0⟩ : ∃ l,((Kd.slice 5 (Kd.int .u8)) : Kd (List Int)).K W l [.slice a0 len0 cap0] ∧ (l.length ≤ maxLen ∧ ∀ x ∈ l,(Lit.int .u8 x).wf = true) := by obtain ⟨fuel,hf⟩ := h0;exact (show OfTrod Try.prog 47 (Kd.slice 5 (Kd.int .u8)) _ from (ofTrod_slice Try.underlying47 (by kernel_rfl) (ofTrod_int Try.underlying5))) _ _ _ _ _ _ _ _ _ hf
  obtain ⟨A0,c0,he0,hl0,hC0⟩ := hK0
  simp only [List.cons.injEq,Value.slice.injEq,and_true] at he0
  obtain ⟨rfl,rfl,rfl⟩ := he0
  clear hA0 hval0
  obtain ⟨k,h⟩ := Z.packReads_pure l0 hG0
  refine (Z.verdererlaw04_PackReads.calls k _ _ l0 true W hC0 hl0 h).mono fun e W' ⟨he,bel⟩ => ?_
  subst he
  exact ⟨_,rfl,_,_,_,[],_,[],hW',trodAll_mk1 (shut_bool Try.underlying4 _),(trodAll_cons_mk (Below.trod laidOut (by kernel_rfl) (of_decide_eq_true (by kernel_rfl)) k0 bel lt0) trodAll_mk0),rfl,bel.frame _,fun h => by cases h⟩
theorem over : Rows.packReadsRow.holds Try.pinned (OpenSpec.ofChange Rows.packReadsSpec) :=
  OpenClaim.holds_of_wide 9 Try.f9 rfl rfl rfl rfl rfl rfl rfl ⟨rfl,rfl,rfl,rfl,rfl⟩ rfl rfl rfl rfl rfl (by kernel_rfl) Try.func9 (by kernel_rfl)
    (of_decide_eq_true (by kernel_rfl)) (by unfold Func.isWrapper;first | (rw [if_pos (by decide +kernel)];kernel_rfl) | (rw [if_neg (by decide +kernel)];exact ⟨rfl,rfl⟩))
    (fun os started H enc _ => lifted os started H enc)
theorem proved : Rows.PackReadsSaid := over
#print axioms proved
end Go.Proofs.Ytfoaeigoajooeaa.packReads
namespace Go.Proofs.Ytfoaeigoajooeaa
theorem packReads_holds : Rows.PackReadsSaid := packReads.proved
end Go.Proofs.Ytfoaeigoajooeaa
