/-
  verdererlaw04.PackRows: for every input the law returns true, and each argument reads behind the call as it read before. No condition.
-/
import Derived.Test.YtfoaeigoajooeaaMPackRowsa
import Derived.Test.YtfoaeigoajooeaaMPackRowsb
import Derived.Test.YtfoaeigoajooeaaMPackRowsc
import Derived.Test.YtfoaeigoajooeaaMPackRowsd
import Derived.Lib.Bytealg
import Derived.Laws.Bits64b
import Derived.Test.YtfoaeigoajooeaaRows
import Derived.WalkKit
import Derived.ProofKit
import Derived.OpenShut
import Derived.ShutString
import Derived.ChangeOld
import Derived.Below
namespace Go.Proofs.Ytfoaeigoajooeaa.Z
open Go.RowKit Go.Proofs.YtfoaeigoajooeaaW.PrintWords Go.Proofs.YtfoaeigoajooeaaW.PrintLast Go.Proofs.YtfoaeigoajooeaaW.PrintMore
attribute [local go_sem] max2_int min2_int max_two min_two max_three min_three max_four min_four
set_option linter.unusedVariables false
set_option linter.unusedSimpArgs false
/-! ### slices_CompareFunc: function 45 -/
def slices_CompareFunc.l0 : Nat → List (S50) → List (S50) → List (S50) → Int → Int → Option (Int)
  | 0,_,_,_,_,_ => none
  | k + 1,x0,x1,x11,x12,x13 => if x13 < x12 then (if 0 ≤ x13 then (if x13 < (x11.length : Int) then (if x13 ≥ (x1.length : Int) then (some 1) else (if x13 < (x1.length : Int) then ((value_Compare.f ((rd_T50 x11 x13).f0) ((rd_T50 x11 x13).f1) ((rd_T50 x11 x13).f2) ((rd_T50 x11 x13).f3) ((rd_T50 x1 x13).f0) ((rd_T50 x1 x13).f1) ((rd_T50 x1 x13).f2) ((rd_T50 x1 x13).f3)).bind fun t138 => (if t138 = 0 then (slices_CompareFunc.l0 k x0 x1 x11 x12 (wrap64 (x13 + 1))) else (some t138))) else (none))) else (none)) else (none)) else (if (x0.length : Int) < (x1.length : Int) then (some (-1)) else (some 0))
def slices_CompareFunc.f (k : Nat) (l0 : List (S50)) (l1 : List (S50)) (a2 : Int) : Option (Int) := slices_CompareFunc.l0 k l0 l1 l0 (l0.length : Int) 0
theorem slices_CompareFunc.mono_l : ∀ k,(∀ y0 y1 y2 y3 y4,LeO (slices_CompareFunc.l0 k y0 y1 y2 y3 y4) (slices_CompareFunc.l0 (k + 1) y0 y1 y2 y3 y4))
  | 0 => fun _ _ _ _ _ r h => by simp [slices_CompareFunc.l0] at h
  | k + 1 => by
    have ih0 := slices_CompareFunc.mono_l k
    · intro y0 y1 y2 y3 y4
      unfold slices_CompareFunc.l0
      repeat' first
      | (with_reducible exact ih0 _ _ _ _ _)
      | (with_reducible exact LeO.refl _)
      | (with_reducible exact LeO.none _)
      | (with_reducible refine LeO.ite ?_ ?_)
      | (with_reducible refine LeO.bind ?_ (fun _ => ?_))
      | exact ih0 _ _ _ _ _
      | exact LeO.none _
      | refine LeO.ite ?_ ?_
      | refine LeO.bind ?_ (fun _ => ?_)
theorem slices_CompareFunc.mono : ∀ a0 a1 a2 k,LeO (slices_CompareFunc.f k a0 a1 a2) (slices_CompareFunc.f (k + 1) a0 a1 a2) := by
  intro a0 a1 a2 k
  have ih0 := slices_CompareFunc.mono_l k
  unfold slices_CompareFunc.f
  repeat' first
      | (with_reducible exact ih0 _ _ _ _ _)
      | (with_reducible exact LeO.refl _)
      | (with_reducible exact LeO.none _)
      | (with_reducible refine LeO.ite ?_ ?_)
      | (with_reducible refine LeO.bind ?_ (fun _ => ?_))
      | exact ih0 _ _ _ _ _
      | exact LeO.none _
      | refine LeO.ite ?_ ?_
      | refine LeO.bind ?_ (fun _ => ?_)
set_option maxHeartbeats 8000000 in
set_option maxRecDepth 100000 in
theorem slices_CompareFunc.calls (k : Nat) (A0 : Option Addr) (c0 : Nat) (l0 : List (S50)) (A1 : Option Addr) (c1 : Nat) (l1 : List (S50)) (a2 : Int) (r : Int) (w : World) (hr0 : Kd.C k50 w A0 l0.length l0) (hc0 : l0.length ≤ c0) (hr1 : Kd.C k50 w A1 l1.length l1) (hc1 : l1.length ≤ c1) (h : slices_CompareFunc.f k l0 l1 a2 = some r) :
    Calls Try.prog 45 #[.slice A0 l0.length c0,.slice A1 l1.length c1,.func (.func 46) #[] #[]] w fun e w' => e = .returned (.int .i64 r) ∧ Below w.heap.size w w' := by
  have hu50 := Try.underlying50
  have HR0 := Aside0.mk hr0
  have HC0 := Aside0.mk hc0
  clear hr0 hc0
  have HR1 := Aside0.mk hr1
  have HC1 := Aside0.mk hc1
  clear hr1 hc1
  have HB := Aside0.mk (Below.refl w.heap.size w)
  have H : (slices_CompareFunc.l0 k l0 l1 l0 (l0.length : Int) 0) = some r := h
  clear h
  have H' := Aside0.mk H
  clear H
  go_enter Try.func45,Try.ntmps45
  go_wp2
  go_loopg [13] k (fun kq v13 w' => ∃ (x13_1 : Int),v13 = .int .i64 x13_1 ∧ Aside0 (slices_CompareFunc.l0 kq l0 l1 l0 (l0.length : Int) x13_1 = some r) ∧ Aside0 (kq ≤ k) ∧ Aside0 (Below w.heap.size w w'))
  case atStart => exact ⟨(0),(by first | rfl | (simp;done) | (simp [*];done)),H',⟨Nat.le_refl _⟩,⟨by repeat (first | (with_reducible first | exact HB.out | apply below_alloc | apply pw_below_drewN | apply below_drew1) | exact HB.out)⟩⟩
  case round =>
    clear H'
    try clear c1
    try clear p2
    obtain ⟨x13_1,rfl,HA,HK1,HB⟩ := hrel
    cases gk with
    | zero => exact absurd HA.out (by simp [slices_CompareFunc.l0])
    | succ k1 =>
      have H := HA.out
      clear HA
      simp only [slices_CompareFunc.l0] at H
      by_cases c4 : x13_1 < (l0.length : Int)
      · rw [if_pos c4] at H
        have c4b0 : decide (x13_1 < (l0.length : Int)) = true := decide_eq_true c4
        clear c4
        by_cases c5 : 0 ≤ x13_1
        · rw [if_pos c5] at H
          have c5b0 : decide (0 ≤ x13_1) = true := decide_eq_true c5
          clear c5
          by_cases c6 : x13_1 < (l0.length : Int)
          · rw [if_pos c6] at H
            have c6b0 : decide (x13_1 < (l0.length : Int)) = true := decide_eq_true c6
            clear c6
            by_cases c7 : x13_1 ≥ (l1.length : Int)
            · rw [if_pos c7] at H
              have c7b0 : decide ((l1.length : Int) ≤ x13_1) = true := decide_eq_true c7
              clear c7
              obtain rfl := Option.some.inj H
              have p134 : 0 ≤ (x13_1 : Int) := of_decide_eq_true (by first | (with_reducible assumption) | assumption)
              have q134 : x13_1 < (l0.length : Int) := of_decide_eq_true (by first | (with_reducible assumption) | assumption)
              obtain ⟨ad134,e134,hx134_0,hx134_1,hx134_2,hx134_3⟩ := at_T50 HR0.out x13_1 p134 q134
              cases e134
              replace hx134_0 := (HB.out.cell (World.block_lt_of_cell? w _ hx134_0)).trans hx134_0
              replace hx134_1 := (HB.out.cell (World.block_lt_of_cell? w _ hx134_1)).trans hx134_1
              replace hx134_2 := (HB.out.cell (World.block_lt_of_cell? w _ hx134_2)).trans hx134_2
              replace hx134_3 := (HB.out.cell (World.block_lt_of_cell? w _ hx134_3)).trans hx134_3
              replace p134 := eq_true p134
              replace q134 := eq_true q134
              go_wp2_with (first | ((with_reducible refine gate_dst (N := 8) rfl ?_);refine box_event ?hg (N := 8) ?hd (cs := #[.int .i64 0,.bool false,.int .i64 0,.string (⟨#[]⟩ : ByteArray)]) (t := 50) ?hr ?_;(case hd => rfl);(case hg => rfl);(case hr => first | (go_simp;done) | (go_simp;rfl));intro gb135 hg w8 hbox hb;have n0_ := Aside0.mk (below_step (by repeat (first | (with_reducible first | exact HB.out | apply below_alloc | apply pw_below_drewN | apply below_drew1) | exact HB.out)) hb);have n1_ := Aside0.mk (hbox);have n2_ := Aside0.mk ((by rw [hg];exact (below_size (by repeat (first | (with_reducible first | exact HB.out | apply below_alloc | apply pw_below_drewN | apply below_drew1) | exact HB.out))) : w.heap.size ≤ gb135));have n3_ := Aside0.mk ((by rw [hg];exact (below_size (by repeat (first | (with_reducible first | exact HB.out | apply below_alloc | apply pw_below_drewN | apply below_drew1) | exact HB.out))) : w.heap.size ≤ gb135));clear HB;have HB := n0_;have BK135 := n1_;have GW135 := n2_;have GE135 := n3_;clear n0_ n1_ n2_ n3_;clear hb hbox hg;have hcz9_0 : w8.cell? ⟨gb135,0,none⟩ = some (.int .i64 0) := (blk_cell BK135.out 0).trans rfl;have hcz9_1 : w8.cell? ⟨gb135,1,none⟩ = some (.bool false) := (blk_cell BK135.out 1).trans rfl;have hcz9_2 : w8.cell? ⟨gb135,2,none⟩ = some (.int .i64 0) := (blk_cell BK135.out 2).trans rfl;have hcz9_3 : w8.cell? ⟨gb135,3,none⟩ = some (.string (⟨#[]⟩ : ByteArray)) := (blk_cell BK135.out 3).trans rfl;have hfz9_0 := blk_frozen BK135.out 0;have hfz9_1 := blk_frozen BK135.out 1;have hfz9_2 := blk_frozen BK135.out 2;have hfz9_3 := blk_frozen BK135.out 3))
              go_ret
              exact ⟨by first | rfl | (simp [errW_none,errW_some] <;> rfl) | (simp [*,errW_none,errW_some] <;> rfl),by repeat (first | (with_reducible first | exact HB.out | apply below_alloc | apply pw_below_drewN | apply below_drew1 | refine below_set ?_ GE135.out) | exact HB.out)⟩
            · rw [if_neg c7] at H
              have c7b0 : decide ((l1.length : Int) ≤ x13_1) = false := decide_eq_false c7
              clear c7
              by_cases c10 : x13_1 < (l1.length : Int)
              · rw [if_pos c10] at H
                have c10b0 : decide (x13_1 < (l1.length : Int)) = true := decide_eq_true c10
                clear c10
                replace H := Option.bind_eq_some_iff.mp H
                obtain ⟨t138,A110,H⟩ := H
                replace H : (if t138 = 0 then (slices_CompareFunc.l0 k1 l0 l1 l0 (l0.length : Int) (wrap64 (x13_1 + 1))) else (some t138)) = some r := H
                have A11 := Aside0.mk A110
                clear A110
                by_cases c12 : t138 = 0
                · rw [if_pos c12] at H
                  have c12b0 : (t138 == 0) = true := beq_iff_eq.mpr c12
                  have c12b1 : (t138 != 0) = false := bne_eq_false_iff_eq.mpr c12
                  clear c12
                  have H' := Aside0.mk H
                  clear H
                  have p134 : 0 ≤ (x13_1 : Int) := of_decide_eq_true (by first | (with_reducible assumption) | assumption)
                  have q134 : x13_1 < (l0.length : Int) := of_decide_eq_true (by first | (with_reducible assumption) | assumption)
                  obtain ⟨ad134,e134,hx134_0,hx134_1,hx134_2,hx134_3⟩ := at_T50 HR0.out x13_1 p134 q134
                  cases e134
                  replace hx134_0 := (HB.out.cell (World.block_lt_of_cell? w _ hx134_0)).trans hx134_0
                  replace hx134_1 := (HB.out.cell (World.block_lt_of_cell? w _ hx134_1)).trans hx134_1
                  replace hx134_2 := (HB.out.cell (World.block_lt_of_cell? w _ hx134_2)).trans hx134_2
                  replace hx134_3 := (HB.out.cell (World.block_lt_of_cell? w _ hx134_3)).trans hx134_3
                  replace p134 := eq_true p134
                  replace q134 := eq_true q134
                  go_wp2_with (first | ((with_reducible refine gate_dst (N := 8) rfl ?_);refine box_event ?hg (N := 8) ?hd (cs := #[.int .i64 0,.bool false,.int .i64 0,.string (⟨#[]⟩ : ByteArray)]) (t := 50) ?hr ?_;(case hd => rfl);(case hg => rfl);(case hr => first | (go_simp;done) | (go_simp;rfl));intro gb135 hg w13 hbox hb;have n0_ := Aside0.mk (below_step (by repeat (first | (with_reducible first | exact HB.out | apply below_alloc | apply pw_below_drewN | apply below_drew1) | exact HB.out)) hb);have n1_ := Aside0.mk (hbox);have n2_ := Aside0.mk ((by rw [hg];exact (below_size (by repeat (first | (with_reducible first | exact HB.out | apply below_alloc | apply pw_below_drewN | apply below_drew1) | exact HB.out))) : w.heap.size ≤ gb135));have n3_ := Aside0.mk ((by rw [hg];exact (below_size (by repeat (first | (with_reducible first | exact HB.out | apply below_alloc | apply pw_below_drewN | apply below_drew1) | exact HB.out))) : w.heap.size ≤ gb135));clear HB;have HB := n0_;have BK135 := n1_;have GW135 := n2_;have GE135 := n3_;clear n0_ n1_ n2_ n3_;clear hb hbox hg;have hcz14_0 : w13.cell? ⟨gb135,0,none⟩ = some (.int .i64 0) := (blk_cell BK135.out 0).trans rfl;have hcz14_1 : w13.cell? ⟨gb135,1,none⟩ = some (.bool false) := (blk_cell BK135.out 1).trans rfl;have hcz14_2 : w13.cell? ⟨gb135,2,none⟩ = some (.int .i64 0) := (blk_cell BK135.out 2).trans rfl;have hcz14_3 : w13.cell? ⟨gb135,3,none⟩ = some (.string (⟨#[]⟩ : ByteArray)) := (blk_cell BK135.out 3).trans rfl;have hfz14_0 := blk_frozen BK135.out 0;have hfz14_1 := blk_frozen BK135.out 1;have hfz14_2 := blk_frozen BK135.out 2;have hfz14_3 := blk_frozen BK135.out 3;have p136 : 0 ≤ (x13_1 : Int) := of_decide_eq_true (by first | (with_reducible assumption) | assumption);have q136 : x13_1 < (l1.length : Int) := of_decide_eq_true (by first | (with_reducible assumption) | assumption);obtain ⟨ad136,e136,hx136_0,hx136_1,hx136_2,hx136_3⟩ := at_T50 HR1.out x13_1 p136 q136;cases e136;have hn136_0 : ad136.block ≠ gb135 := Nat.ne_of_lt (Nat.lt_of_lt_of_le (by have := World.block_lt_of_cell? _ _ hx136_0;first | rwa [add_block] at this | exact this) GW135.out);have hn136_1 : ad136.block ≠ gb135 := Nat.ne_of_lt (Nat.lt_of_lt_of_le (by have := World.block_lt_of_cell? _ _ hx136_0;first | rwa [add_block] at this | exact this) GW135.out);have hn136_2 : ad136.block ≠ gb135 := Nat.ne_of_lt (Nat.lt_of_lt_of_le (by have := World.block_lt_of_cell? _ _ hx136_0;first | rwa [add_block] at this | exact this) GW135.out);have hn136_3 : ad136.block ≠ gb135 := Nat.ne_of_lt (Nat.lt_of_lt_of_le (by have := World.block_lt_of_cell? _ _ hx136_0;first | rwa [add_block] at this | exact this) GW135.out);replace hx136_0 := (HB.out.cell (World.block_lt_of_cell? w _ hx136_0)).trans hx136_0;replace hx136_1 := (HB.out.cell (World.block_lt_of_cell? w _ hx136_1)).trans hx136_1;replace hx136_2 := (HB.out.cell (World.block_lt_of_cell? w _ hx136_2)).trans hx136_2;replace hx136_3 := (HB.out.cell (World.block_lt_of_cell? w _ hx136_3)).trans hx136_3;replace hx136_0 := (cell_far (p := ⟨gb135,0,none⟩) (by first | (rw [add_block];exact hn136_0) | (show (Addr.add _ _).block ≠ _;rw [add_block];exact hn136_0) | exact hn136_0) (.int .i64 ((rd_T50 l0 x13_1).f0))).trans hx136_0;replace hx136_1 := (cell_far (p := ⟨gb135,0,none⟩) (by first | (rw [add_block];exact hn136_0) | (show (Addr.add _ _).block ≠ _;rw [add_block];exact hn136_0) | exact hn136_0) (.int .i64 ((rd_T50 l0 x13_1).f0))).trans hx136_1;replace hx136_2 := (cell_far (p := ⟨gb135,0,none⟩) (by first | (rw [add_block];exact hn136_0) | (show (Addr.add _ _).block ≠ _;rw [add_block];exact hn136_0) | exact hn136_0) (.int .i64 ((rd_T50 l0 x13_1).f0))).trans hx136_2;replace hx136_3 := (cell_far (p := ⟨gb135,0,none⟩) (by first | (rw [add_block];exact hn136_0) | (show (Addr.add _ _).block ≠ _;rw [add_block];exact hn136_0) | exact hn136_0) (.int .i64 ((rd_T50 l0 x13_1).f0))).trans hx136_3;replace hx136_0 := (cell_far (p := ⟨gb135,1,none⟩) (by first | (rw [add_block];exact hn136_1) | (show (Addr.add _ _).block ≠ _;rw [add_block];exact hn136_1) | exact hn136_1) (.bool ((rd_T50 l0 x13_1).f1))).trans hx136_0;replace hx136_1 := (cell_far (p := ⟨gb135,1,none⟩) (by first | (rw [add_block];exact hn136_1) | (show (Addr.add _ _).block ≠ _;rw [add_block];exact hn136_1) | exact hn136_1) (.bool ((rd_T50 l0 x13_1).f1))).trans hx136_1;replace hx136_2 := (cell_far (p := ⟨gb135,1,none⟩) (by first | (rw [add_block];exact hn136_1) | (show (Addr.add _ _).block ≠ _;rw [add_block];exact hn136_1) | exact hn136_1) (.bool ((rd_T50 l0 x13_1).f1))).trans hx136_2;replace hx136_3 := (cell_far (p := ⟨gb135,1,none⟩) (by first | (rw [add_block];exact hn136_1) | (show (Addr.add _ _).block ≠ _;rw [add_block];exact hn136_1) | exact hn136_1) (.bool ((rd_T50 l0 x13_1).f1))).trans hx136_3;replace hx136_0 := (cell_far (p := ⟨gb135,2,none⟩) (by first | (rw [add_block];exact hn136_2) | (show (Addr.add _ _).block ≠ _;rw [add_block];exact hn136_2) | exact hn136_2) (.int .i64 ((rd_T50 l0 x13_1).f2))).trans hx136_0;replace hx136_1 := (cell_far (p := ⟨gb135,2,none⟩) (by first | (rw [add_block];exact hn136_2) | (show (Addr.add _ _).block ≠ _;rw [add_block];exact hn136_2) | exact hn136_2) (.int .i64 ((rd_T50 l0 x13_1).f2))).trans hx136_1;replace hx136_2 := (cell_far (p := ⟨gb135,2,none⟩) (by first | (rw [add_block];exact hn136_2) | (show (Addr.add _ _).block ≠ _;rw [add_block];exact hn136_2) | exact hn136_2) (.int .i64 ((rd_T50 l0 x13_1).f2))).trans hx136_2;replace hx136_3 := (cell_far (p := ⟨gb135,2,none⟩) (by first | (rw [add_block];exact hn136_2) | (show (Addr.add _ _).block ≠ _;rw [add_block];exact hn136_2) | exact hn136_2) (.int .i64 ((rd_T50 l0 x13_1).f2))).trans hx136_3;replace hx136_0 := (cell_far (p := ⟨gb135,3,none⟩) (by first | (rw [add_block];exact hn136_3) | (show (Addr.add _ _).block ≠ _;rw [add_block];exact hn136_3) | exact hn136_3) (.string ((rd_T50 l0 x13_1).f3))).trans hx136_0;replace hx136_1 := (cell_far (p := ⟨gb135,3,none⟩) (by first | (rw [add_block];exact hn136_3) | (show (Addr.add _ _).block ≠ _;rw [add_block];exact hn136_3) | exact hn136_3) (.string ((rd_T50 l0 x13_1).f3))).trans hx136_1;replace hx136_2 := (cell_far (p := ⟨gb135,3,none⟩) (by first | (rw [add_block];exact hn136_3) | (show (Addr.add _ _).block ≠ _;rw [add_block];exact hn136_3) | exact hn136_3) (.string ((rd_T50 l0 x13_1).f3))).trans hx136_2;replace hx136_3 := (cell_far (p := ⟨gb135,3,none⟩) (by first | (rw [add_block];exact hn136_3) | (show (Addr.add _ _).block ≠ _;rw [add_block];exact hn136_3) | exact hn136_3) (.string ((rd_T50 l0 x13_1).f3))).trans hx136_3;clear hn136_0;clear hn136_1;clear hn136_2;clear hn136_3;replace p136 := eq_true p136;replace q136 := eq_true q136) | ((with_reducible refine gate_dst (N := 9) rfl ?_);refine box_event ?hg (N := 9) ?hd (cs := #[.int .i64 0,.bool false,.int .i64 0,.string (⟨#[]⟩ : ByteArray)]) (t := 50) ?hr ?_;(case hd => rfl);(case hg => rfl);(case hr => first | (go_simp;done) | (go_simp;rfl));intro gb137 hg w15 hbox hb;have n0_ := Aside0.mk (blk_below (g := gb135) (o := .cells #[.int .i64 ((rd_T50 l0 x13_1).f0),.bool ((rd_T50 l0 x13_1).f1),.int .i64 ((rd_T50 l0 x13_1).f2),.string ((rd_T50 l0 x13_1).f3)] 50 (0,0)) (by (with_reducible repeat (first | refine blk_drewN ?_ _ | refine blk_drew ?_ | refine blk_alloc ?_ _));refine blk_put (cs := #[.int .i64 ((rd_T50 l0 x13_1).f0),.bool ((rd_T50 l0 x13_1).f1),.int .i64 ((rd_T50 l0 x13_1).f2),.string (⟨#[]⟩ : ByteArray)]) ?_ 3 _ rfl;(with_reducible repeat (first | refine blk_drewN ?_ _ | refine blk_drew ?_ | refine blk_alloc ?_ _));refine blk_put (cs := #[.int .i64 ((rd_T50 l0 x13_1).f0),.bool ((rd_T50 l0 x13_1).f1),.int .i64 0,.string (⟨#[]⟩ : ByteArray)]) ?_ 2 _ rfl;(with_reducible repeat (first | refine blk_drewN ?_ _ | refine blk_drew ?_ | refine blk_alloc ?_ _));refine blk_put (cs := #[.int .i64 ((rd_T50 l0 x13_1).f0),.bool false,.int .i64 0,.string (⟨#[]⟩ : ByteArray)]) ?_ 1 _ rfl;(with_reducible repeat (first | refine blk_drewN ?_ _ | refine blk_drew ?_ | refine blk_alloc ?_ _));refine blk_put (cs := #[.int .i64 0,.bool false,.int .i64 0,.string (⟨#[]⟩ : ByteArray)]) ?_ 0 _ rfl;(with_reducible repeat (first | refine blk_drewN ?_ _ | refine blk_drew ?_ | refine blk_alloc ?_ _));exact BK135.out) hb);have n1_ := Aside0.mk (below_step (by repeat (first | (with_reducible first | exact HB.out | apply below_alloc | apply pw_below_drewN | apply below_drew1 | refine below_set ?_ GE135.out) | exact HB.out)) hb);have n2_ := Aside0.mk (hbox);have n3_ := Aside0.mk ((by rw [hg];exact (below_size (by repeat (first | (with_reducible first | exact HB.out | apply below_alloc | apply pw_below_drewN | apply below_drew1 | refine below_set ?_ GE135.out) | exact HB.out))) : w.heap.size ≤ gb137));have n4_ := Aside0.mk ((by rw [hg];exact (below_size (by repeat (first | (with_reducible first | exact HB.out | apply below_alloc | apply pw_below_drewN | apply below_drew1 | refine below_set ?_ GE135.out) | exact HB.out))) : w.heap.size ≤ gb137));have n5_ := Aside0.mk ((by rw [hg];exact Nat.ne_of_lt (blk_lt (g := gb135) (o := .cells #[.int .i64 ((rd_T50 l0 x13_1).f0),.bool ((rd_T50 l0 x13_1).f1),.int .i64 ((rd_T50 l0 x13_1).f2),.string ((rd_T50 l0 x13_1).f3)] 50 (0,0)) (by (with_reducible repeat (first | refine blk_drewN ?_ _ | refine blk_drew ?_ | refine blk_alloc ?_ _));refine blk_put (cs := #[.int .i64 ((rd_T50 l0 x13_1).f0),.bool ((rd_T50 l0 x13_1).f1),.int .i64 ((rd_T50 l0 x13_1).f2),.string (⟨#[]⟩ : ByteArray)]) ?_ 3 _ rfl;(with_reducible repeat (first | refine blk_drewN ?_ _ | refine blk_drew ?_ | refine blk_alloc ?_ _));refine blk_put (cs := #[.int .i64 ((rd_T50 l0 x13_1).f0),.bool ((rd_T50 l0 x13_1).f1),.int .i64 0,.string (⟨#[]⟩ : ByteArray)]) ?_ 2 _ rfl;(with_reducible repeat (first | refine blk_drewN ?_ _ | refine blk_drew ?_ | refine blk_alloc ?_ _));refine blk_put (cs := #[.int .i64 ((rd_T50 l0 x13_1).f0),.bool false,.int .i64 0,.string (⟨#[]⟩ : ByteArray)]) ?_ 1 _ rfl;(with_reducible repeat (first | refine blk_drewN ?_ _ | refine blk_drew ?_ | refine blk_alloc ?_ _));refine blk_put (cs := #[.int .i64 0,.bool false,.int .i64 0,.string (⟨#[]⟩ : ByteArray)]) ?_ 0 _ rfl;(with_reducible repeat (first | refine blk_drewN ?_ _ | refine blk_drew ?_ | refine blk_alloc ?_ _));exact BK135.out)) : gb135 ≠ gb137));have n6_ := Aside0.mk ((by rw [hg];exact Nat.ne_of_gt (blk_lt (g := gb135) (o := .cells #[.int .i64 ((rd_T50 l0 x13_1).f0),.bool ((rd_T50 l0 x13_1).f1),.int .i64 ((rd_T50 l0 x13_1).f2),.string ((rd_T50 l0 x13_1).f3)] 50 (0,0)) (by (with_reducible repeat (first | refine blk_drewN ?_ _ | refine blk_drew ?_ | refine blk_alloc ?_ _));refine blk_put (cs := #[.int .i64 ((rd_T50 l0 x13_1).f0),.bool ((rd_T50 l0 x13_1).f1),.int .i64 ((rd_T50 l0 x13_1).f2),.string (⟨#[]⟩ : ByteArray)]) ?_ 3 _ rfl;(with_reducible repeat (first | refine blk_drewN ?_ _ | refine blk_drew ?_ | refine blk_alloc ?_ _));refine blk_put (cs := #[.int .i64 ((rd_T50 l0 x13_1).f0),.bool ((rd_T50 l0 x13_1).f1),.int .i64 0,.string (⟨#[]⟩ : ByteArray)]) ?_ 2 _ rfl;(with_reducible repeat (first | refine blk_drewN ?_ _ | refine blk_drew ?_ | refine blk_alloc ?_ _));refine blk_put (cs := #[.int .i64 ((rd_T50 l0 x13_1).f0),.bool false,.int .i64 0,.string (⟨#[]⟩ : ByteArray)]) ?_ 1 _ rfl;(with_reducible repeat (first | refine blk_drewN ?_ _ | refine blk_drew ?_ | refine blk_alloc ?_ _));refine blk_put (cs := #[.int .i64 0,.bool false,.int .i64 0,.string (⟨#[]⟩ : ByteArray)]) ?_ 0 _ rfl;(with_reducible repeat (first | refine blk_drewN ?_ _ | refine blk_drew ?_ | refine blk_alloc ?_ _));exact BK135.out)) : gb137 ≠ gb135));clear BK135;clear HB;have BK135 := n0_;have HB := n1_;have BK137 := n2_;have GW137 := n3_;have GE137 := n4_;have NB135_137 := n5_;have NB137_135 := n6_;clear n0_ n1_ n2_ n3_ n4_ n5_ n6_;clear hb hbox hg;have hnb16 := NB137_135.out;have hnc16 := NB135_137.out;have hcz17_0 : w15.cell? ⟨gb137,0,none⟩ = some (.int .i64 0) := (blk_cell BK137.out 0).trans rfl;have hcz17_1 : w15.cell? ⟨gb137,1,none⟩ = some (.bool false) := (blk_cell BK137.out 1).trans rfl;have hcz17_2 : w15.cell? ⟨gb137,2,none⟩ = some (.int .i64 0) := (blk_cell BK137.out 2).trans rfl;have hcz17_3 : w15.cell? ⟨gb137,3,none⟩ = some (.string (⟨#[]⟩ : ByteArray)) := (blk_cell BK137.out 3).trans rfl;have hfz17_0 := blk_frozen BK137.out 0;have hfz17_1 := blk_frozen BK137.out 1;have hfz17_2 := blk_frozen BK137.out 2;have hfz17_3 := blk_frozen BK137.out 3;have hcz18_0 : w15.cell? ⟨gb135,0,none⟩ = some (.int .i64 ((rd_T50 l0 x13_1).f0)) := (blk_cell BK135.out 0).trans rfl;have hcz18_1 : w15.cell? ⟨gb135,1,none⟩ = some (.bool ((rd_T50 l0 x13_1).f1)) := (blk_cell BK135.out 1).trans rfl;have hcz18_2 : w15.cell? ⟨gb135,2,none⟩ = some (.int .i64 ((rd_T50 l0 x13_1).f2)) := (blk_cell BK135.out 2).trans rfl;have hcz18_3 : w15.cell? ⟨gb135,3,none⟩ = some (.string ((rd_T50 l0 x13_1).f3)) := (blk_cell BK135.out 3).trans rfl;have hfz18_0 := blk_frozen BK135.out 0;have hfz18_1 := blk_frozen BK135.out 1;have hfz18_2 := blk_frozen BK135.out 2;have hfz18_3 := blk_frozen BK135.out 3) | ((with_reducible refine gate_tmp (n := 26) rfl ?_);refine goesT_ (some 29) rfl rfl Try.func46 (by kernel_rfl) rfl #[.agg #[.int .i64 ((rd_T50 l0 x13_1).f0),.bool ((rd_T50 l0 x13_1).f1),.int .i64 ((rd_T50 l0 x13_1).f2),.string ((rd_T50 l0 x13_1).f3)],.agg #[.int .i64 ((rd_T50 l1 x13_1).f0),.bool ((rd_T50 l1 x13_1).f1),.int .i64 ((rd_T50 l1 x13_1).f2),.string ((rd_T50 l1 x13_1).f3)]] rfl rfl (by (try simp only [List.map_toArray,List.map_cons,List.map_nil]);first | done | rfl | (simp only [List.length_drop,List.length_take];rfl)) ?_;(with_reducible refine (value_Compare.calls ((rd_T50 l0 x13_1).f0) ((rd_T50 l0 x13_1).f1) ((rd_T50 l0 x13_1).f2) ((rd_T50 l0 x13_1).f3) ((rd_T50 l1 x13_1).f0) ((rd_T50 l1 x13_1).f1) ((rd_T50 l1 x13_1).f2) ((rd_T50 l1 x13_1).f3) t138 _ A11.out).mono ?_);rintro e w19 ⟨rfl,hb⟩;refine ⟨_,rfl,?_⟩;have n0_ := Aside0.mk (blk_below (g := gb135) (o := .cells #[.int .i64 ((rd_T50 l0 x13_1).f0),.bool ((rd_T50 l0 x13_1).f1),.int .i64 ((rd_T50 l0 x13_1).f2),.string ((rd_T50 l0 x13_1).f3)] 50 (0,0)) (by (with_reducible repeat (first | refine blk_drewN ?_ _ | refine blk_drew ?_ | refine blk_alloc ?_ _));refine blk_far ?_ NB135_137.out _;(with_reducible repeat (first | refine blk_drewN ?_ _ | refine blk_drew ?_ | refine blk_alloc ?_ _));refine blk_far ?_ NB135_137.out _;(with_reducible repeat (first | refine blk_drewN ?_ _ | refine blk_drew ?_ | refine blk_alloc ?_ _));refine blk_far ?_ NB135_137.out _;(with_reducible repeat (first | refine blk_drewN ?_ _ | refine blk_drew ?_ | refine blk_alloc ?_ _));refine blk_far ?_ NB135_137.out _;(with_reducible repeat (first | refine blk_drewN ?_ _ | refine blk_drew ?_ | refine blk_alloc ?_ _));exact BK135.out) hb);have n1_ := Aside0.mk (blk_below (g := gb137) (o := .cells #[.int .i64 ((rd_T50 l1 x13_1).f0),.bool ((rd_T50 l1 x13_1).f1),.int .i64 ((rd_T50 l1 x13_1).f2),.string ((rd_T50 l1 x13_1).f3)] 50 (0,0)) (by (with_reducible repeat (first | refine blk_drewN ?_ _ | refine blk_drew ?_ | refine blk_alloc ?_ _));refine blk_put (cs := #[.int .i64 ((rd_T50 l1 x13_1).f0),.bool ((rd_T50 l1 x13_1).f1),.int .i64 ((rd_T50 l1 x13_1).f2),.string (⟨#[]⟩ : ByteArray)]) ?_ 3 _ rfl;(with_reducible repeat (first | refine blk_drewN ?_ _ | refine blk_drew ?_ | refine blk_alloc ?_ _));refine blk_put (cs := #[.int .i64 ((rd_T50 l1 x13_1).f0),.bool ((rd_T50 l1 x13_1).f1),.int .i64 0,.string (⟨#[]⟩ : ByteArray)]) ?_ 2 _ rfl;(with_reducible repeat (first | refine blk_drewN ?_ _ | refine blk_drew ?_ | refine blk_alloc ?_ _));refine blk_put (cs := #[.int .i64 ((rd_T50 l1 x13_1).f0),.bool false,.int .i64 0,.string (⟨#[]⟩ : ByteArray)]) ?_ 1 _ rfl;(with_reducible repeat (first | refine blk_drewN ?_ _ | refine blk_drew ?_ | refine blk_alloc ?_ _));refine blk_put (cs := #[.int .i64 0,.bool false,.int .i64 0,.string (⟨#[]⟩ : ByteArray)]) ?_ 0 _ rfl;(with_reducible repeat (first | refine blk_drewN ?_ _ | refine blk_drew ?_ | refine blk_alloc ?_ _));exact BK137.out) hb);have n2_ := Aside0.mk (below_step (by repeat (first | (with_reducible first | exact HB.out | apply below_alloc | apply pw_below_drewN | apply below_drew1 | refine below_set ?_ GE135.out | refine below_set ?_ GE137.out) | exact HB.out)) hb);clear BK135;clear BK137;clear HB;have BK135 := n0_;have BK137 := n1_;have HB := n2_;clear n0_ n1_ n2_;(try clear hb);(try clear hb2);(try clear hk);(try clear hi)))
                  go_roundg k1
                  case measure => have := HK1.out;omega
                  case rel => exact ⟨(wrap64 (x13_1 + 1)),(by first | rfl | (simp;done) | (simp [*];done)),H',⟨by have := HK1.out;omega⟩,⟨by repeat (first | (with_reducible first | exact HB.out | apply below_alloc | apply pw_below_drewN | apply below_drew1 | refine below_set ?_ GE135.out | refine below_set ?_ GE137.out) | exact HB.out)⟩⟩
                · rw [if_neg c12] at H
                  have c12b0 : (t138 == 0) = false := beq_eq_false_iff_ne.mpr c12
                  have c12b1 : (t138 != 0) = true := bne_iff_ne.mpr c12
                  obtain rfl := Option.some.inj H
                  have p134 : 0 ≤ (x13_1 : Int) := of_decide_eq_true (by first | (with_reducible assumption) | assumption)
                  have q134 : x13_1 < (l0.length : Int) := of_decide_eq_true (by first | (with_reducible assumption) | assumption)
                  obtain ⟨ad134,e134,hx134_0,hx134_1,hx134_2,hx134_3⟩ := at_T50 HR0.out x13_1 p134 q134
                  cases e134
                  replace hx134_0 := (HB.out.cell (World.block_lt_of_cell? w _ hx134_0)).trans hx134_0
                  replace hx134_1 := (HB.out.cell (World.block_lt_of_cell? w _ hx134_1)).trans hx134_1
                  replace hx134_2 := (HB.out.cell (World.block_lt_of_cell? w _ hx134_2)).trans hx134_2
                  replace hx134_3 := (HB.out.cell (World.block_lt_of_cell? w _ hx134_3)).trans hx134_3
                  replace p134 := eq_true p134
                  replace q134 := eq_true q134
                  go_wp2_with (first | ((with_reducible refine gate_dst (N := 8) rfl ?_);refine box_event ?hg (N := 8) ?hd (cs := #[.int .i64 0,.bool false,.int .i64 0,.string (⟨#[]⟩ : ByteArray)]) (t := 50) ?hr ?_;(case hd => rfl);(case hg => rfl);(case hr => first | (go_simp;done) | (go_simp;rfl));intro gb135 hg w20 hbox hb;have n0_ := Aside0.mk (below_step (by repeat (first | (with_reducible first | exact HB.out | apply below_alloc | apply pw_below_drewN | apply below_drew1) | exact HB.out)) hb);have n1_ := Aside0.mk (hbox);have n2_ := Aside0.mk ((by rw [hg];exact (below_size (by repeat (first | (with_reducible first | exact HB.out | apply below_alloc | apply pw_below_drewN | apply below_drew1) | exact HB.out))) : w.heap.size ≤ gb135));have n3_ := Aside0.mk ((by rw [hg];exact (below_size (by repeat (first | (with_reducible first | exact HB.out | apply below_alloc | apply pw_below_drewN | apply below_drew1) | exact HB.out))) : w.heap.size ≤ gb135));clear HB;have HB := n0_;have BK135 := n1_;have GW135 := n2_;have GE135 := n3_;clear n0_ n1_ n2_ n3_;clear hb hbox hg;have hcz21_0 : w20.cell? ⟨gb135,0,none⟩ = some (.int .i64 0) := (blk_cell BK135.out 0).trans rfl;have hcz21_1 : w20.cell? ⟨gb135,1,none⟩ = some (.bool false) := (blk_cell BK135.out 1).trans rfl;have hcz21_2 : w20.cell? ⟨gb135,2,none⟩ = some (.int .i64 0) := (blk_cell BK135.out 2).trans rfl;have hcz21_3 : w20.cell? ⟨gb135,3,none⟩ = some (.string (⟨#[]⟩ : ByteArray)) := (blk_cell BK135.out 3).trans rfl;have hfz21_0 := blk_frozen BK135.out 0;have hfz21_1 := blk_frozen BK135.out 1;have hfz21_2 := blk_frozen BK135.out 2;have hfz21_3 := blk_frozen BK135.out 3;have p136 : 0 ≤ (x13_1 : Int) := of_decide_eq_true (by first | (with_reducible assumption) | assumption);have q136 : x13_1 < (l1.length : Int) := of_decide_eq_true (by first | (with_reducible assumption) | assumption);obtain ⟨ad136,e136,hx136_0,hx136_1,hx136_2,hx136_3⟩ := at_T50 HR1.out x13_1 p136 q136;cases e136;have hn136_0 : ad136.block ≠ gb135 := Nat.ne_of_lt (Nat.lt_of_lt_of_le (by have := World.block_lt_of_cell? _ _ hx136_0;first | rwa [add_block] at this | exact this) GW135.out);have hn136_1 : ad136.block ≠ gb135 := Nat.ne_of_lt (Nat.lt_of_lt_of_le (by have := World.block_lt_of_cell? _ _ hx136_0;first | rwa [add_block] at this | exact this) GW135.out);have hn136_2 : ad136.block ≠ gb135 := Nat.ne_of_lt (Nat.lt_of_lt_of_le (by have := World.block_lt_of_cell? _ _ hx136_0;first | rwa [add_block] at this | exact this) GW135.out);have hn136_3 : ad136.block ≠ gb135 := Nat.ne_of_lt (Nat.lt_of_lt_of_le (by have := World.block_lt_of_cell? _ _ hx136_0;first | rwa [add_block] at this | exact this) GW135.out);replace hx136_0 := (HB.out.cell (World.block_lt_of_cell? w _ hx136_0)).trans hx136_0;replace hx136_1 := (HB.out.cell (World.block_lt_of_cell? w _ hx136_1)).trans hx136_1;replace hx136_2 := (HB.out.cell (World.block_lt_of_cell? w _ hx136_2)).trans hx136_2;replace hx136_3 := (HB.out.cell (World.block_lt_of_cell? w _ hx136_3)).trans hx136_3;replace hx136_0 := (cell_far (p := ⟨gb135,0,none⟩) (by first | (rw [add_block];exact hn136_0) | (show (Addr.add _ _).block ≠ _;rw [add_block];exact hn136_0) | exact hn136_0) (.int .i64 ((rd_T50 l0 x13_1).f0))).trans hx136_0;replace hx136_1 := (cell_far (p := ⟨gb135,0,none⟩) (by first | (rw [add_block];exact hn136_0) | (show (Addr.add _ _).block ≠ _;rw [add_block];exact hn136_0) | exact hn136_0) (.int .i64 ((rd_T50 l0 x13_1).f0))).trans hx136_1;replace hx136_2 := (cell_far (p := ⟨gb135,0,none⟩) (by first | (rw [add_block];exact hn136_0) | (show (Addr.add _ _).block ≠ _;rw [add_block];exact hn136_0) | exact hn136_0) (.int .i64 ((rd_T50 l0 x13_1).f0))).trans hx136_2;replace hx136_3 := (cell_far (p := ⟨gb135,0,none⟩) (by first | (rw [add_block];exact hn136_0) | (show (Addr.add _ _).block ≠ _;rw [add_block];exact hn136_0) | exact hn136_0) (.int .i64 ((rd_T50 l0 x13_1).f0))).trans hx136_3;replace hx136_0 := (cell_far (p := ⟨gb135,1,none⟩) (by first | (rw [add_block];exact hn136_1) | (show (Addr.add _ _).block ≠ _;rw [add_block];exact hn136_1) | exact hn136_1) (.bool ((rd_T50 l0 x13_1).f1))).trans hx136_0;replace hx136_1 := (cell_far (p := ⟨gb135,1,none⟩) (by first | (rw [add_block];exact hn136_1) | (show (Addr.add _ _).block ≠ _;rw [add_block];exact hn136_1) | exact hn136_1) (.bool ((rd_T50 l0 x13_1).f1))).trans hx136_1;replace hx136_2 := (cell_far (p := ⟨gb135,1,none⟩) (by first | (rw [add_block];exact hn136_1) | (show (Addr.add _ _).block ≠ _;rw [add_block];exact hn136_1) | exact hn136_1) (.bool ((rd_T50 l0 x13_1).f1))).trans hx136_2;replace hx136_3 := (cell_far (p := ⟨gb135,1,none⟩) (by first | (rw [add_block];exact hn136_1) | (show (Addr.add _ _).block ≠ _;rw [add_block];exact hn136_1) | exact hn136_1) (.bool ((rd_T50 l0 x13_1).f1))).trans hx136_3;replace hx136_0 := (cell_far (p := ⟨gb135,2,none⟩) (by first | (rw [add_block];exact hn136_2) | (show (Addr.add _ _).block ≠ _;rw [add_block];exact hn136_2) | exact hn136_2) (.int .i64 ((rd_T50 l0 x13_1).f2))).trans hx136_0;replace hx136_1 := (cell_far (p := ⟨gb135,2,none⟩) (by first | (rw [add_block];exact hn136_2) | (show (Addr.add _ _).block ≠ _;rw [add_block];exact hn136_2) | exact hn136_2) (.int .i64 ((rd_T50 l0 x13_1).f2))).trans hx136_1;replace hx136_2 := (cell_far (p := ⟨gb135,2,none⟩) (by first | (rw [add_block];exact hn136_2) | (show (Addr.add _ _).block ≠ _;rw [add_block];exact hn136_2) | exact hn136_2) (.int .i64 ((rd_T50 l0 x13_1).f2))).trans hx136_2;replace hx136_3 := (cell_far (p := ⟨gb135,2,none⟩) (by first | (rw [add_block];exact hn136_2) | (show (Addr.add _ _).block ≠ _;rw [add_block];exact hn136_2) | exact hn136_2) (.int .i64 ((rd_T50 l0 x13_1).f2))).trans hx136_3;replace hx136_0 := (cell_far (p := ⟨gb135,3,none⟩) (by first | (rw [add_block];exact hn136_3) | (show (Addr.add _ _).block ≠ _;rw [add_block];exact hn136_3) | exact hn136_3) (.string ((rd_T50 l0 x13_1).f3))).trans hx136_0;replace hx136_1 := (cell_far (p := ⟨gb135,3,none⟩) (by first | (rw [add_block];exact hn136_3) | (show (Addr.add _ _).block ≠ _;rw [add_block];exact hn136_3) | exact hn136_3) (.string ((rd_T50 l0 x13_1).f3))).trans hx136_1;replace hx136_2 := (cell_far (p := ⟨gb135,3,none⟩) (by first | (rw [add_block];exact hn136_3) | (show (Addr.add _ _).block ≠ _;rw [add_block];exact hn136_3) | exact hn136_3) (.string ((rd_T50 l0 x13_1).f3))).trans hx136_2;replace hx136_3 := (cell_far (p := ⟨gb135,3,none⟩) (by first | (rw [add_block];exact hn136_3) | (show (Addr.add _ _).block ≠ _;rw [add_block];exact hn136_3) | exact hn136_3) (.string ((rd_T50 l0 x13_1).f3))).trans hx136_3;clear hn136_0;clear hn136_1;clear hn136_2;clear hn136_3;replace p136 := eq_true p136;replace q136 := eq_true q136) | ((with_reducible refine gate_dst (N := 9) rfl ?_);refine box_event ?hg (N := 9) ?hd (cs := #[.int .i64 0,.bool false,.int .i64 0,.string (⟨#[]⟩ : ByteArray)]) (t := 50) ?hr ?_;(case hd => rfl);(case hg => rfl);(case hr => first | (go_simp;done) | (go_simp;rfl));intro gb137 hg w22 hbox hb;have n0_ := Aside0.mk (blk_below (g := gb135) (o := .cells #[.int .i64 ((rd_T50 l0 x13_1).f0),.bool ((rd_T50 l0 x13_1).f1),.int .i64 ((rd_T50 l0 x13_1).f2),.string ((rd_T50 l0 x13_1).f3)] 50 (0,0)) (by (with_reducible repeat (first | refine blk_drewN ?_ _ | refine blk_drew ?_ | refine blk_alloc ?_ _));refine blk_put (cs := #[.int .i64 ((rd_T50 l0 x13_1).f0),.bool ((rd_T50 l0 x13_1).f1),.int .i64 ((rd_T50 l0 x13_1).f2),.string (⟨#[]⟩ : ByteArray)]) ?_ 3 _ rfl;(with_reducible repeat (first | refine blk_drewN ?_ _ | refine blk_drew ?_ | refine blk_alloc ?_ _));refine blk_put (cs := #[.int .i64 ((rd_T50 l0 x13_1).f0),.bool ((rd_T50 l0 x13_1).f1),.int .i64 0,.string (⟨#[]⟩ : ByteArray)]) ?_ 2 _ rfl;(with_reducible repeat (first | refine blk_drewN ?_ _ | refine blk_drew ?_ | refine blk_alloc ?_ _));refine blk_put (cs := #[.int .i64 ((rd_T50 l0 x13_1).f0),.bool false,.int .i64 0,.string (⟨#[]⟩ : ByteArray)]) ?_ 1 _ rfl;(with_reducible repeat (first | refine blk_drewN ?_ _ | refine blk_drew ?_ | refine blk_alloc ?_ _));refine blk_put (cs := #[.int .i64 0,.bool false,.int .i64 0,.string (⟨#[]⟩ : ByteArray)]) ?_ 0 _ rfl;(with_reducible repeat (first | refine blk_drewN ?_ _ | refine blk_drew ?_ | refine blk_alloc ?_ _));exact BK135.out) hb);have n1_ := Aside0.mk (below_step (by repeat (first | (with_reducible first | exact HB.out | apply below_alloc | apply pw_below_drewN | apply below_drew1 | refine below_set ?_ GE135.out) | exact HB.out)) hb);have n2_ := Aside0.mk (hbox);have n3_ := Aside0.mk ((by rw [hg];exact (below_size (by repeat (first | (with_reducible first | exact HB.out | apply below_alloc | apply pw_below_drewN | apply below_drew1 | refine below_set ?_ GE135.out) | exact HB.out))) : w.heap.size ≤ gb137));have n4_ := Aside0.mk ((by rw [hg];exact (below_size (by repeat (first | (with_reducible first | exact HB.out | apply below_alloc | apply pw_below_drewN | apply below_drew1 | refine below_set ?_ GE135.out) | exact HB.out))) : w.heap.size ≤ gb137));have n5_ := Aside0.mk ((by rw [hg];exact Nat.ne_of_lt (blk_lt (g := gb135) (o := .cells #[.int .i64 ((rd_T50 l0 x13_1).f0),.bool ((rd_T50 l0 x13_1).f1),.int .i64 ((rd_T50 l0 x13_1).f2),.string ((rd_T50 l0 x13_1).f3)] 50 (0,0)) (by (with_reducible repeat (first | refine blk_drewN ?_ _ | refine blk_drew ?_ | refine blk_alloc ?_ _));refine blk_put (cs := #[.int .i64 ((rd_T50 l0 x13_1).f0),.bool ((rd_T50 l0 x13_1).f1),.int .i64 ((rd_T50 l0 x13_1).f2),.string (⟨#[]⟩ : ByteArray)]) ?_ 3 _ rfl;(with_reducible repeat (first | refine blk_drewN ?_ _ | refine blk_drew ?_ | refine blk_alloc ?_ _));refine blk_put (cs := #[.int .i64 ((rd_T50 l0 x13_1).f0),.bool ((rd_T50 l0 x13_1).f1),.int .i64 0,.string (⟨#[]⟩ : ByteArray)]) ?_ 2 _ rfl;(with_reducible repeat (first | refine blk_drewN ?_ _ | refine blk_drew ?_ | refine blk_alloc ?_ _));refine blk_put (cs := #[.int .i64 ((rd_T50 l0 x13_1).f0),.bool false,.int .i64 0,.string (⟨#[]⟩ : ByteArray)]) ?_ 1 _ rfl;(with_reducible repeat (first | refine blk_drewN ?_ _ | refine blk_drew ?_ | refine blk_alloc ?_ _));refine blk_put (cs := #[.int .i64 0,.bool false,.int .i64 0,.string (⟨#[]⟩ : ByteArray)]) ?_ 0 _ rfl;(with_reducible repeat (first | refine blk_drewN ?_ _ | refine blk_drew ?_ | refine blk_alloc ?_ _));exact BK135.out)) : gb135 ≠ gb137));have n6_ := Aside0.mk ((by rw [hg];exact Nat.ne_of_gt (blk_lt (g := gb135) (o := .cells #[.int .i64 ((rd_T50 l0 x13_1).f0),.bool ((rd_T50 l0 x13_1).f1),.int .i64 ((rd_T50 l0 x13_1).f2),.string ((rd_T50 l0 x13_1).f3)] 50 (0,0)) (by (with_reducible repeat (first | refine blk_drewN ?_ _ | refine blk_drew ?_ | refine blk_alloc ?_ _));refine blk_put (cs := #[.int .i64 ((rd_T50 l0 x13_1).f0),.bool ((rd_T50 l0 x13_1).f1),.int .i64 ((rd_T50 l0 x13_1).f2),.string (⟨#[]⟩ : ByteArray)]) ?_ 3 _ rfl;(with_reducible repeat (first | refine blk_drewN ?_ _ | refine blk_drew ?_ | refine blk_alloc ?_ _));refine blk_put (cs := #[.int .i64 ((rd_T50 l0 x13_1).f0),.bool ((rd_T50 l0 x13_1).f1),.int .i64 0,.string (⟨#[]⟩ : ByteArray)]) ?_ 2 _ rfl;(with_reducible repeat (first | refine blk_drewN ?_ _ | refine blk_drew ?_ | refine blk_alloc ?_ _));refine blk_put (cs := #[.int .i64 ((rd_T50 l0 x13_1).f0),.bool false,.int .i64 0,.string (⟨#[]⟩ : ByteArray)]) ?_ 1 _ rfl;(with_reducible repeat (first | refine blk_drewN ?_ _ | refine blk_drew ?_ | refine blk_alloc ?_ _));refine blk_put (cs := #[.int .i64 0,.bool false,.int .i64 0,.string (⟨#[]⟩ : ByteArray)]) ?_ 0 _ rfl;(with_reducible repeat (first | refine blk_drewN ?_ _ | refine blk_drew ?_ | refine blk_alloc ?_ _));exact BK135.out)) : gb137 ≠ gb135));clear BK135;clear HB;have BK135 := n0_;have HB := n1_;have BK137 := n2_;have GW137 := n3_;have GE137 := n4_;have NB135_137 := n5_;have NB137_135 := n6_;clear n0_ n1_ n2_ n3_ n4_ n5_ n6_;clear hb hbox hg;have hnb23 := NB137_135.out;have hnc23 := NB135_137.out;have hcz24_0 : w22.cell? ⟨gb137,0,none⟩ = some (.int .i64 0) := (blk_cell BK137.out 0).trans rfl;have hcz24_1 : w22.cell? ⟨gb137,1,none⟩ = some (.bool false) := (blk_cell BK137.out 1).trans rfl;have hcz24_2 : w22.cell? ⟨gb137,2,none⟩ = some (.int .i64 0) := (blk_cell BK137.out 2).trans rfl;have hcz24_3 : w22.cell? ⟨gb137,3,none⟩ = some (.string (⟨#[]⟩ : ByteArray)) := (blk_cell BK137.out 3).trans rfl;have hfz24_0 := blk_frozen BK137.out 0;have hfz24_1 := blk_frozen BK137.out 1;have hfz24_2 := blk_frozen BK137.out 2;have hfz24_3 := blk_frozen BK137.out 3;have hcz25_0 : w22.cell? ⟨gb135,0,none⟩ = some (.int .i64 ((rd_T50 l0 x13_1).f0)) := (blk_cell BK135.out 0).trans rfl;have hcz25_1 : w22.cell? ⟨gb135,1,none⟩ = some (.bool ((rd_T50 l0 x13_1).f1)) := (blk_cell BK135.out 1).trans rfl;have hcz25_2 : w22.cell? ⟨gb135,2,none⟩ = some (.int .i64 ((rd_T50 l0 x13_1).f2)) := (blk_cell BK135.out 2).trans rfl;have hcz25_3 : w22.cell? ⟨gb135,3,none⟩ = some (.string ((rd_T50 l0 x13_1).f3)) := (blk_cell BK135.out 3).trans rfl;have hfz25_0 := blk_frozen BK135.out 0;have hfz25_1 := blk_frozen BK135.out 1;have hfz25_2 := blk_frozen BK135.out 2;have hfz25_3 := blk_frozen BK135.out 3) | ((with_reducible refine gate_tmp (n := 26) rfl ?_);refine goesT_ (some 29) rfl rfl Try.func46 (by kernel_rfl) rfl #[.agg #[.int .i64 ((rd_T50 l0 x13_1).f0),.bool ((rd_T50 l0 x13_1).f1),.int .i64 ((rd_T50 l0 x13_1).f2),.string ((rd_T50 l0 x13_1).f3)],.agg #[.int .i64 ((rd_T50 l1 x13_1).f0),.bool ((rd_T50 l1 x13_1).f1),.int .i64 ((rd_T50 l1 x13_1).f2),.string ((rd_T50 l1 x13_1).f3)]] rfl rfl (by (try simp only [List.map_toArray,List.map_cons,List.map_nil]);first | done | rfl | (simp only [List.length_drop,List.length_take];rfl)) ?_;(with_reducible refine (value_Compare.calls ((rd_T50 l0 x13_1).f0) ((rd_T50 l0 x13_1).f1) ((rd_T50 l0 x13_1).f2) ((rd_T50 l0 x13_1).f3) ((rd_T50 l1 x13_1).f0) ((rd_T50 l1 x13_1).f1) ((rd_T50 l1 x13_1).f2) ((rd_T50 l1 x13_1).f3) t138 _ A11.out).mono ?_);rintro e w26 ⟨rfl,hb⟩;refine ⟨_,rfl,?_⟩;have n0_ := Aside0.mk (blk_below (g := gb135) (o := .cells #[.int .i64 ((rd_T50 l0 x13_1).f0),.bool ((rd_T50 l0 x13_1).f1),.int .i64 ((rd_T50 l0 x13_1).f2),.string ((rd_T50 l0 x13_1).f3)] 50 (0,0)) (by (with_reducible repeat (first | refine blk_drewN ?_ _ | refine blk_drew ?_ | refine blk_alloc ?_ _));refine blk_far ?_ NB135_137.out _;(with_reducible repeat (first | refine blk_drewN ?_ _ | refine blk_drew ?_ | refine blk_alloc ?_ _));refine blk_far ?_ NB135_137.out _;(with_reducible repeat (first | refine blk_drewN ?_ _ | refine blk_drew ?_ | refine blk_alloc ?_ _));refine blk_far ?_ NB135_137.out _;(with_reducible repeat (first | refine blk_drewN ?_ _ | refine blk_drew ?_ | refine blk_alloc ?_ _));refine blk_far ?_ NB135_137.out _;(with_reducible repeat (first | refine blk_drewN ?_ _ | refine blk_drew ?_ | refine blk_alloc ?_ _));exact BK135.out) hb);have n1_ := Aside0.mk (blk_below (g := gb137) (o := .cells #[.int .i64 ((rd_T50 l1 x13_1).f0),.bool ((rd_T50 l1 x13_1).f1),.int .i64 ((rd_T50 l1 x13_1).f2),.string ((rd_T50 l1 x13_1).f3)] 50 (0,0)) (by (with_reducible repeat (first | refine blk_drewN ?_ _ | refine blk_drew ?_ | refine blk_alloc ?_ _));refine blk_put (cs := #[.int .i64 ((rd_T50 l1 x13_1).f0),.bool ((rd_T50 l1 x13_1).f1),.int .i64 ((rd_T50 l1 x13_1).f2),.string (⟨#[]⟩ : ByteArray)]) ?_ 3 _ rfl;(with_reducible repeat (first | refine blk_drewN ?_ _ | refine blk_drew ?_ | refine blk_alloc ?_ _));refine blk_put (cs := #[.int .i64 ((rd_T50 l1 x13_1).f0),.bool ((rd_T50 l1 x13_1).f1),.int .i64 0,.string (⟨#[]⟩ : ByteArray)]) ?_ 2 _ rfl;(with_reducible repeat (first | refine blk_drewN ?_ _ | refine blk_drew ?_ | refine blk_alloc ?_ _));refine blk_put (cs := #[.int .i64 ((rd_T50 l1 x13_1).f0),.bool false,.int .i64 0,.string (⟨#[]⟩ : ByteArray)]) ?_ 1 _ rfl;(with_reducible repeat (first | refine blk_drewN ?_ _ | refine blk_drew ?_ | refine blk_alloc ?_ _));refine blk_put (cs := #[.int .i64 0,.bool false,.int .i64 0,.string (⟨#[]⟩ : ByteArray)]) ?_ 0 _ rfl;(with_reducible repeat (first | refine blk_drewN ?_ _ | refine blk_drew ?_ | refine blk_alloc ?_ _));exact BK137.out) hb);have n2_ := Aside0.mk (below_step (by repeat (first | (with_reducible first | exact HB.out | apply below_alloc | apply pw_below_drewN | apply below_drew1 | refine below_set ?_ GE135.out | refine below_set ?_ GE137.out) | exact HB.out)) hb);clear BK135;clear BK137;clear HB;have BK135 := n0_;have BK137 := n1_;have HB := n2_;clear n0_ n1_ n2_;(try clear hb);(try clear hb2);(try clear hk);(try clear hi)))
                  go_ret
                  exact ⟨by first | rfl | (simp [errW_none,errW_some] <;> rfl) | (simp [*,errW_none,errW_some] <;> rfl),by repeat (first | (with_reducible first | exact HB.out | apply below_alloc | apply pw_below_drewN | apply below_drew1 | refine below_set ?_ GE135.out | refine below_set ?_ GE137.out) | exact HB.out)⟩
              · rw [if_neg c10] at H
                exact absurd H (by simp)
          · rw [if_neg c6] at H
            exact absurd H (by simp)
        · rw [if_neg c5] at H
          exact absurd H (by simp)
      · rw [if_neg c4] at H
        have c4b0 : decide (x13_1 < (l0.length : Int)) = false := decide_eq_false c4
        clear c4
        by_cases c27 : (l0.length : Int) < (l1.length : Int)
        · rw [if_pos c27] at H
          have c27b0 : decide ((l0.length : Int) < (l1.length : Int)) = true := decide_eq_true c27
          have c27b1 : decide (l0.length < l1.length) = true := decide_eq_true (Int.ofNat_lt.mp c27)
          clear c27
          obtain rfl := Option.some.inj H
          go_wp2
          go_ret
          exact ⟨by first | rfl | (simp [errW_none,errW_some] <;> rfl) | (simp [*,errW_none,errW_some] <;> rfl),by repeat (first | (with_reducible first | exact HB.out | apply below_alloc | apply pw_below_drewN | apply below_drew1) | exact HB.out)⟩
        · rw [if_neg c27] at H
          have c27b0 : decide ((l0.length : Int) < (l1.length : Int)) = false := decide_eq_false c27
          have c27b1 : decide (l0.length < l1.length) = false := decide_eq_false (fun h => c27 (Int.ofNat_lt.mpr h))
          clear c27
          obtain rfl := Option.some.inj H
          go_wp2
          go_ret
          exact ⟨by first | rfl | (simp [errW_none,errW_some] <;> rfl) | (simp [*,errW_none,errW_some] <;> rfl),by repeat (first | (with_reducible first | exact HB.out | apply below_alloc | apply pw_below_drewN | apply below_drew1) | exact HB.out)⟩
end Go.Proofs.Ytfoaeigoajooeaa.Z
namespace Go.Proofs.Ytfoaeigoajooeaa.Z
open Go.RowKit Go.Proofs.YtfoaeigoajooeaaW.PrintWords Go.Proofs.YtfoaeigoajooeaaW.PrintLast Go.Proofs.YtfoaeigoajooeaaW.PrintMore
attribute [local go_sem] max2_int min2_int max_two min_two max_three min_three max_four min_four
set_option linter.unusedVariables false
set_option linter.unusedSimpArgs false
/-! ### row_Compare: function 13 -/
def row_Compare.f (k : Nat) (l0 : List (S50)) (l1 : List (S50)) : Option (Int) := (slices_CompareFunc.f k l0 l1 424246).bind fun t139 => (some t139)
theorem row_Compare.mono : ∀ a0 a1 k,LeO (row_Compare.f k a0 a1) (row_Compare.f (k + 1) a0 a1) := by
  intro a0 a1 k
  unfold row_Compare.f
  repeat' first
      | (with_reducible exact slices_CompareFunc.mono _ _ _ _)
      | (with_reducible exact LeO.refl _)
      | (with_reducible exact LeO.none _)
      | (with_reducible refine LeO.ite ?_ ?_)
      | (with_reducible refine LeO.bind ?_ (fun _ => ?_))
      | exact slices_CompareFunc.mono _ _ _ _
      | exact LeO.none _
      | refine LeO.ite ?_ ?_
      | refine LeO.bind ?_ (fun _ => ?_)
set_option maxHeartbeats 8000000 in
set_option maxRecDepth 100000 in
theorem row_Compare.calls (k : Nat) (A0 : Option Addr) (c0 : Nat) (l0 : List (S50)) (A1 : Option Addr) (c1 : Nat) (l1 : List (S50)) (r : Int) (w : World) (hr0 : Kd.C k50 w A0 l0.length l0) (hc0 : l0.length ≤ c0) (hr1 : Kd.C k50 w A1 l1.length l1) (hc1 : l1.length ≤ c1) (h : row_Compare.f k l0 l1 = some r) :
    Calls Try.prog 13 #[.slice A0 l0.length c0,.slice A1 l1.length c1] w fun e w' => e = .returned (.int .i64 r) ∧ Below w.heap.size w w' := by
  have HR0 := Aside0.mk hr0
  have HC0 := Aside0.mk hc0
  clear hr0 hc0
  have HR1 := Aside0.mk hr1
  have HC1 := Aside0.mk hc1
  clear hr1 hc1
  have HB := Aside0.mk (Below.refl w.heap.size w)
  have H : ((slices_CompareFunc.f k l0 l1 424246).bind fun t139 => (some t139)) = some r := h
  clear h
  replace H := Option.bind_eq_some_iff.mp H
  obtain ⟨t139,A30,H⟩ := H
  replace H : (some t139) = some r := H
  have A3 := Aside0.mk A30
  clear A30
  obtain rfl := Option.some.inj H
  go_enter Try.func13,Try.ntmps13
  go_wp2_with (first | ((with_reducible refine gate_callee (f := 45) rfl ?_);refine goesL_ (some 7) rfl rfl Try.func45 (by kernel_rfl) rfl #[.slice A0 l0.length c0,.slice A1 l1.length c1,.func (.func 46) #[] #[]] rfl (by (try simp only [List.map_toArray,List.map_cons,List.map_nil]);first | done | rfl | (simp only [List.length_drop,List.length_take];rfl)) ?_;(with_reducible refine (slices_CompareFunc.calls k _ _ l0 _ _ l1 424246 t139 _ ?side1 ?side2 ?side3 ?side4 A3.out).mono ?_);(case side1 => repeat (first | exact HR0.out | (with_reducible refine Kd.C_alloc ?_ _) | (with_reducible refine Kd.C_drewN ?_ _) | (with_reducible refine Kd.C_drew ?_)));(case side2 => exact HC0.out);(case side3 => repeat (first | exact HR1.out | (with_reducible refine Kd.C_alloc ?_ _) | (with_reducible refine Kd.C_drewN ?_ _) | (with_reducible refine Kd.C_drew ?_)));(case side4 => exact HC1.out);rintro e w4 ⟨rfl,hb⟩;refine ⟨_,rfl,?_⟩;have n0_ := Aside0.mk (below_step (by repeat (first | (with_reducible first | exact HB.out | apply below_alloc | apply pw_below_drewN | apply below_drew1) | exact HB.out)) hb);clear HB;have HB := n0_;clear n0_;(try clear hb);(try clear hb2);(try clear hk);(try clear hi)))
  go_ret
  exact ⟨by first | rfl | (simp [errW_none,errW_some] <;> rfl) | (simp [*,errW_none,errW_some] <;> rfl),by repeat (first | (with_reducible first | exact HB.out | apply below_alloc | apply pw_below_drewN | apply below_drew1) | exact HB.out)⟩
end Go.Proofs.Ytfoaeigoajooeaa.Z
/- Comparisons: what goes ahead of what,plain. -/
namespace Go.Proofs.Ytfoaeigoajooeaa.Cmp
structure CmpLaw {α : Type} (c : α → α → Int) : Prop where
  lo : ∀ a b,-1 ≤ c a b
  anti : ∀ a b,c b a = - c a b
  le : ∀ a b d,c a b ≤ 0 → c b d ≤ 0 → c a d ≤ 0
variable {α : Type} {c : α → α → Int}
theorem CmpLaw.hi (h : CmpLaw c) (a b : α) : c a b ≤ 1 := by have := h.lo b a;have := h.anti b a;omega
theorem CmpLaw.self (h : CmpLaw c) (a : α) : c a a = 0 := by have := h.anti a a;omega
theorem CmpLaw.lt_le (h : CmpLaw c) {a b d : α} (h1 : c a b < 0) (h2 : c b d ≤ 0) : c a d < 0 := by
  have h3 := h.le a b d (by omega) h2
  rcases Int.lt_or_eq_of_le h3 with h4 | h4
  · exact h4
  · have h5 := h.anti a d
    have h6 := h.le b d a h2 (by omega)
    have h7 := h.anti a b
    omega
theorem CmpLaw.le_lt (h : CmpLaw c) {a b d : α} (h1 : c a b ≤ 0) (h2 : c b d < 0) : c a d < 0 := by
  have h3 := h.le a b d h1 (by omega)
  rcases Int.lt_or_eq_of_le h3 with h4 | h4
  · exact h4
  · have h5 := h.anti a d
    have h6 := h.le d a b (by omega) h1
    have h7 := h.anti b d
    omega
theorem CmpLaw.eq_left (h : CmpLaw c) {a b : α} (d : α) (h1 : c a b = 0) : c a d = c b d := by
  have a1 := h.anti a b
  have lo1 := h.lo a d
  have hi1 := h.hi a d
  have lo2 := h.lo b d
  have hi2 := h.hi b d
  rcases Int.lt_trichotomy (c b d) 0 with h2 | h2 | h2
  · have := h.le_lt (a := a) (b := b) (d := d) (by omega) h2
    omega
  · have h3 := h.le a b d (by omega) (by omega)
    have h4 := h.le d b a (by have := h.anti b d;omega) (by omega)
    have := h.anti a d
    omega
  · have h3 : c d b < 0 := by have := h.anti b d;omega
    have := h.lt_le h3 (show c b a ≤ 0 by omega)
    have := h.anti a d
    omega
theorem CmpLaw.eq_right (h : CmpLaw c) (d : α) {a b : α} (h1 : c a b = 0) : c d a = c d b := by
  have h2 := h.eq_left d h1
  have h3 := h.anti a d
  have h4 := h.anti b d
  omega
theorem CmpLaw.eq_trans (h : CmpLaw c) {a b d : α} (h1 : c a b = 0) (h2 : c b d = 0) : c a d = 0 := by rw [h.eq_left d h1];exact h2
def cmpI (a b : Int) : Int := if a < b then -1 else if b < a then 1 else 0
theorem cmpI_law : CmpLaw cmpI := by
  refine ⟨fun a b => ?_,fun a b => ?_,fun a b d h1 h2 => ?_⟩ <;> unfold cmpI at * <;> repeat' split at * <;> omega
theorem cmpI_eq {a b : Int} : cmpI a b = 0 ↔ a = b := by unfold cmpI;repeat' split <;> omega
theorem CmpLaw.on {β : Type} (f : β → α) (h : CmpLaw c) : CmpLaw (fun x y => c (f x) (f y)) := ⟨fun _ _ => h.lo _ _,fun _ _ => h.anti _ _,fun _ _ _ => h.le _ _ _⟩
theorem cmpLaw_zero : CmpLaw (fun _ _ : α => (0 : Int)) := ⟨fun _ _ => by omega,fun _ _ => rfl,fun _ _ _ _ _ => by omega⟩
/-- First by one comparison,then by another one. -/
def andThenC (c d : α → α → Int) (a b : α) : Int := if c a b = 0 then d a b else c a b
theorem CmpLaw.andThen {d : α → α → Int} (hc : CmpLaw c) (hd : CmpLaw d) : CmpLaw (andThenC c d) := by
  refine ⟨fun a b => ?_,fun a b => ?_,fun a b e h1 h2 => ?_⟩
  · unfold andThenC;split
    · exact hd.lo a b
    · exact hc.lo a b
  · unfold andThenC
    have h1 := hc.anti a b
    have h2 := hd.anti a b
    by_cases h : c a b = 0
    · rw [if_pos h,if_pos (by omega)];exact h2
    · rw [if_neg h,if_neg (by omega)];exact h1
  · unfold andThenC at *
    by_cases ha : c a b = 0
    · rw [if_pos ha] at h1
      rw [hc.eq_left e ha]
      by_cases hb : c b e = 0
      · rw [if_pos hb] at h2 ⊢
        exact hd.le _ _ _ h1 h2
      · rw [if_neg hb] at h2 ⊢
        exact h2
    · rw [if_neg ha] at h1
      have h3 : c b e ≤ 0 := by
        by_cases hb : c b e = 0
        · omega
        · rw [if_neg hb] at h2;exact h2
      have h4 := hc.lt_le (show c a b < 0 by omega) h3
      rw [if_neg (by omega)]
      omega
/-- Lists,element by element. -/
def lexC (c : α → α → Int) : List α → List α → Int
  | [],[] => 0
  | [],_ :: _ => -1
  | _ :: _,[] => 1
  | a :: as_,b :: bs => if c a b = 0 then lexC c as_ bs else c a b
theorem lexC_law (h : CmpLaw c) : CmpLaw (lexC c) := by
  have lo : ∀ a b,-1 ≤ lexC c a b := by
    intro a
    induction a with
    | nil => intro b;cases b <;> simp [lexC]
    | cons x a ih =>
      intro b
      cases b with
      | nil => simp [lexC]
      | cons y b =>
        simp only [lexC]
        split
        · exact ih b
        · exact h.lo x y
  have anti : ∀ a b,lexC c b a = - lexC c a b := by
    intro a
    induction a with
    | nil => intro b;cases b <;> simp [lexC]
    | cons x a ih =>
      intro b
      cases b with
      | nil => simp [lexC]
      | cons y b =>
        simp only [lexC]
        have h1 := h.anti x y
        by_cases h0 : c x y = 0
        · rw [if_pos h0,if_pos (by omega)];exact ih b
        · rw [if_neg h0,if_neg (by omega)];exact h1
  refine ⟨lo,anti,?_⟩
  intro a
  induction a with
  | nil =>
    intro b d h1 h2
    cases d with
    | nil => simp [lexC]
    | cons => simp [lexC]
  | cons x a ih =>
    intro b d h1 h2
    cases b with
    | nil => simp [lexC] at h1
    | cons y b =>
      cases d with
      | nil => simp [lexC] at h2
      | cons z d =>
        simp only [lexC] at h1 h2 ⊢
        by_cases hxy : c x y = 0
        · rw [if_pos hxy] at h1
          rw [h.eq_left z hxy]
          by_cases hyz : c y z = 0
          · rw [if_pos hyz] at h2 ⊢
            exact ih b d h1 h2
          · rw [if_neg hyz] at h2 ⊢
            exact h2
        · rw [if_neg hxy] at h1
          have h3 : c y z ≤ 0 := by
            by_cases hyz : c y z = 0
            · omega
            · rw [if_neg hyz] at h2;exact h2
          have h4 := h.lt_le (show c x y < 0 by omega) h3
          rw [if_neg (by omega)]
          omega
theorem lexC_eq (hc : ∀ a b,c a b = 0 → a = b) : ∀ a b,lexC c a b = 0 → a = b := by
  intro a
  induction a with
  | nil => intro b h;cases b with | nil => rfl | cons => simp [lexC] at h
  | cons x a ih =>
    intro b h
    cases b with
    | nil => simp [lexC] at h
    | cons y b =>
      simp only [lexC] at h
      by_cases h0 : c x y = 0
      · rw [if_pos h0] at h
        rw [hc _ _ h0,ih _ h]
      · rw [if_neg h0] at h
        exact absurd h h0
/-- Bytes. -/
def cmpB (a b : List UInt8) : Int := lexC (fun x y : UInt8 => cmpI x.toNat y.toNat) a b
theorem cmpB_law : CmpLaw cmpB := lexC_law (cmpI_law.on fun x : UInt8 => (x.toNat : Int))
theorem cmpB_eq {a b : List UInt8} (h : cmpB a b = 0) : a = b := lexC_eq (fun x y hxy => by have := cmpI_eq.1 hxy;exact UInt8.toNat_inj.1 (by omega)) a b h
theorem compareBytes_eq (a b : List UInt8) : Lib.compareBytes a b = cmpB a b := by
  unfold cmpB
  induction a generalizing b with
  | nil => cases b <;> rfl
  | cons x a ih =>
    cases b with
    | nil => rfl
    | cons y b =>
      have e : lexC (fun x y : UInt8 => cmpI x.toNat y.toNat) (x :: a) (y :: b) = if cmpI x.toNat y.toNat = 0 then lexC (fun x y : UInt8 => cmpI x.toNat y.toNat) a b else cmpI x.toNat y.toNat := rfl
      rw [e,← ih b]
      simp only [Lib.compareBytes,UInt8.lt_iff_toNat_lt]
      by_cases h1 : x.toNat < y.toNat
      · have h3 : cmpI x.toNat y.toNat = -1 := by unfold cmpI;rw [if_pos (by omega)]
        rw [if_pos h1,h3,if_neg (by omega)]
      · by_cases h2 : y.toNat < x.toNat
        · have h3 : cmpI x.toNat y.toNat = 1 := by unfold cmpI;rw [if_neg (by omega),if_pos (by omega)]
          rw [if_neg h1,if_pos h2,h3,if_neg (by omega)]
        · have h3 : cmpI x.toNat y.toNat = 0 := by unfold cmpI;rw [if_neg (by omega),if_neg (by omega)]
          rw [if_neg h1,if_neg h2,h3,if_pos rfl]
end Go.Proofs.Ytfoaeigoajooeaa.Cmp
/- Values and rows in their order: what value.Compare and row.Compare answer. -/
namespace Go.Proofs.Ytfoaeigoajooeaa.Z
open Go.RowKit Go.Proofs.YtfoaeigoajooeaaW.PrintWords Go.Proofs.YtfoaeigoajooeaaW.PrintLast Go.Proofs.YtfoaeigoajooeaaW.PrintMore Go.Proofs.Ytfoaeigoajooeaa.Cmp
theorem wrap_id {x : Int} (h0 : -9223372036854775808 ≤ x) (h1 : x ≤ 9223372036854775807) : wrap64 x = x := by unfold wrap64;omega
theorem wrap_succ {n : Nat} {m : Nat} (h : n < m) (hm : m ≤ 9223372036854775807) : wrap64 ((n : Int) + 1) = ((n + 1 : Nat) : Int) := by rw [wrap_id (by omega) (by omega)];omega
def b2i (b : Bool) : Int := if b then 1 else 0
def kcmp (a b : S50) : Int := if a.f0 = 1 then cmpI (b2i a.f1) (b2i b.f1) else if a.f0 = 2 then cmpI a.f2 b.f2 else if a.f0 = 3 then cmpB a.f3.data.toList b.f3.data.toList else 0
def vcmp (a b : S50) : Int := if a.f0 = b.f0 then kcmp a b else cmpI a.f0 b.f0
theorem vcmp_law : CmpLaw vcmp := by
  have anti : ∀ a b,vcmp b a = - vcmp a b := by
    intro a b
    unfold vcmp
    by_cases h : a.f0 = b.f0
    · rw [if_pos h,if_pos h.symm]
      unfold kcmp
      rw [← h]
      by_cases h1 : a.f0 = 1
      · rw [if_pos h1,if_pos h1];exact cmpI_law.anti _ _
      · by_cases h2 : a.f0 = 2
        · rw [if_neg h1,if_neg h1,if_pos h2,if_pos h2];exact cmpI_law.anti _ _
        · by_cases h3 : a.f0 = 3
          · rw [if_neg h1,if_neg h1,if_neg h2,if_neg h2,if_pos h3,if_pos h3];exact cmpB_law.anti _ _
          · rw [if_neg h1,if_neg h1,if_neg h2,if_neg h2,if_neg h3,if_neg h3];rfl
    · rw [if_neg h,if_neg (fun e => h e.symm)];exact cmpI_law.anti _ _
  refine ⟨fun a b => ?_,anti,fun a b d h1 h2 => ?_⟩
  · unfold vcmp kcmp
    repeat' split
    all_goals first | exact cmpI_law.lo _ _ | exact cmpB_law.lo _ _ | omega
  · unfold vcmp at *
    by_cases hab : a.f0 = b.f0
    · rw [if_pos hab] at h1
      by_cases hbd : b.f0 = d.f0
      · rw [if_pos hbd] at h2
        rw [if_pos (hab.trans hbd)]
        unfold kcmp at *
        rw [← hab] at h2
        by_cases k1 : a.f0 = 1
        · rw [if_pos k1] at h1 h2 ⊢;exact cmpI_law.le _ _ _ h1 h2
        · by_cases k2 : a.f0 = 2
          · rw [if_neg k1,if_pos k2] at h1 h2 ⊢;exact cmpI_law.le _ _ _ h1 h2
          · by_cases k3 : a.f0 = 3
            · rw [if_neg k1,if_neg k2,if_pos k3] at h1 h2 ⊢;exact cmpB_law.le _ _ _ h1 h2
            · rw [if_neg k1,if_neg k2,if_neg k3];omega
      · rw [if_neg hbd] at h2
        rw [if_neg (fun e => hbd (hab.symm.trans e)),hab]
        exact h2
    · rw [if_neg hab] at h1
      by_cases hbd : b.f0 = d.f0
      · rw [if_neg (fun e => hab (e.trans hbd.symm)),← hbd]
        exact h1
      · rw [if_neg hbd] at h2
        have n1 : cmpI a.f0 b.f0 ≠ 0 := fun e => hab (cmpI_eq.1 e)
        have h3 := cmpI_law.lt_le (show cmpI a.f0 b.f0 < 0 by omega) h2
        rw [if_neg (fun e => by have := cmpI_eq.2 e;omega)]
        omega
def rcmp (a b : List S50) : Int := lexC vcmp a b
theorem rcmp_law : CmpLaw rcmp := lexC_law vcmp_law
theorem isNaN_f (x : Int) : cmp_isNaN_70.f x = some false := by unfold cmp_isNaN_70.f;simp
theorem isNaN_g (x : Int) : cmp_isNaN_71.f x = some false := by unfold cmp_isNaN_71.f;simp
theorem cmp_f (a b : Int) : cmp_Compare_63.f a b = some (cmpI a b) := by
  unfold cmp_Compare_63.f cmpI
  rw [isNaN_f,isNaN_f]
  simp only [Option.bind_some,Bool.false_eq_true,if_false,gt_iff_lt]
  repeat' split
  all_goals first | rfl | omega
theorem cmp_g (a b : Int) : cmp_Compare_65.f a b = some (cmpI a b) := by
  unfold cmp_Compare_65.f cmpI
  rw [isNaN_g,isNaN_g]
  simp only [Option.bind_some,Bool.false_eq_true,if_false,gt_iff_lt]
  repeat' split
  all_goals first | rfl | omega
theorem truth_f (b : Bool) : value_truth.f b = some (b2i b) := by cases b <;> rfl
theorem vcmp_f (a b : S50) : value_Compare.f a.f0 a.f1 a.f2 a.f3 b.f0 b.f1 b.f2 b.f3 = some (vcmp a b) := by
  unfold value_Compare.f vcmp kcmp
  rw [truth_f,truth_f,cmp_g]
  simp only [Option.bind_some,cmp_f,strings_Compare.f,compareBytes_eq]
  repeat' split
  all_goals rfl
theorem rd_nat (xs : List S50) (i : Nat) : rd_T50 xs (i : Int) = xs.getD i z50 := rfl
theorem rd_get {xs : List S50} {i : Nat} (h : i < xs.length) : rd_T50 xs (i : Int) = xs[i] := by rw [rd_nat];simp [List.getD,List.getElem?_eq_getElem h]
theorem drop_rd {xs : List S50} {i : Nat} (h : i < xs.length) : xs.drop i = rd_T50 xs (i : Int) :: xs.drop (i + 1) := by rw [rd_get h];exact List.drop_eq_getElem_cons h
theorem compareFunc_l0 (x0 x1 : List S50) (hl : x0.length ≤ 9223372036854775807) : ∀ d i k,x0.length - i = d → i ≤ x0.length → i ≤ x1.length → d < k → slices_CompareFunc.l0 k x0 x1 x0 (x0.length : Int) (i : Int) = some (rcmp (x0.drop i) (x1.drop i)) := by
  intro d
  induction d with
  | zero =>
    intro i k hd hi hi1 hk
    obtain ⟨k,rfl⟩ : ∃ m,k = m + 1 := ⟨k - 1,by omega⟩
    simp only [slices_CompareFunc.l0]
    rw [if_neg (by omega)]
    have e0 : x0.drop i = [] := List.drop_eq_nil_of_le (by omega)
    rw [e0]
    by_cases h : i < x1.length
    · rw [if_pos (by omega),drop_rd h];rfl
    · rw [if_neg (by omega),List.drop_eq_nil_of_le (by omega)];rfl
  | succ d ih =>
    intro i k hd hi hi1 hk
    obtain ⟨k,rfl⟩ : ∃ m,k = m + 1 := ⟨k - 1,by omega⟩
    have hlt : i < x0.length := by omega
    simp only [slices_CompareFunc.l0]
    rw [if_pos (by omega),if_pos (by omega),if_pos (by omega),drop_rd hlt]
    by_cases h : i < x1.length
    · rw [if_neg (by omega),if_pos (by omega),vcmp_f,Option.bind_some,drop_rd h]
      by_cases h0 : vcmp (rd_T50 x0 i) (rd_T50 x1 i) = 0
      · rw [if_pos h0,wrap_succ hlt hl,ih (i + 1) k (by omega) (by omega) (by omega) (by omega)]
        simp [rcmp,lexC,h0]
      · rw [if_neg h0]
        simp [rcmp,lexC,h0]
    · rw [if_pos (by omega),List.drop_eq_nil_of_le (show x1.length ≤ i by omega)]
      rfl
theorem rowCompare_f (a b : List S50) (ha : a.length ≤ 9223372036854775807) (k : Nat) (hk : a.length < k) : row_Compare.f k a b = some (rcmp a b) := by
  unfold row_Compare.f slices_CompareFunc.f
  have h := compareFunc_l0 a b ha a.length 0 k (by omega) (by omega) (by omega) hk
  rw [show ((0 : Nat) : Int) = 0 from rfl] at h
  rw [h]
  rfl
end Go.Proofs.Ytfoaeigoajooeaa.Z
/- The document's order of values and rows is the same;rows that are one,cell by cell. -/
namespace Go.Proofs.Ytfoaeigoajooeaa.Z
open Go.RowKit Go.Proofs.YtfoaeigoajooeaaW.PrintWords Go.Proofs.YtfoaeigoajooeaaW.PrintLast Go.Proofs.YtfoaeigoajooeaaW.PrintMore Go.Proofs.Ytfoaeigoajooeaa.Cmp
theorem bt_get {s : ByteArray} {i : Nat} (h : i < s.size) : bt s (i : Int) = ((s.data.toList[i]'(by simpa using h)).toNat : Int) := by
  rw [← bt_at s (i : Int) (by simpa using h)]
  rfl
theorem bytes_drop {s : ByteArray} {i : Nat} (h : i < s.size) : s.data.toList.drop i = s.data.toList[i]'(by simpa using h) :: s.data.toList.drop (i + 1) := List.drop_eq_getElem_cons (by simpa using h)
theorem text_l0 (a b : ByteArray) (ha : a.size ≤ 9223372036854775807) : ∀ d i k,a.size - i = d → i ≤ a.size → i ≤ b.size → 2 * d + 1 < k → verdererref01_Text.l0 k a b (i : Int) = some (cmpB (a.data.toList.drop i) (b.data.toList.drop i)) := by
  intro d
  induction d with
  | zero =>
    intro i k hd hi hib hk
    obtain ⟨k,rfl⟩ : ∃ m,k = m + 2 := ⟨k - 2,by omega⟩
    have e0 : a.data.toList.drop i = [] := List.drop_eq_nil_of_le (by simp;omega)
    simp only [verdererref01_Text.l0]
    rw [if_neg (by omega),e0]
    simp only [verdererref01_Text.j1,Bool.false_eq_true,if_false]
    by_cases h : i < b.size
    · rw [if_pos (by omega),bytes_drop h];rfl
    · rw [if_neg (by omega),if_neg (by omega),List.drop_eq_nil_of_le (by simp;omega)];rfl
  | succ d ih =>
    intro i k hd hi hib hk
    obtain ⟨k,rfl⟩ : ∃ m,k = m + 2 := ⟨k - 2,by omega⟩
    have hlt : i < a.size := by omega
    simp only [verdererref01_Text.l0]
    rw [if_pos (by omega)]
    simp only [verdererref01_Text.j1]
    by_cases h : i < b.size
    · rw [if_pos (decide_eq_true (by omega)),if_pos (by omega),if_pos (by omega),if_pos (by omega),bt_get hlt,bt_get h,bytes_drop hlt,bytes_drop h]
      generalize a.data.toList[i]'(by simpa using hlt) = x
      generalize b.data.toList[i]'(by simpa using h) = y
      have e : cmpB (x :: a.data.toList.drop (i + 1)) (y :: b.data.toList.drop (i + 1)) = if cmpI x.toNat y.toNat = 0 then cmpB (a.data.toList.drop (i + 1)) (b.data.toList.drop (i + 1)) else cmpI x.toNat y.toNat := rfl
      rw [e,wrap_succ hlt ha,ih (i + 1) k (by omega) (by omega) (by omega) (by omega)]
      unfold cmpI
      by_cases h1 : (x.toNat : Int) < y.toNat
      · rw [if_pos h1,if_pos h1,if_neg (by omega)]
      · by_cases h2 : (y.toNat : Int) < x.toNat
        · rw [if_neg h1,if_neg h1,if_pos h2,if_pos h2,if_neg (by omega)]
        · rw [if_neg h1,if_neg h1,if_neg h2,if_neg h2,if_pos rfl]
    · rw [if_neg (by simp;omega),if_neg (by omega),if_pos (by omega),bytes_drop hlt,List.drop_eq_nil_of_le (show b.data.toList.length ≤ i by simp;omega)]
      rfl
theorem text_f (a b : ByteArray) (ha : a.size ≤ 9223372036854775807) (k : Nat) (hk : 2 * a.size + 1 < k) : verdererref01_Text.f k a b = some (cmpB a.data.toList b.data.toList) := by
  have h := text_l0 a b ha a.size 0 k (by omega) (by omega) (by omega) hk
  rw [show ((0 : Nat) : Int) = 0 from rfl] at h
  exact h
theorem vcmp_ref (a b : S50) (ha : a.f3.size ≤ 9223372036854775807) (k : Nat) (hk : 2 * a.f3.size + 1 < k) : verdererref01_Compare.f k a.f0 a.f1 a.f2 a.f3 b.f0 b.f1 b.f2 b.f3 = some (vcmp a b) := by
  unfold verdererref01_Compare.f vcmp
  rw [text_f _ _ ha k hk]
  simp only [Option.bind_some]
  by_cases h1 : a.f0 < b.f0
  · rw [if_pos h1,if_neg (by omega)]
    unfold cmpI
    rw [if_pos h1]
  · by_cases h2 : a.f0 > b.f0
    · rw [if_neg h1,if_pos h2,if_neg (by omega)]
      unfold cmpI
      rw [if_neg h1,if_pos h2]
    · have e : (if a.f0 = b.f0 then kcmp a b else cmpI a.f0 b.f0) = kcmp a b := if_pos (by omega)
      rw [if_neg h1,if_neg h2,e]
      unfold kcmp
      by_cases k1 : a.f0 = 1
      · rw [if_pos k1,if_pos k1]
        cases a.f1 <;> cases b.f1 <;> rfl
      · by_cases k2 : a.f0 = 2
        · rw [if_neg k1,if_pos k2,if_neg k1,if_pos k2]
          unfold cmpI
          repeat' split
          all_goals first | rfl | omega
        · by_cases k3 : a.f0 = 3
          · rw [if_neg k1,if_neg k2,if_pos k3,if_neg k1,if_neg k2,if_pos k3]
          · rw [if_neg k1,if_neg k2,if_neg k3,if_neg k1,if_neg k2,if_neg k3]
theorem refCompare_l0 (x0 x1 : List S50) (hl : x0.length ≤ 9223372036854775807) (M : Nat) (hM : ∀ x ∈ x0,x.f3.size ≤ M) (hM2 : M ≤ 9223372036854775807) : ∀ d i k,x0.length - i = d → i ≤ x0.length → i ≤ x1.length → 2 * d + 2 * M + 3 < k → verdererref02_Compare.l0 k x0 x1 (i : Int) = some (rcmp (x0.drop i) (x1.drop i)) := by
  intro d
  induction d with
  | zero =>
    intro i k hd hi hib hk
    obtain ⟨k,rfl⟩ : ∃ m,k = m + 2 := ⟨k - 2,by omega⟩
    simp only [verdererref02_Compare.l0]
    rw [if_neg (by omega),List.drop_eq_nil_of_le (show x0.length ≤ i by omega)]
    simp only [verdererref02_Compare.j1,Bool.false_eq_true,if_false]
    by_cases h : i < x1.length
    · rw [if_pos (by omega),drop_rd h];rfl
    · rw [if_neg (by omega),if_neg (by omega),List.drop_eq_nil_of_le (by omega)];rfl
  | succ d ih =>
    intro i k hd hi hib hk
    obtain ⟨k,rfl⟩ : ∃ m,k = m + 2 := ⟨k - 2,by omega⟩
    have hlt : i < x0.length := by omega
    simp only [verdererref02_Compare.l0]
    rw [if_pos (by omega)]
    simp only [verdererref02_Compare.j1]
    have hx : (rd_T50 x0 (i : Int)).f3.size ≤ M := by rw [rd_get hlt];exact hM _ (List.getElem_mem hlt)
    by_cases h : i < x1.length
    · rw [if_pos (decide_eq_true (by omega)),if_pos (by omega),if_pos (by omega),if_pos (by omega),vcmp_ref _ _ (by omega) k (by omega),Option.bind_some,drop_rd hlt,drop_rd h]
      by_cases h0 : vcmp (rd_T50 x0 i) (rd_T50 x1 i) = 0
      · rw [if_pos h0,wrap_succ hlt hl,ih (i + 1) k (by omega) (by omega) (by omega) (by omega)]
        simp [rcmp,lexC,h0]
      · rw [if_neg h0]
        simp [rcmp,lexC,h0]
    · rw [if_neg (by simp;omega),if_neg (by omega),if_pos (by omega),drop_rd hlt,List.drop_eq_nil_of_le (show x1.length ≤ i by omega)]
      rfl
theorem refCompare_f (a b : List S50) (ha : a.length ≤ 9223372036854775807) (M : Nat) (hM : ∀ x ∈ a,x.f3.size ≤ M) (hM2 : M ≤ 9223372036854775807) (k : Nat) (hk : 2 * a.length + 2 * M + 3 < k) : verdererref02_Compare.f k a b = some (rcmp a b) := by
  have h := refCompare_l0 a b ha M hM hM2 a.length 0 k (by omega) (by omega) (by omega) hk
  rw [show ((0 : Nat) : Int) = 0 from rfl] at h
  exact h
/-- A bound of all texts of some values. -/
theorem texts_bound (l : List S50) (h : ∀ x ∈ l,x.f3.size ≤ 9223372036854775807) : ∃ M,(∀ x ∈ l,x.f3.size ≤ M) ∧ M ≤ 9223372036854775807 := ⟨9223372036854775807,h,Nat.le_refl _⟩
theorem equal_l0 (x : List S50) (hl : x.length ≤ 9223372036854775807) : ∀ d i k,x.length - i = d → i ≤ x.length → d < k → verdererref02_Equal.l0 k x x (i : Int) = some true := by
  intro d
  induction d with
  | zero =>
    intro i k hd hi hk
    obtain ⟨k,rfl⟩ : ∃ m,k = m + 1 := ⟨k - 1,by omega⟩
    simp only [verdererref02_Equal.l0]
    rw [if_neg (by omega)]
  | succ d ih =>
    intro i k hd hi hk
    obtain ⟨k,rfl⟩ : ∃ m,k = m + 1 := ⟨k - 1,by omega⟩
    simp only [verdererref02_Equal.l0]
    rw [if_pos (by omega),if_pos (by omega),if_pos (by omega),if_neg (by simp),wrap_succ (show i < x.length by omega) hl,ih (i + 1) k (by omega) (by omega) (by omega)]
theorem equal_self (x : List S50) (hl : x.length ≤ 9223372036854775807) (k : Nat) (hk : x.length < k) : verdererref02_Equal.f k x x = some true := by
  unfold verdererref02_Equal.f
  rw [if_pos rfl]
  have h := equal_l0 x hl x.length 0 k (by omega) (by omega) hk
  rw [show ((0 : Nat) : Int) = 0 from rfl] at h
  exact h
end Go.Proofs.Ytfoaeigoajooeaa.Z
/- Cells of rows,copies,and whether rows can be. -/
namespace Go.Proofs.Ytfoaeigoajooeaa.Z
open Go.RowKit Go.Proofs.YtfoaeigoajooeaaW.PrintWords Go.Proofs.YtfoaeigoajooeaaW.PrintLast Go.Proofs.YtfoaeigoajooeaaW.PrintMore Go.Proofs.Ytfoaeigoajooeaa.Cmp
theorem of_f (x : List S50) (hx : x.length < 3518437208883) : row_Of.f x = some x := by
  unfold row_Of.f slices_Clone.f
  simp only [Option.bind_some,List.length_nil,Nat.zero_add,List.nil_append]
  rw [if_pos hx]
  rfl
/-- Can a value be? -/
def vright (a : S50) : Bool := if a.f0 = 0 then !a.f1 && (a.f2 == 0 && a.f3.toList == ([] : List UInt8)) else if a.f0 = 1 then (a.f2 == 0 && a.f3.toList == ([] : List UInt8)) else if a.f0 = 2 then (!a.f1 && a.f3.toList == ([] : List UInt8)) else if a.f0 = 3 then (!a.f1 && (a.f2 == 0 && decide (a.f3.size ≤ 60))) else false
theorem vright_f (a : S50) : value_Right.f a.f0 a.f1 a.f2 a.f3 = some (vright a) := by
  unfold value_Right.f vright
  simp only [value_Null.f,value_Bool.f,value_Int.f,value_Text.f,Option.bind_some]
  by_cases k0 : a.f0 = 0
  · rw [if_pos k0,if_pos k0,k0];cases a.f1 <;> simp
  · by_cases k1 : a.f0 = 1
    · rw [if_neg k0,if_neg k0,if_pos k1,if_pos k1,k1];cases a.f1 <;> simp
    · by_cases k2 : a.f0 = 2
      · rw [if_neg k0,if_neg k0,if_neg k1,if_neg k1,if_pos k2,if_pos k2,k2];cases a.f1 <;> simp
      · by_cases k3 : a.f0 = 3
        · rw [if_neg k0,if_neg k0,if_neg k1,if_neg k1,if_neg k2,if_neg k2,if_pos k3,if_pos k3,k3]
          cases a.f1 <;> simp
          · by_cases h : a.f2 = 0
            · rw [if_pos h]
              simp [h]
              omega
            · rw [if_neg h]
              simp [h]
        · rw [if_neg k0,if_neg k0,if_neg k1,if_neg k1,if_neg k2,if_neg k2,if_neg k3,if_neg k3]
theorem vright_ref (a : S50) : verdererref01_Right.f a.f0 a.f1 a.f2 a.f3 = some (vright a) := by
  have he : a.f3.toList = [] → a.f3.size = 0 := fun h => by have := data_length a.f3;rw [show a.f3.data.toList = a.f3.toList from by rw [ByteArray.toList_eq]] at this;rw [← this,h];rfl
  unfold verdererref01_Right.f vright
  by_cases kl : a.f0 < 0
  · rw [if_pos kl,if_neg (by omega),if_neg (by omega),if_neg (by omega),if_neg (by omega)]
  · by_cases kg : a.f0 > 3
    · rw [if_neg kl,if_pos kg,if_neg (by omega),if_neg (by omega),if_neg (by omega),if_neg (by omega)]
    · rw [if_neg kl,if_neg kg]
      by_cases ht : a.f3.toList = []
      · have hs := he ht
        by_cases k1 : a.f0 = 1
        · rw [if_pos k1,if_neg (show ¬ a.f0 = 2 by omega),if_neg (show ¬ a.f0 = 3 by omega),if_neg (show ¬ a.f0 = 0 by omega),if_pos k1]
          by_cases h2 : a.f2 = 0 <;> simp [h2,ht,hs]
        · by_cases k2 : a.f0 = 2
          · rw [if_neg k1,if_pos k2,if_neg (show ¬ a.f0 = 3 by omega),if_neg (show ¬ a.f0 = 0 by omega),if_neg k1,if_pos k2]
            cases a.f1 <;> simp [ht,hs]
          · rw [if_neg k1,if_neg k2]
            by_cases k3 : a.f0 = 3
            · rw [if_neg (show ¬ a.f0 = 0 by omega),if_neg k1,if_neg k2,if_pos k3,if_pos k3]
              cases a.f1 <;> by_cases h2 : a.f2 = 0 <;> simp [h2,hs]
            · rw [if_pos (show a.f0 = 0 by omega),if_neg k3]
              cases a.f1 <;> by_cases h2 : a.f2 = 0 <;> simp [h2,ht,hs]
      · by_cases k1 : a.f0 = 1
        · rw [if_pos k1,if_neg (show ¬ a.f0 = 2 by omega),if_neg (show ¬ a.f0 = 3 by omega),if_neg (show ¬ a.f0 = 0 by omega),if_pos k1]
          by_cases h2 : a.f2 = 0 <;> simp [h2,ht]
        · by_cases k2 : a.f0 = 2
          · rw [if_neg k1,if_pos k2,if_neg (show ¬ a.f0 = 3 by omega),if_neg (show ¬ a.f0 = 0 by omega),if_neg k1,if_pos k2]
            cases a.f1 <;> simp [ht]
          · rw [if_neg k1,if_neg k2]
            by_cases k3 : a.f0 = 3
            · rw [if_neg (show ¬ a.f0 = 0 by omega),if_neg k1,if_neg k2,if_pos k3,if_pos k3]
              cases a.f1 <;> by_cases h2 : a.f2 = 0 <;> simp [h2]
              omega
            · rw [if_pos (show a.f0 = 0 by omega),if_neg k3]
              cases a.f1 <;> by_cases h2 : a.f2 = 0 <;> simp [h2,ht]
theorem right1_f (a : S50) : row_Right_1.f a.f0 a.f1 a.f2 a.f3 = some (!vright a) := by
  unfold row_Right_1.f
  rw [vright_f]
  rfl
def rright (r : List S50) : Bool := decide (r.length ≤ 40) && r.all vright
theorem indexFunc_l0 (x : List S50) (hl : x.length ≤ 9223372036854775807) : ∀ d i k,x.length - i = d → i ≤ x.length → d < k → ∃ r,slices_IndexFunc.l0 k x (x.length : Int) (i : Int) = some r ∧ decide (r ≥ 0) = !((x.drop i).all vright) := by
  intro d
  induction d with
  | zero =>
    intro i k hd hi hk
    obtain ⟨k,rfl⟩ : ∃ m,k = m + 1 := ⟨k - 1,by omega⟩
    refine ⟨-1,?_,?_⟩
    · simp only [slices_IndexFunc.l0]
      rw [if_neg (by omega)]
    · rw [List.drop_eq_nil_of_le (by omega)];rfl
  | succ d ih =>
    intro i k hd hi hk
    obtain ⟨k,rfl⟩ : ∃ m,k = m + 1 := ⟨k - 1,by omega⟩
    have hlt : i < x.length := by omega
    simp only [slices_IndexFunc.l0]
    rw [if_pos (by omega),if_pos (by omega),if_pos (by omega),right1_f,Option.bind_some,drop_rd hlt,List.all_cons]
    cases hv : vright (rd_T50 x i) with
    | false =>
      refine ⟨(i : Int),?_,?_⟩
      · rfl
      · simp
    | true =>
      simp only [Bool.not_true,Bool.false_eq_true,if_false,Bool.true_and]
      rw [wrap_succ hlt hl]
      exact ih (i + 1) k (by omega) (by omega) (by omega)
theorem rright_f (r : List S50) (k : Nat) (hk : 40 < k) : row_Right.f k r = some (rright r) := by
  unfold row_Right.f rright slices_ContainsFunc.f slices_IndexFunc.f
  by_cases h : r.length ≤ 40
  · obtain ⟨q,h1,h2⟩ := indexFunc_l0 r (by omega) r.length 0 k (by omega) (by omega) (by omega)
    rw [show ((0 : Nat) : Int) = 0 from rfl] at h1
    rw [if_pos (by omega),h1]
    simp only [Option.bind_some,h2]
    simp [h]
  · rw [if_neg (by omega)]
    simp [h]
theorem refRight_l0 (x : List S50) (hl : x.length ≤ 9223372036854775807) : ∀ d i k,x.length - i = d → i ≤ x.length → d < k → verdererref02_Right.l0 k x (i : Int) = some ((x.drop i).all vright) := by
  intro d
  induction d with
  | zero =>
    intro i k hd hi hk
    obtain ⟨k,rfl⟩ : ∃ m,k = m + 1 := ⟨k - 1,by omega⟩
    simp only [verdererref02_Right.l0]
    rw [if_neg (by omega),List.drop_eq_nil_of_le (by omega)]
    rfl
  | succ d ih =>
    intro i k hd hi hk
    obtain ⟨k,rfl⟩ : ∃ m,k = m + 1 := ⟨k - 1,by omega⟩
    have hlt : i < x.length := by omega
    simp only [verdererref02_Right.l0]
    rw [if_pos (by omega),if_pos (by omega),vright_ref,Option.bind_some,drop_rd hlt,List.all_cons]
    cases vright (rd_T50 x i) with
    | false => rfl
    | true =>
      simp only [if_true,Bool.true_and]
      rw [wrap_succ hlt hl]
      exact ih (i + 1) k (by omega) (by omega) (by omega)
theorem rright_ref (r : List S50) (k : Nat) (hk : 40 < k) : verdererref02_Right.f k r = some (rright r) := by
  unfold verdererref02_Right.f rright
  by_cases h : r.length ≤ 40
  · have h1 := refRight_l0 r (by omega) r.length 0 k (by omega) (by omega) (by omega)
    rw [show ((0 : Nat) : Int) = 0 from rfl] at h1
    rw [if_neg (by omega),h1]
    simp [h]
  · rw [if_pos (by omega)]
    simp [h]
end Go.Proofs.Ytfoaeigoajooeaa.Z
/- Values and rows as bytes: what pack.Row and the document's own Row answer. -/
namespace Go.Proofs.Ytfoaeigoajooeaa.Z
open Go.RowKit Go.Proofs.YtfoaeigoajooeaaW.PrintWords Go.Proofs.YtfoaeigoajooeaaW.PrintLast Go.Proofs.YtfoaeigoajooeaaW.PrintMore Go.Proofs.Ytfoaeigoajooeaa.Cmp
theorem xor_top_lo {m : Nat} (h : m < 9223372036854775808) : m ^^^ 9223372036854775808 = m + 9223372036854775808 := by
  have e : 9223372036854775808 + m = 9223372036854775808 ||| m := Nat.two_pow_add_eq_or_of_lt (i := 63) (b := m) (by omega) 1
  rw [Nat.add_comm,e]
  apply Nat.eq_of_testBit_eq
  intro i
  rw [Nat.testBit_xor,Nat.testBit_or,show (9223372036854775808 : Nat) = 2 ^ 63 from rfl,Nat.testBit_two_pow]
  by_cases hi : 63 = i
  · subst hi
    simp [Nat.testBit_lt_two_pow (show m < 2 ^ 63 by omega)]
  · simp [hi]
theorem xor_top {n : Nat} (h : n < 18446744073709551616) : n ^^^ 9223372036854775808 = (n + 9223372036854775808) % 18446744073709551616 := by
  rcases Nat.lt_or_ge n 9223372036854775808 with h1 | h1
  · rw [xor_top_lo h1];omega
  · obtain ⟨m,rfl⟩ : ∃ m,n = m + 9223372036854775808 := ⟨n - 9223372036854775808,by omega⟩
    rw [← xor_top_lo (show m < 9223372036854775808 by omega),Nat.xor_assoc,Nat.xor_self,Nat.xor_zero,xor_top_lo (show m < 9223372036854775808 by omega)]
    omega
/-- A number of 64 bits behind the turning of its first bit. -/
def turn (x : Int) : Int := (x + 9223372036854775808) % 18446744073709551616
theorem turn_xor (x : Int) : Go.bits .xor .u64 (IntKind.u64.wrap x) 9223372036854775808 = turn x := by
  rw [Go.IntKind.wrap_u64]
  obtain ⟨n,hn⟩ : ∃ n : Nat,x % 18446744073709551616 = n := ⟨(x % 18446744073709551616).toNat,by omega⟩
  have hlt : n < 18446744073709551616 := by omega
  rw [hn,show (9223372036854775808 : Int) = ((9223372036854775808 : Nat) : Int) from rfl,Go.bits_xor_u64_nat n _ hlt (by decide),xor_top hlt]
  unfold turn
  omega
theorem turn_wrap (x : Int) : IntKind.u64.wrap (IntKind.u64.wrap x + 9223372036854775808) = turn x := by
  rw [Go.IntKind.wrap_u64,Go.IntKind.wrap_u64]
  unfold turn
  omega
theorem shr_at (X : Int) (i : Nat) (h : i ≤ 64) : shr .u64 X (i : Int) = X / 2 ^ i := by
  unfold shr
  rw [show ((i : Int)).toNat = i from rfl,show IntKind.u64.bits = 64 from rfl,Nat.min_eq_left h]
/-- A number's eight bytes. -/
def eight (X : Int) : List Int := [X / 72057594037927936 % 256,X / 281474976710656 % 256,X / 1099511627776 % 256,X / 4294967296 % 256,X / 16777216 % 256,X / 65536 % 256,X / 256 % 256,X % 256]
theorem eight_shr (X : Int) : [shr .u64 X 56 % 256,shr .u64 X 48 % 256,shr .u64 X 40 % 256,shr .u64 X 32 % 256,shr .u64 X 24 % 256,shr .u64 X 16 % 256,shr .u64 X 8 % 256,shr .u64 X 0 % 256] = eight X := by
  have h := fun i h => shr_at X i h
  rw [show (56 : Int) = ((56 : Nat) : Int) from rfl,show (48 : Int) = ((48 : Nat) : Int) from rfl,show (40 : Int) = ((40 : Nat) : Int) from rfl,show (32 : Int) = ((32 : Nat) : Int) from rfl,show (24 : Int) = ((24 : Nat) : Int) from rfl,show (16 : Int) = ((16 : Nat) : Int) from rfl,show (8 : Int) = ((8 : Nat) : Int) from rfl,show (0 : Int) = ((0 : Nat) : Int) from rfl,
    h 56 (by omega),h 48 (by omega),h 40 (by omega),h 32 (by omega),h 24 (by omega),h 16 (by omega),h 8 (by omega),h 0 (by omega)]
  simp [eight]
theorem num_l0 (k : Nat) (a : Int) (b : Bool) (c : Int) (d : ByteArray) : pack_Value.l0 (k + 9) [3] 7 a b c d = some (3 :: eight (turn c)) := by
  have e (n : Nat) (i j : Int) (acc : List Int) (h0 : 0 ≤ i) (h1 : wrap64 (8 * i) = j) (h2 : 0 ≤ j) (hl : acc.length ≤ 20) (h3 : wrap64 (i - 1) = i - 1) : pack_Value.l0 (n + 1) acc i a b c d = pack_Value.l0 n (acc ++ [shr .u64 (turn c) j % 256]) (i - 1) a b c d := by
    simp only [pack_Value.l0]
    rw [if_pos (by omega),h1,if_pos h2,if_pos (by omega),turn_xor,h3]
  rw [e (k + 8) 7 56 _ (by decide +kernel) (by decide +kernel) (by decide +kernel) (by simp) (by decide +kernel),show (7 : Int) - 1 = 6 from rfl,
    e (k + 7) 6 48 _ (by decide +kernel) (by decide +kernel) (by decide +kernel) (by simp) (by decide +kernel),show (6 : Int) - 1 = 5 from rfl,
    e (k + 6) 5 40 _ (by decide +kernel) (by decide +kernel) (by decide +kernel) (by simp) (by decide +kernel),show (5 : Int) - 1 = 4 from rfl,
    e (k + 5) 4 32 _ (by decide +kernel) (by decide +kernel) (by decide +kernel) (by simp) (by decide +kernel),show (4 : Int) - 1 = 3 from rfl,
    e (k + 4) 3 24 _ (by decide +kernel) (by decide +kernel) (by decide +kernel) (by simp) (by decide +kernel),show (3 : Int) - 1 = 2 from rfl,
    e (k + 3) 2 16 _ (by decide +kernel) (by decide +kernel) (by decide +kernel) (by simp) (by decide +kernel),show (2 : Int) - 1 = 1 from rfl,
    e (k + 2) 1 8 _ (by decide +kernel) (by decide +kernel) (by decide +kernel) (by simp) (by decide +kernel),show (1 : Int) - 1 = 0 from rfl,
    e (k + 1) 0 0 _ (by decide +kernel) (by decide +kernel) (by decide +kernel) (by simp) (by decide +kernel),show (0 : Int) - 1 = -1 from rfl]
  simp only [pack_Value.l0]
  rw [if_neg (by decide),← eight_shr]
  rfl
theorem numR_l0 (k : Nat) (X : Int) : verdererref04_Value.l0 (k + 9) X [3] 7 = some (3 :: eight X) := by
  have e (n : Nat) (i j : Int) (acc : List Int) (h0 : 0 ≤ i) (h1 : IntKind.u64.wrap (wrap64 (8 * i)) = j) (h2 : 0 ≤ j) (hl : acc.length ≤ 20) (h3 : wrap64 (i - 1) = i - 1) : verdererref04_Value.l0 (n + 1) X acc i = verdererref04_Value.l0 n X (acc ++ [shr .u64 X j % 256]) (i - 1) := by
    simp only [verdererref04_Value.l0]
    rw [if_pos (by omega),h1,if_pos h2,if_pos (by omega),h3]
  rw [e (k + 8) 7 56 _ (by decide +kernel) (by decide +kernel) (by decide +kernel) (by simp) (by decide +kernel),show (7 : Int) - 1 = 6 from rfl,
    e (k + 7) 6 48 _ (by decide +kernel) (by decide +kernel) (by decide +kernel) (by simp) (by decide +kernel),show (6 : Int) - 1 = 5 from rfl,
    e (k + 6) 5 40 _ (by decide +kernel) (by decide +kernel) (by decide +kernel) (by simp) (by decide +kernel),show (5 : Int) - 1 = 4 from rfl,
    e (k + 5) 4 32 _ (by decide +kernel) (by decide +kernel) (by decide +kernel) (by simp) (by decide +kernel),show (4 : Int) - 1 = 3 from rfl,
    e (k + 4) 3 24 _ (by decide +kernel) (by decide +kernel) (by decide +kernel) (by simp) (by decide +kernel),show (3 : Int) - 1 = 2 from rfl,
    e (k + 3) 2 16 _ (by decide +kernel) (by decide +kernel) (by decide +kernel) (by simp) (by decide +kernel),show (2 : Int) - 1 = 1 from rfl,
    e (k + 2) 1 8 _ (by decide +kernel) (by decide +kernel) (by decide +kernel) (by simp) (by decide +kernel),show (1 : Int) - 1 = 0 from rfl,
    e (k + 1) 0 0 _ (by decide +kernel) (by decide +kernel) (by decide +kernel) (by simp) (by decide +kernel),show (0 : Int) - 1 = -1 from rfl]
  simp only [verdererref04_Value.l0]
  rw [if_neg (by decide),← eight_shr]
  rfl
/-- A text's bytes,each 0 with 255 behind it. -/
def esc : List UInt8 → List Int
  | [] => []
  | b :: bs => (if b.toNat = 0 then [0,255] else [(b.toNat : Int)]) ++ esc bs
theorem esc_len : ∀ l : List UInt8,(esc l).length ≤ 2 * l.length := by
  intro l
  induction l with
  | nil => simp [esc]
  | cons b bs ih =>
    simp only [esc,List.length_append,List.length_cons]
    split <;> simp <;> omega
theorem txt_l1 (s : ByteArray) (hs : s.size ≤ 1000) (a : Int) (b : Bool) (c : Int) : ∀ d i k (acc : List Int),s.size - i = d → i ≤ s.size → acc.length ≤ 2 * i + 1 → d < k → pack_Value.l1 k acc (s.size : Int) (i : Int) a b c s = some (acc ++ (esc (s.data.toList.drop i) ++ [0,1])) := by
  intro d
  induction d with
  | zero =>
    intro i k acc hd hi ha hk
    obtain ⟨k,rfl⟩ : ∃ m,k = m + 1 := ⟨k - 1,by omega⟩
    simp only [pack_Value.l1]
    rw [if_neg (by omega),List.drop_eq_nil_of_le (by simp;omega)]
    simp only [Option.bind_some,esc,List.nil_append]
    rw [if_pos (by simp;omega)]
  | succ d ih =>
    intro i k acc hd hi ha hk
    obtain ⟨k,rfl⟩ : ∃ m,k = m + 1 := ⟨k - 1,by omega⟩
    have hlt : i < s.size := by omega
    simp only [pack_Value.l1]
    rw [if_pos (by omega),if_pos (by omega),if_pos (by omega),if_pos (by omega),Option.bind_some,bt_get hlt,bytes_drop hlt,wrap_succ hlt (by omega)]
    simp only [esc]
    by_cases h0 : (s.data.toList[i]'(by simpa using hlt)).toNat = 0
    · rw [if_pos (by omega),if_pos (by simp;omega),if_pos h0,ih (i + 1) k _ (by omega) (by omega) (by simp;omega) (by omega),h0]
      simp
    · rw [if_neg (by omega),if_neg h0,ih (i + 1) k _ (by omega) (by omega) (by simp;omega) (by omega)]
      simp
theorem txtR_l1 (s : ByteArray) (hs : s.size ≤ 1000) (a : Int) (b : Bool) (c : Int) : ∀ d i k (acc : List Int),s.size - i = d → i ≤ s.size → acc.length ≤ 2 * i + 1 → d < k → verdererref04_Value.l1 k acc (i : Int) a b c s = some (acc ++ (esc (s.data.toList.drop i) ++ [0,1])) := by
  intro d
  induction d with
  | zero =>
    intro i k acc hd hi ha hk
    obtain ⟨k,rfl⟩ : ∃ m,k = m + 1 := ⟨k - 1,by omega⟩
    simp only [verdererref04_Value.l1]
    rw [if_neg (by omega),List.drop_eq_nil_of_le (by simp;omega)]
    simp only [Option.bind_some,esc,List.nil_append]
    rw [if_pos (by simp;omega)]
  | succ d ih =>
    intro i k acc hd hi ha hk
    obtain ⟨k,rfl⟩ : ∃ m,k = m + 1 := ⟨k - 1,by omega⟩
    have hlt : i < s.size := by omega
    simp only [verdererref04_Value.l1]
    rw [if_pos (by omega),if_pos (by omega),if_pos (by omega),Option.bind_some,bt_get hlt,bytes_drop hlt,wrap_succ hlt (by omega)]
    simp only [esc]
    by_cases h0 : (s.data.toList[i]'(by simpa using hlt)).toNat = 0
    · rw [if_pos (by omega),if_pos (by simp;omega),if_pos h0,ih (i + 1) k _ (by omega) (by omega) (by simp;omega) (by omega),h0]
      simp
    · rw [if_neg (by omega),if_neg h0,ih (i + 1) k _ (by omega) (by omega) (by simp;omega) (by omega)]
      simp
/-- A value that can be,as bytes. -/
def encG (v : S50) : List Int := if v.f0 = 1 then [2,b2i v.f1] else if v.f0 = 2 then 3 :: eight (turn v.f2) else if v.f0 = 3 then 4 :: (esc v.f3.data.toList ++ [0,1]) else [1]
/-- A value as bytes. -/
def encV (v : S50) : List Int := if vright v = true then encG v else []
theorem encG_len {v : S50} {M : Nat} (h : v.f3.size ≤ M) : (encG v).length ≤ 2 * M + 9 := by
  unfold encG
  have := esc_len v.f3.data.toList
  rw [data_length] at this
  repeat' split
  all_goals simp [eight]
  all_goals omega
theorem encV_len {v : S50} {M : Nat} (h : v.f3.size ≤ M) : (encV v).length ≤ 2 * M + 9 := by
  unfold encV
  split
  · exact encG_len h
  · simp
theorem packValue_f (v : S50) (hs : v.f3.size ≤ 500) (k : Nat) (hk : 510 ≤ k) : pack_Value.f k v.f0 v.f1 v.f2 v.f3 = some (encV v) := by
  unfold pack_Value.f encV encG
  rw [vright_f,Option.bind_some]
  by_cases h : vright v = true
  · rw [if_pos h,if_pos h]
    by_cases h1 : v.f0 = 1
    · rw [if_pos h1,if_pos h1]
      cases v.f1 <;> rfl
    · by_cases h2 : v.f0 = 2
      · obtain ⟨k,rfl⟩ : ∃ m,k = m + 9 := ⟨k - 9,by omega⟩
        rw [if_neg h1,if_neg h1,if_pos h2,if_pos h2,num_l0]
      · by_cases h3 : v.f0 = 3
        · have ht := txt_l1 v.f3 (by omega) v.f0 v.f1 v.f2 v.f3.size 0 k [4] (by omega) (by omega) (by simp) (by omega)
          rw [show ((0 : Nat) : Int) = 0 from rfl] at ht
          rw [if_neg h1,if_neg h1,if_neg h2,if_neg h2,if_pos h3,if_pos h3,ht]
          rfl
        · rw [if_neg h1,if_neg h1,if_neg h2,if_neg h2,if_neg h3,if_neg h3]
  · rw [if_neg h,if_neg h]
theorem refValue_f (v : S50) (hs : v.f3.size ≤ 500) (k : Nat) (hk : 510 ≤ k) : verdererref04_Value.f k v.f0 v.f1 v.f2 v.f3 = some (encV v) := by
  unfold verdererref04_Value.f encV encG
  rw [vright_ref,Option.bind_some]
  by_cases h : vright v = true
  · rw [if_pos h,if_pos h]
    by_cases h0 : v.f0 = 0
    · rw [if_pos h0,if_neg (by omega),if_neg (by omega),if_neg (by omega)]
    · by_cases h1 : v.f0 = 1
      · rw [if_neg h0,if_pos h1,if_pos h1]
        cases v.f1 <;> rfl
      · by_cases h2 : v.f0 = 2
        · obtain ⟨k,rfl⟩ : ∃ m,k = m + 9 := ⟨k - 9,by omega⟩
          rw [if_neg h0,if_neg h1,if_neg h1,if_pos h2,if_pos h2,turn_wrap,numR_l0]
        · have h3 : v.f0 = 3 := by
            unfold vright at h
            rw [if_neg h0,if_neg h1,if_neg h2] at h
            by_cases h3 : v.f0 = 3
            · exact h3
            · rw [if_neg h3] at h;cases h
          have ht := txtR_l1 v.f3 (by omega) v.f0 v.f1 v.f2 v.f3.size 0 k [4] (by omega) (by omega) (by simp) (by omega)
          rw [show ((0 : Nat) : Int) = 0 from rfl] at ht
          rw [if_neg h0,if_neg h1,if_neg h1,if_neg h2,if_neg h2,if_pos h3,ht]
          rfl
  · rw [if_neg h,if_neg h]
/-- Values as bytes,behind some;none if one cannot be. -/
def encR : List S50 → List Int → List Int
  | [],acc => acc ++ [0]
  | v :: vs,acc => if ((encV v).length : Int) = 0 then [] else encR vs (acc ++ encV v)
theorem packRow_l0 (r : List S50) (hl : r.length ≤ 100) (hs : ∀ v ∈ r,v.f3.size ≤ 500) : ∀ d i k (acc : List Int),r.length - i = d → i ≤ r.length → acc.length ≤ 1009 * i → d + 510 < k → pack_Row.l0 k acc r (r.length : Int) (i : Int) = some (encR (r.drop i) acc) := by
  intro d
  induction d with
  | zero =>
    intro i k acc hd hi ha hk
    obtain ⟨k,rfl⟩ : ∃ m,k = m + 1 := ⟨k - 1,by omega⟩
    simp only [pack_Row.l0]
    rw [if_neg (by omega),List.drop_eq_nil_of_le (by omega),if_pos (by omega)]
    rfl
  | succ d ih =>
    intro i k acc hd hi ha hk
    obtain ⟨k,rfl⟩ : ∃ m,k = m + 1 := ⟨k - 1,by omega⟩
    have hlt : i < r.length := by omega
    have hv : (rd_T50 r (i : Int)).f3.size ≤ 500 := by rw [rd_get hlt];exact hs _ (List.getElem_mem hlt)
    have hlen := encV_len hv
    simp only [pack_Row.l0]
    rw [if_pos (by omega),if_pos (by omega),if_pos (by omega),packValue_f _ hv k (by omega),Option.bind_some,drop_rd hlt]
    simp only [encR]
    by_cases h0 : ((encV (rd_T50 r (i : Int))).length : Int) = 0
    · rw [if_pos h0,if_pos h0]
    · rw [if_neg h0,if_neg h0,if_pos (by omega),wrap_succ hlt (by omega)]
      exact ih (i + 1) k _ (by omega) (by omega) (by simp;omega) (by omega)
theorem packRow_f (r : List S50) (hl : r.length ≤ 100) (hs : ∀ v ∈ r,v.f3.size ≤ 500) (k : Nat) (hk : 611 ≤ k) : pack_Row.f k r = some (encR r []) := by
  have h := packRow_l0 r hl hs r.length 0 k [] (by omega) (by omega) (by simp) (by omega)
  rw [show ((0 : Nat) : Int) = 0 from rfl] at h
  exact h
theorem refRow_l0 (r : List S50) (hl : r.length ≤ 100) (hs : ∀ v ∈ r,v.f3.size ≤ 500) : ∀ d i k (acc : List Int),r.length - i = d → i ≤ r.length → acc.length ≤ 1009 * i → d + 510 < k → verdererref04_Row.l0 k r acc (i : Int) = some (encR (r.drop i) acc) := by
  intro d
  induction d with
  | zero =>
    intro i k acc hd hi ha hk
    obtain ⟨k,rfl⟩ : ∃ m,k = m + 1 := ⟨k - 1,by omega⟩
    simp only [verdererref04_Row.l0]
    rw [if_neg (by omega),List.drop_eq_nil_of_le (by omega),if_pos (by omega)]
    rfl
  | succ d ih =>
    intro i k acc hd hi ha hk
    obtain ⟨k,rfl⟩ : ∃ m,k = m + 1 := ⟨k - 1,by omega⟩
    have hlt : i < r.length := by omega
    have hv : (rd_T50 r (i : Int)).f3.size ≤ 500 := by rw [rd_get hlt];exact hs _ (List.getElem_mem hlt)
    have hlen := encV_len hv
    simp only [verdererref04_Row.l0]
    rw [if_pos (by omega),if_pos (by omega),refValue_f _ hv k (by omega),Option.bind_some,drop_rd hlt]
    simp only [encR]
    by_cases h0 : ((encV (rd_T50 r (i : Int))).length : Int) = 0
    · rw [if_pos h0,if_pos h0]
    · rw [if_neg h0,if_neg h0,if_pos (by omega),wrap_succ hlt (by omega)]
      exact ih (i + 1) k _ (by omega) (by omega) (by simp;omega) (by omega)
theorem refRow_f (r : List S50) (hl : r.length ≤ 100) (hs : ∀ v ∈ r,v.f3.size ≤ 500) (k : Nat) (hk : 611 ≤ k) : verdererref04_Row.f k r = some (encR r []) := by
  have h := refRow_l0 r hl hs r.length 0 k [] (by omega) (by omega) (by simp) (by omega)
  rw [show ((0 : Nat) : Int) = 0 from rfl] at h
  exact h
/-- Is a row short? -/
theorem few_l0 (r : List S50) (hl : r.length ≤ 100) : ∀ d i k,r.length - i = d → i ≤ r.length → d < k → verdererlaw04_few.l0 k r (i : Int) = some ((r.drop i).all fun v => decide (v.f3.size ≤ 500)) := by
  intro d
  induction d with
  | zero =>
    intro i k hd hi hk
    obtain ⟨k,rfl⟩ : ∃ m,k = m + 1 := ⟨k - 1,by omega⟩
    simp only [verdererlaw04_few.l0]
    rw [if_neg (by omega),List.drop_eq_nil_of_le (by omega)]
    rfl
  | succ d ih =>
    intro i k hd hi hk
    obtain ⟨k,rfl⟩ : ∃ m,k = m + 1 := ⟨k - 1,by omega⟩
    have hlt : i < r.length := by omega
    simp only [verdererlaw04_few.l0]
    rw [if_pos (by omega),if_pos (by omega),drop_rd hlt,List.all_cons]
    by_cases h : ((rd_T50 r (i : Int)).f3.size : Int) > 500
    · rw [if_pos h,decide_eq_false (by omega)]
      rfl
    · rw [if_neg h,decide_eq_true (by omega),wrap_succ hlt (by omega),ih (i + 1) k (by omega) (by omega) (by omega)]
      rfl
theorem few_f (r : List S50) (k : Nat) (hk : 101 ≤ k) : verdererlaw04_few.f k r = some false ∨ (verdererlaw04_few.f k r = some true ∧ r.length ≤ 100 ∧ ∀ v ∈ r,v.f3.size ≤ 500) := by
  unfold verdererlaw04_few.f
  by_cases h : (r.length : Int) > 100
  · rw [if_pos h];exact .inl rfl
  · have hf := few_l0 r (by omega) r.length 0 k (by omega) (by omega) (by omega)
    rw [show ((0 : Nat) : Int) = 0 from rfl,List.drop_zero] at hf
    rw [if_neg h,hf]
    cases hb : (r.all fun v => decide (v.f3.size ≤ 500)) with
    | false => exact .inl rfl
    | true => exact .inr ⟨rfl,by omega,fun v hv => of_decide_eq_true (List.all_eq_true.1 hb v hv)⟩
end Go.Proofs.Ytfoaeigoajooeaa.Z
/- The fixed calls of chapter 4's statements come as they must. -/
namespace Go.Proofs.Ytfoaeigoajooeaa.Z
open Go.RowKit Go.Proofs.YtfoaeigoajooeaaW.PrintWords Go.Proofs.YtfoaeigoajooeaaW.PrintLast Go.Proofs.YtfoaeigoajooeaaW.PrintMore
theorem known04 (k : Nat) (hk : 60 ≤ k) : verdererlaw04_known.f k = some true := at_rounds (fun k => verdererlaw04_known.mono k) hk (by decide +kernel)
end Go.Proofs.Ytfoaeigoajooeaa.Z
/- The plain law of PackRows. -/
namespace Go.Proofs.Ytfoaeigoajooeaa.Z
open Go.RowKit Go.Proofs.YtfoaeigoajooeaaW.PrintWords Go.Proofs.YtfoaeigoajooeaaW.PrintLast Go.Proofs.YtfoaeigoajooeaaW.PrintMore
theorem packRows_l0 (r : List S50) (hl : r.length ≤ 100) (hs : ∀ v ∈ r,v.f3.size ≤ 500) : ∀ d i k,r.length - i = d → i ≤ r.length → d + 700 < k → verdererlaw04_PackRows.l0 k r (i : Int) = some true := by
  intro d
  induction d with
  | zero =>
    intro i k hd hi hk
    obtain ⟨k,rfl⟩ : ∃ m,k = m + 1 := ⟨k - 1,by omega⟩
    simp only [verdererlaw04_PackRows.l0]
    rw [if_neg (by omega),packRow_f r hl hs k (by omega),refRow_f r hl hs k (by omega),known04 k (by omega)]
    simp only [Option.bind_some,if_true]
  | succ d ih =>
    intro i k hd hi hk
    obtain ⟨k,rfl⟩ : ∃ m,k = m + 1 := ⟨k - 1,by omega⟩
    have hlt : i < r.length := by omega
    have hv : (rd_T50 r (i : Int)).f3.size ≤ 500 := by rw [rd_get hlt];exact hs _ (List.getElem_mem hlt)
    simp only [verdererlaw04_PackRows.l0]
    rw [if_pos (by omega),if_pos (by omega),packValue_f _ hv k (by omega),refValue_f _ hv k (by omega),Option.bind_some,Option.bind_some,if_pos rfl,wrap_succ hlt (by omega)]
    exact ih (i + 1) k (by omega) (by omega) (by omega)
theorem packRows_pure : ∀ (l0 : (List S50)),(l0.length ≤ maxLen ∧ ∀ x ∈ l0,G50 x) → ∃ k,verdererlaw04_PackRows.f k l0 = some true := by
  intro l0 _
  refine ⟨1000,?_⟩
  unfold verdererlaw04_PackRows.f
  rcases few_f l0 1000 (by omega) with h | ⟨h,hl,hs⟩
  · rw [h]
    simp only [Option.bind_some,Bool.false_eq_true,if_false,known04 1000 (by omega)]
  · have e := packRows_l0 l0 hl hs l0.length 0 1000 (by omega) (by omega) (by omega)
    rw [show ((0 : Nat) : Int) = 0 from rfl] at e
    rw [h]
    simp only [Option.bind_some,if_true]
    exact e
end Go.Proofs.Ytfoaeigoajooeaa.Z
namespace Go.Proofs.Ytfoaeigoajooeaa.packRows
open Go.ChangeShapes Go.WideShapes Go.ChangeAt Go.RowKit Go.Proofs.YtfoaeigoajooeaaW.PrintWords
open Go.ChangeMaps (open_string shut_string)
set_option linter.unusedVariables false
theorem own : ownKnob Try.prog.godebug = none := by kernel_rfl
theorem laidOut : laidOutB Try.prog = true := by kernel_rfl
set_option maxRecDepth 100000 in
theorem lifted (os : Os) (started : os.Started) (H : Type) (enc : TypeId × Value → H) :
    ReturnsInHanded {} Try.checked os 8 .any (Rows.packRowsSpec.pre6 enc Try.prog Try.f8 Rows.packRowsRow.domain false) (Rows.packRowsSpec.post enc Try.prog Try.f8 false true false false) := by
  refine returnsInHanded_of_change (C := Try.checked) own started (by kernel_rfl) Try.func8
    (ChangeSpec.witness6 (enc := enc) (C := Try.checked) false ⟨#[],#[.slice none 0 0],[]⟩ 8 (by kernel_rfl) (by kernel_rfl) (by kernel_rfl) (by kernel_rfl)) ?_
  intro W base args ds gs before hval0 hW hcnd _
  have hval : ∀ (j : Nat) t v,Try.f8.params[j]? = some t → args[j]? = some v → Value.okWide Try.prog W .any base t v := hval0
  have hW' := hW
  obtain ⟨p,q,hA0,hV,rfl,hfz,hnd⟩ := hW
  have hA : DataW.TrodAll enc Try.prog W 0 (fun _ => true) true Try.f8.params.toList args.toList ds p := hA0
  rw [Try.params8] at hA hval
  obtain ⟨v0,vs0,d0,ds0,p0,q0,hargs,rfl,rfl,h0,r0⟩ := trodAll_cons hA
  obtain ⟨rfl,rfl,rfl⟩ := trodAll_nil r0
  obtain rfl : args = #[v0] := by cases args;simp_all
  obtain ⟨rfl,rfl⟩ := trodVars_none hV
  obtain ⟨a0,len0,cap0,rfl⟩ := okWide_slice Try.underlying22 (hval 0 22 v0 rfl rfl)
  have k0 := h0
  have lt0 : ∀ x ∈ p0,x.block < W.heap.size := by obtain ⟨m,hm⟩ := k0;exact DataW.trod_lt m _ _ _ hm
  obtain ⟨l0,hK0,hG0⟩ : ∃ l,((Kd.slice 50 Z.k50) : Kd (List Z.S50)).K W l [.slice a0 len0 cap0] ∧ (l.length ≤ maxLen ∧ ∀ x ∈ l,Z.G50 x) := by obtain ⟨fuel,hf⟩ := h0;exact (show OfTrod Try.prog 22 (Kd.slice 50 Z.k50) _ from (ofTrod_slice Try.underlying22 (by kernel_rfl) Z.of50)) _ _ _ _ _ _ _ _ _ hf
  obtain ⟨A0,c0,he0,hl0,hC0⟩ := hK0
  simp only [List.cons.injEq,Value.slice.injEq,and_true] at he0
  obtain ⟨rfl,rfl,rfl⟩ := he0
  clear hA0 hval0
  obtain ⟨k,h⟩ := Z.packRows_pure l0 hG0
  refine (Z.verdererlaw04_PackRows.calls k _ _ l0 true W hC0 hl0 h).mono fun e W' ⟨he,bel⟩ => ?_
  subst he
  exact ⟨_,rfl,_,_,_,[],_,[],hW',trodAll_mk1 (shut_bool Try.underlying4 _),(trodAll_cons_mk (Below.trod laidOut (by kernel_rfl) (of_decide_eq_true (by kernel_rfl)) k0 bel lt0) trodAll_mk0),rfl,bel.frame _,fun h => by cases h⟩
theorem over : Rows.packRowsRow.holds Try.pinned (OpenSpec.ofChange Rows.packRowsSpec) :=
  OpenClaim.holds_of_wide 8 Try.f8 rfl rfl rfl rfl rfl rfl rfl ⟨rfl,rfl,rfl,rfl,rfl⟩ rfl rfl rfl rfl rfl (by kernel_rfl) Try.func8 (by kernel_rfl)
    (of_decide_eq_true (by kernel_rfl)) (by unfold Func.isWrapper;first | (rw [if_pos (by decide +kernel)];kernel_rfl) | (rw [if_neg (by decide +kernel)];exact ⟨rfl,rfl⟩))
    (fun os started H enc _ => lifted os started H enc)
theorem proved : Rows.PackRowsSaid := over
#print axioms proved
end Go.Proofs.Ytfoaeigoajooeaa.packRows
namespace Go.Proofs.Ytfoaeigoajooeaa
/-- The row,under a short name,for the claim. -/
theorem packRows_holds : Rows.PackRowsSaid := packRows.proved
end Go.Proofs.Ytfoaeigoajooeaa
