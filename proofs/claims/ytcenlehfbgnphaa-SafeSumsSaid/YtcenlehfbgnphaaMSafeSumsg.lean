/-
  verdererlaw03.SafeSums: for every input the law returns true, and each argument reads behind the call as it read before. No condition.
-/
import Derived.Test.YtcenlehfbgnphaaMSafeSumsa
import Derived.Test.YtcenlehfbgnphaaMSafeSumsb
import Derived.Test.YtcenlehfbgnphaaMSafeSumsc
import Derived.Test.YtcenlehfbgnphaaMSafeSumsd
import Derived.Test.YtcenlehfbgnphaaMSafeSumse
import Derived.Test.YtcenlehfbgnphaaMSafeSumsf
import Derived.StillTailTactics
import Derived.Deep.RegionHeld3
import Derived.Deep.RegionWith
import Derived.Outline
import Derived.Deep.Slices
import Derived.ProofKit
import Derived.Test.YtcenlehfbgnphaaRows
import Derived.WalkKit
import Derived.OpenShut
import Derived.ShutString
import Derived.ChangeOld
import Derived.Below
section
namespace Go.Proofs.Ytcenlehfbgnphaa.Y
set_option linter.unusedVariables false
set_option linter.unusedSimpArgs false
open Go.RowKit Go.Proofs.YtcenlehfbgnphaaW.PrintWords Go.Proofs.YtcenlehfbgnphaaW.PrintLast Go.Proofs.YtcenlehfbgnphaaW.PrintMore
open Go.Proofs.Ytcenlehfbgnphaa.Z
theorem drawn_below' {B : Nat} {w w' : World} (d : Drawn0 w w') : Below B w w' := by
  obtain ⟨n,rfl⟩ := d.out
  exact ⟨rfl,rfl,rfl,Nat.le_refl _,fun _ _ => rfl⟩
structure RAt (w : World) (g base : Nat) (S : Int) : Prop where
  out : ∃ (s : Bool) (v : Value),w.heap[g]? = some (.cells #[.bool s,v] 29 (0,0)) ∧ BigV w base s v S
theorem RAt.below {w w1 : World} {g base : Nat} {S : Int} (h : RAt w g base S) (hb : Below w.heap.size w w1) : RAt w1 g base S := by
  obtain ⟨s,v,h1,h2⟩ := h.out
  exact ⟨s,v,blk_below h1 hb,h2.below hb⟩
theorem RAt.only {w w1 : World} {g base k : Nat} {S : Int} (h : RAt w g base S) (hg : w.grownBy w1 (some k)) (hne : g ≠ k) (hlt : k < base) : RAt w1 g base S := by
  obtain ⟨s,v,h1,h2⟩ := h.out
  exact ⟨s,v,only_other hg h1 hne,h2.only hg hlt⟩
theorem SumAt.below {w w1 : World} {g : Nat} {S : Int} (h : SumAt w g S) (hb : Below w.heap.size w w1) : SumAt w1 g S := by
  obtain ⟨x0,x1,x2,hh,r⟩ := h.out
  exact ⟨x0,x1,x2,blk_below hh hb,r⟩
theorem SumAt.blocks {w w1 : World} {g : Nat} {S : Int} (h : SumAt w g S) (e : w1.heap[g]? = w.heap[g]?) : SumAt w1 g S := by
  obtain ⟨x0,x1,x2,hh,r⟩ := h.out
  exact ⟨x0,x1,x2,e.trans hh,r⟩
theorem below_le {B B' : Nat} {w w1 : World} (h : Below B' w w1) (hb : B ≤ B') : Below B w w1 := h.mono hb
structure SameH (w w' : World) : Prop where
  heap : w'.heap = w.heap
  os : w'.os = w.os
  tape : w'.tape = w.tape
  output : w'.output = w.output
theorem sameH_of {w w1 w2 : World} (d : Drawn0 w1 w2) (h : SameH w w1) : SameH w w2 := by
  obtain ⟨n,rfl⟩ := d.out
  exact ⟨h.heap,h.os,h.tape,h.output⟩
theorem SameH.blk {w w' : World} {g : Nat} {o : Option Obj} (h : SameH w w') (e : w.heap[g]? = o) : w'.heap[g]? = o := by rw [h.heap];exact e
theorem SameH.big {w w' : World} {base : Nat} {s : Bool} {v : Value} {S : Int} (h : SameH w w') (e : BigV w base s v S) : BigV w' base s v S := e.step (fun k _ _ => by rw [h.heap])
theorem SameH.below {B : Nat} {w w' : World} (h : SameH w w') : Below B w w' := ⟨h.os,h.tape,h.output,by rw [h.heap];exact Nat.le_refl _,fun k _ => by rw [h.heap]⟩
theorem SameH.size {n : Nat} {w w' : World} (h : SameH w w') (e : n ≤ w.heap.size) : n ≤ w'.heap.size := by rw [h.heap];exact e
theorem SameH.sum {w w' : World} {g : Nat} {S : Int} (h : SameH w w') (e : SumAt w g S) : SumAt w' g S := SumAt.blocks e (by rw [h.heap])
theorem vok {x : S31} (ht : timesOk x.f1 = true) (h : NumP x) : SumOk (x.f0 * x.f1) := by
  have hb := v_bd h.1
  unfold vP at hb
  rw [if_pos ht] at hb
  unfold big93 at hb
  exact ⟨by omega,by omega⟩
theorem bigV_slice {w : World} {base : Nat} {s : Bool} {v : Value} {S : Int} (h : BigV w base s v S) : ∃ A n c,v = .slice A n c := by
  obtain ⟨l,r,_⟩ := h.out
  obtain ⟨A,c,e⟩ := Kd.R_slice r
  exact ⟨A,_,c,e⟩
set_option maxHeartbeats 4000000 in
set_option maxRecDepth 100000 in
theorem safe_sums (A0 : Option Addr) (c0 : Nat) (l : List S31) (w : World) (hr : Kd.C k31 w A0 l.length l) (hc : l.length ≤ c0) (hn : ∀ x ∈ l,NumP x) (hl : l.length ≤ 9223372036854775807) :
    Calls Try.prog 3 #[.slice A0 l.length c0] w fun e w' => e = .returned (.bool true) ∧ Below w.heap.size w w' := by
  obtain ⟨B,hB⟩ : ∃ B,w.heap.size = B := ⟨_,rfl⟩
  have e0 : SumAt ((w.alloc (.cells (sumCells 0 0 0) 26)).alloc (.cells #[.bool false,.slice none 0 0] 29)) B 0 := by
    rw [← hB];exact ⟨0,0,0,blk_alloc (blk_new w _) _,by omega,by omega,by omega,by omega,by omega⟩
  have e1 : RAt ((w.alloc (.cells (sumCells 0 0 0) 26)).alloc (.cells #[.bool false,.slice none 0 0] 29)) (B + 1) (B + 2) 0 := by
    refine ⟨false,_,?_,BigV.zero _ _⟩
    have := blk_new (w.alloc (.cells (sumCells 0 0 0) 26)) (.cells #[.bool false,.slice none 0 0] 29)
    rw [show (w.alloc (Obj.cells (sumCells 0 0 0) 26)).heap.size = B + 1 by rw [← hB];simp] at this
    exact this
  have eB : Below B w ((w.alloc (.cells (sumCells 0 0 0) 26)).alloc (.cells #[.bool false,.slice none 0 0] 29)) := by
    rw [← hB];exact below_alloc (below_alloc (Below.refl _ _) _) _
  have eS : B + 2 ≤ ((w.alloc (.cells (sumCells 0 0 0) 26)).alloc (.cells #[.bool false,.slice none 0 0] 29)).heap.size := by rw [← hB];simp
  have HR := Aside0.mk hr
  have HC := Aside0.mk hc
  have HN := Aside0.mk hn
  have E0 := Aside0.mk e0
  have E1 := Aside0.mk e1
  have EB := Aside0.mk eB
  have ES := Aside0.mk eS
  have HB0 := Aside0.mk hB
  clear hr hc hn e0 e1 eB eS
  go_enter Try.func3,Try.ntmps3
  go_wp2_with (fail)
  clear hB
  change Code.wp _ _ _ _ ((w.alloc (.cells (sumCells 0 0 0) 26)).alloc (.cells #[.bool false,.slice none 0 0] 29))
  generalize (w.alloc (.cells (sumCells 0 0 0) 26)).alloc (.cells #[.bool false,.slice none 0 0] 29) = w0 at *
  go_loopw [5] (fun i wr => ∃ k : Nat,i = .int .i64 (k : Int) ∧ k ≤ l.length ∧ k ≤ 100 ∧ Aside0 (SumAt wr B (preP l k)) ∧ Aside0 (RAt wr (B + 1) (B + 2) (preP l k)) ∧ Aside0 (Below B w wr) ∧ Aside0 (B + 2 ≤ wr.heap.size)) (fun i _ => 100 - (intOf i).toNat)
  case atStart => exact ⟨0,rfl,Nat.zero_le _,Nat.zero_le _,E0,E1,EB,ES⟩
  case round =>
    clear E0 E1 EB ES
    obtain ⟨k,rfl,hk,hk100,E0,E1,EB,ES⟩ := hrel
    by_cases hlt : k < l.length
    · by_cases hlt2 : k < 100
      · have b0 : decide (k < l.length) = true := decide_eq_true hlt
        have b1 : decide ((k : Int) < 100) = true := decide_eq_true (by omega)
        obtain ⟨ad,e,x0,x1⟩ := at_T31 HR.out (k : Int) (by omega) (by omega)
        cases e
        have EBw : Below w.heap.size w wr := by rw [HB0.out];exact EB.out
        have hab : (ad.add (k * 2)).block < w.heap.size := by
          have := World.block_lt_of_cell? w _ x0
          simpa using this
        replace x0 := (EBw.cell (World.block_lt_of_cell? w _ x0)).trans x0
        replace x1 := (EBw.cell (World.block_lt_of_cell? w _ x1)).trans x1
        simp only [Int.toNat_natCast] at x0 x1
        rw [HB0.out] at hab
        have HAB := Aside0.mk hab
        clear EBw hab
        by_cases ht0 : -1073741824 ≤ (rd_T31 l (k : Int)).f1
        · by_cases ht1 : (rd_T31 l (k : Int)).f1 ≤ 1073741824
          · have d0 : decide ((rd_T31 l (k : Int)).f1 < -1073741824) = false := decide_eq_false (by omega)
            have d1 : decide (1073741824 < (rd_T31 l (k : Int)).f1) = false := decide_eq_false (by omega)
            have HT := Aside0.mk (show timesOk (rd_T31 l (k : Int)).f1 = true from decide_eq_true ⟨ht0,ht1⟩)
            go_wp2_with (fail)
            refine (sum_put B _ (rd_T31 l (k : Int)).f0 (rd_T31 l (k : Int)).f1 wr E0.out (ok_of (k := k) (by omega) (pre_bd HN.out k (by omega))) (num_rd HN.out hlt).1 ht0 ht1).mono ?_
            rintro e w1 ⟨rfl,hs,hg⟩
            have hv : preP l k + (rd_T31 l (k : Int)).f0 * (rd_T31 l (k : Int)).f1 = preP l (k + 1) := by
              rw [preP];unfold vP;rw [if_pos HT.out]
            rw [hv] at hs
            have F0 := Aside0.mk hs
            have F1 := Aside0.mk (E1.out.only hg (by omega) (by omega))
            have FB := Aside0.mk (EB.out.trans (only_below (B := B) hg (Nat.le_refl B) E0.out.lt))
            have FS := Aside0.mk (Nat.le_trans ES.out hg.size)
            have x0' := (only_below (B := B) hg (Nat.le_refl B) E0.out.lt).cell (p := ad.add (k * 2)) HAB.out
            rw [x0] at x0'
            clear hv hs hg E0 E1 EB ES x0 x1
            obtain ⟨s,v,hb,hV⟩ := F1.out
            have y0 := blk_cell hb 0
            have y1 := blk_cell hb 1
            simp only [List.getElem?_toArray,List.getElem?_cons_zero,List.getElem?_cons_succ] at y0 y1
            have BK := Aside0.mk hb
            have HV := Aside0.mk hV
            clear hb hV F1
            go_wp2_with (fail)
            have KN := Aside0.mk (num_rd HN.out hlt)
            have KO := Aside0.mk (And.intro (ok_of (k := k) (by omega) (pre_bd HN.out k (by omega))) (vok HT.out (num_rd HN.out hlt)))
            have HLT := Aside0.mk (show B + 1 < w1.heap.size by have := FS.out;omega)
            have HW := Aside0.mk (show (ad.add (k * 2)).block < w1.heap.size by have := HAB.out;have := FS.out;omega)
            go_region_with (first | (go_at_call 17;refine (times_big (rd_T31 l (k : Int)).f0 (rd_T31 l (k : Int)).f1 KN.out.1 KN.out.2 (B + 2) _ ?hB).mono ?_;(case hB => exact FS.out);rintro e w2 ⟨sT,vT,rfl,hvT,hbT⟩;have BK2 := Aside0.mk ((hbT.block (B + 1) HLT.out).trans BK.out);have HV2 := Aside0.mk (HV.out.step (fun k _ hk => hbT.block k hk));have VT := Aside0.mk hvT;have y2 : w2.cell? ⟨B + 1,0,none⟩ = some (.bool s) := (blk_cell BK2.out 0).trans rfl;have y3 : w2.cell? ⟨B + 1,1,none⟩ = some v := (blk_cell BK2.out 1).trans rfl;have x2 := (hbT.cell (p := ad.add (k * 2)) HW.out).trans x0';have BT := Aside0.mk hbT;clear hbT hvT) | (go_at_call 16;refine (plus_big s sT v vT _ _ (B + 2) _ HV2.out VT.out KO.out.1 KO.out.2 ?hB).mono ?_;(case hB => exact Nat.le_trans FS.out BT.out.size);rintro e w3 ⟨s3,v3,rfl,hv3,hb3⟩;obtain ⟨A3,n3,c3,rfl⟩ := bigV_slice hv3;have BK3 := Aside0.mk ((hb3.block (B + 1) (Nat.lt_of_lt_of_le HLT.out BT.out.size)).trans BK2.out);have V3 := Aside0.mk hv3;have y4 : w3.cell? ⟨B + 1,0,none⟩ = some (.bool s) := (blk_cell BK3.out 0).trans rfl;have y5 : w3.cell? ⟨B + 1,1,none⟩ = some v := (blk_cell BK3.out 1).trans rfl;have z0 := blk_frozen BK3.out 0;have z1 := blk_frozen BK3.out 1;have x3 := (hb3.cell (p := ad.add (k * 2)) (Nat.lt_of_lt_of_le HW.out BT.out.size)).trans x2;have B3 := Aside0.mk hb3;clear hb3 hv3))
            all_goals
              have G0 := Aside0.mk (SumAt.blocks F0.out (show w3.heap[B]? = w1.heap[B]? from (B3.out.block B (Nat.lt_of_lt_of_le (Nat.lt_of_lt_of_le (by omega) FS.out) BT.out.size)).trans (BT.out.block B (Nat.lt_of_lt_of_le (by omega) FS.out))))
              have GB := Aside0.mk (show Below B w w3 from (below_drew1 FB.out).trans ((below_le BT.out (by have := FS.out;show B ≤ w1.heap.size;omega)).trans (below_le B3.out (by have := FS.out;have := BT.out.size;exact Nat.le_trans (Nat.le_trans (Nat.le_add_right B 2) FS.out) BT.out.size))))
              have GS := Aside0.mk (show B + 2 ≤ w3.heap.size from Nat.le_trans (Nat.le_trans FS.out BT.out.size) B3.out.size)
              go_wp2_with (fail)
              change Calls Try.prog 18 _ ((w3.setCell ⟨B + 1,0,none⟩ (.bool s3)).setCell ⟨B + 1,1,none⟩ (.slice A3 n3 c3)) _
              have hb4 : ((w3.setCell ⟨B + 1,0,none⟩ (.bool s3)).setCell ⟨B + 1,1,none⟩ (.slice A3 n3 c3)).heap[B + 1]? = some (.cells #[.bool s3,.slice A3 n3 c3] 29 (0,0)) := blk_put (blk_put BK3.out 0 _ rfl) 1 _ rfl
              have hV4 := (V3.out.far (g := B + 1) (j := 0) (u := .bool s3) (by omega)).far (g := B + 1) (j := 1) (u := .slice A3 n3 c3) (by omega)
              have hS4 := SumAt.blocks G0.out (show ((w3.setCell ⟨B + 1,0,none⟩ (.bool s3)).setCell ⟨B + 1,1,none⟩ (.slice A3 n3 c3)).heap[B]? = w3.heap[B]? from (Below.heap_setCell _ ⟨B + 1,1,none⟩ _ B (by show B ≠ B + 1;omega)).trans (Below.heap_setCell _ ⟨B + 1,0,none⟩ _ B (by show B ≠ B + 1;omega)))
              have hB4 := (GB.out.setCell (p := ⟨B + 1,0,none⟩) (by show B ≤ B + 1;omega) (.bool s3)).setCell (p := ⟨B + 1,1,none⟩) (by show B ≤ B + 1;omega) (.slice A3 n3 c3)
              have hs4 : B + 2 ≤ ((w3.setCell ⟨B + 1,0,none⟩ (.bool s3)).setCell ⟨B + 1,1,none⟩ (.slice A3 n3 c3)).heap.size := by simpa [World.setCell] using GS.out
              rw [show preP l k + (rd_T31 l (k : Int)).f0 * (rd_T31 l (k : Int)).f1 = preP l (k + 1) by rw [preP];unfold vP;rw [if_pos HT.out]] at hV4
              have BK4 := Aside0.mk hb4
              have V4 := Aside0.mk hV4
              have S4 := Aside0.mk hS4
              have HB4 := Aside0.mk hB4
              have HS4 := Aside0.mk hs4
              clear hb4 hV4 hS4 hB4 hs4 BK3 V3 G0 GB GS F0 FB FS BT B3 VT HV2 BK2 HV BK
              try clear y0 y1
              try clear y2 y3
              try clear y4 y5
              try clear z0 z1
              try clear x2
              try clear x3
              try clear x0'
              generalize (w3.setCell ⟨B + 1,0,none⟩ (.bool s3)).setCell ⟨B + 1,1,none⟩ (.slice A3 n3 c3) = w4 at *
              refine (sum_value B _ w4 S4.out).mono ?_
              rintro e w5 ⟨rfl,d⟩
              have S5 := Aside0.mk (S4.out.drawn d)
              have db := drawn_below' (B := w4.heap.size) d
              have BK5 := Aside0.mk (blk_below BK4.out db)
              have V5 := Aside0.mk (V4.out.below db)
              have HB5 := Aside0.mk (HB4.out.trans (drawn_below' d))
              have HS5 := Aside0.mk (Nat.le_trans HS4.out db.size)
              clear d db BK4 V4 S4 HB4 HS4
              have y0 := (blk_cell BK5.out 0).trans rfl
              have y1 := (blk_cell BK5.out 1).trans rfl
              simp only [List.getElem?_toArray,List.getElem?_cons_zero,List.getElem?_cons_succ] at y0 y1
              go_wp2_with (fail)
              refine (value_big s3 (.slice A3 n3 c3) _ (B + 2) w5 V5.out).mono ?_
              rintro e w6 ⟨rfl,hb⟩
              have S6 := Aside0.mk (SumAt.below S5.out hb)
              have BK6 := Aside0.mk (blk_below BK5.out hb)
              have V6 := Aside0.mk (V5.out.below hb)
              have HB6 := Aside0.mk (HB5.out.trans (below_le hb (Nat.le_trans (Nat.le_add_right B 2) HS5.out)))
              have HS6 := Aside0.mk (Nat.le_trans HS5.out hb.size)
              clear hb y0 y1 BK5 V5 S5 HB5 HS5
              have y0 := (blk_cell BK6.out 0).trans rfl
              have y1 := (blk_cell BK6.out 1).trans rfl
              simp only [List.getElem?_toArray,List.getElem?_cons_zero,List.getElem?_cons_succ] at y0 y1
              generalize (fitF (preP l (k + 1))).1 = v1
              generalize (fitF (preP l (k + 1))).2 = v2
              go_wp2_with (fail)
              go_region_held3 (fun w' => w'.cell? ⟨B + 1,0,none⟩ = some (.bool s3) ∧ w'.cell? ⟨B + 1,1,none⟩ = some (.slice A3 n3 c3)) (first | go_keep | exact ⟨by assumption,by assumption⟩) (first | (go_at_call 20;refine (sum_sgn B (preP l (k + 1)) _ ?hS).mono ?_;(case hS => exact SumAt.blocks S6.out rfl);rintro e w7 ⟨rfl,d7⟩;have h7 := sameH_of (w := w6) d7 ⟨rfl,rfl,rfl,rfl⟩;clear d7;have BK7 := Aside0.mk (h7.blk BK6.out);have V7 := Aside0.mk (h7.big V6.out);have HB7 := Aside0.mk (HB6.out.trans h7.below);have HS7 := Aside0.mk (h7.size HS6.out);have S7 := Aside0.mk (h7.sum S6.out);have y2 : w7.cell? ⟨B + 1,0,none⟩ = some (.bool s3) := (blk_cell BK7.out 0).trans rfl;have y3 : w7.cell? ⟨B + 1,1,none⟩ = some (.slice A3 n3 c3) := (blk_cell BK7.out 1).trans rfl;clear h7) | (go_at_call 21;refine (sign_big s3 (.slice A3 n3 c3) (preP l (k + 1)) (B + 2) _ ?hV).mono ?_;(case hV => exact V7.out);rintro e w8 ⟨rfl,hb⟩;have BK8 := Aside0.mk (blk_below BK7.out hb);have V8 := Aside0.mk (V7.out.below hb);have S8 := Aside0.mk (SumAt.below S7.out hb);have HB8 := Aside0.mk (HB7.out.trans (below_le hb (Nat.le_trans (Nat.le_add_right B 2) HS7.out)));have HS8 := Aside0.mk (Nat.le_trans HS7.out hb.size);have y4 : w8.cell? ⟨B + 1,0,none⟩ = some (.bool s3) := (blk_cell BK8.out 0).trans rfl;have y5 : w8.cell? ⟨B + 1,1,none⟩ = some (.slice A3 n3 c3) := (blk_cell BK8.out 1).trans rfl;clear hb))
              all_goals go_wp2_with (fail)
              all_goals go_roundw
              all_goals first | exact ⟨k + 1,by go_num,by omega,by omega,S8,⟨⟨s3,_,BK8.out,V8.out⟩⟩,HB8,HS8⟩ | (simp [intOf];omega)
          · have d0 : decide ((rd_T31 l (k : Int)).f1 < -1073741824) = false := decide_eq_false (by omega)
            have d1 : decide (1073741824 < (rd_T31 l (k : Int)).f1) = true := decide_eq_true (by omega)
            have HT := Aside0.mk (show timesOk (rd_T31 l (k : Int)).f1 = false from decide_eq_false (fun h => ht1 h.2))
            have D0 := Aside0.mk (num_rd HN.out hlt)
            have HZ := Aside0.mk (show preP l (k + 1) = preP l k by rw [preP];unfold vP;rw [if_neg (by rw [HT.out];exact Bool.false_ne_true)];omega)
            go_wp2_with (fail)
            refine (sum_put_hi B (rd_T31 l (k : Int)).f0 (rd_T31 l (k : Int)).f1 wr d0 d1).mono ?_
            rintro e w1 ⟨rfl,d⟩
            have h1 := sameH_of (w := wr) d ⟨rfl,rfl,rfl,rfl⟩
            obtain ⟨s,v,hb,hV⟩ := E1.out
            have R1 : Aside0 (RAt w1 (B + 1) (B + 2) (preP l (k + 1))) := ⟨⟨s,v,h1.blk hb,by rw [HZ.out];exact h1.big hV⟩⟩
            have R0 : Aside0 (SumAt w1 B (preP l (k + 1))) := ⟨by rw [HZ.out];exact h1.sum E0.out⟩
            have RB := Aside0.mk (EB.out.trans h1.below)
            have RS := Aside0.mk (h1.size ES.out)
            clear d h1 hb hV E0 E1 EB ES x0 x1
            go_wp2_with (fail)
            go_roundw
            case rel => exact ⟨k + 1,by go_num,by omega,by omega,R0,R1,RB,RS⟩
            case measure => simp [intOf];omega
        · have d0 : decide ((rd_T31 l (k : Int)).f1 < -1073741824) = true := decide_eq_true (by omega)
          have HT := Aside0.mk (show timesOk (rd_T31 l (k : Int)).f1 = false from decide_eq_false (fun h => ht0 h.1))
          have D0 := Aside0.mk (num_rd HN.out hlt)
          have HZ := Aside0.mk (show preP l (k + 1) = preP l k by rw [preP];unfold vP;rw [if_neg (by rw [HT.out];exact Bool.false_ne_true)];omega)
          go_wp2_with (fail)
          refine (sum_put_lo B (rd_T31 l (k : Int)).f0 (rd_T31 l (k : Int)).f1 wr d0).mono ?_
          rintro e w1 ⟨rfl,d⟩
          have h1 := sameH_of (w := wr) d ⟨rfl,rfl,rfl,rfl⟩
          obtain ⟨s,v,hb,hV⟩ := E1.out
          have R1 : Aside0 (RAt w1 (B + 1) (B + 2) (preP l (k + 1))) := ⟨⟨s,v,h1.blk hb,by rw [HZ.out];exact h1.big hV⟩⟩
          have R0 : Aside0 (SumAt w1 B (preP l (k + 1))) := ⟨by rw [HZ.out];exact h1.sum E0.out⟩
          have RB := Aside0.mk (EB.out.trans h1.below)
          have RS := Aside0.mk (h1.size ES.out)
          clear d h1 hb hV E0 E1 EB ES x0 x1
          go_wp2_with (fail)
          go_roundw
          case rel => exact ⟨k + 1,by go_num,by omega,by omega,R0,R1,RB,RS⟩
          case measure => simp [intOf];omega
      · have b0 : decide (k < l.length) = true := decide_eq_true hlt
        have b1 : decide ((k : Int) < 100) = false := decide_eq_false (by omega)
        have b2 : 100 ≤ k := by omega
        go_wp2_with (fail)
        refine (safe_known wr).mono ?_
        rintro e w9 ⟨rfl,hb⟩
        have FB := Aside0.mk (EB.out.trans (hb.mono (Nat.le_trans (Nat.le_add_right B 2) ES.out)))
        clear hb EB
        go_wp2_with (fail)
        go_ret
        exact ⟨rfl,by rw [HB0.out];exact FB.out⟩
    · have b0 : decide (k < l.length) = false := decide_eq_false hlt
      have b2 : l.length ≤ k := by omega
      go_wp2_with (fail)
      refine (safe_known wr).mono ?_
      rintro e w9 ⟨rfl,hb⟩
      have FB := Aside0.mk (EB.out.trans (hb.mono (Nat.le_trans (Nat.le_add_right B 2) ES.out)))
      clear hb EB
      go_wp2_with (fail)
      go_ret
      exact ⟨rfl,by rw [HB0.out];exact FB.out⟩
def verdererlaw03_SafeSums.f (l0 : List (S31)) : Option (Bool) := if decide (l0.length ≤ 9223372036854775807) && l0.all numPB then some true else none
theorem verdererlaw03_SafeSums.calls (A0 : Option Addr) (c0 : Nat) (l0 : List (S31)) (r : Bool) (w : World) (hr0 : Kd.C k31 w A0 l0.length l0) (hc0 : l0.length ≤ c0) (h : verdererlaw03_SafeSums.f l0 = some r) :
    Calls Try.prog 3 #[.slice A0 l0.length c0] w fun e w' => e = .returned (.bool r) ∧ Below w.heap.size w w' := by
  unfold verdererlaw03_SafeSums.f at h
  split at h
  · rename_i hc
    rw [Bool.and_eq_true,decide_eq_true_eq] at hc
    obtain rfl := Option.some.inj h
    exact safe_sums A0 c0 l0 w hr0 hc0 (num_all hc.2) hc.1
  · exact absurd h (by simp)
end Go.Proofs.Ytcenlehfbgnphaa.Y
end
section
namespace Go.Proofs.YtcenlehfbgnphaaW.PrintWords
open Go.RowKit Go.ChangeShapes Go.WideShapes
section
variable {P : Program} {α β : Type}
def OfTrod (P : Program) (t : TypeId) (d : Kd α) (G : α → Prop) : Prop :=
  ∀ (H : Type) (enc : TypeId × Value → H) (w : World) (base : Nat) (spare : Nat → Bool) (held : Bool) (fuel : Nat) (cs : List Value) (x : DataW H × List MemPlace),DataW.trod enc P w base spare held fuel t cs = some x → ∃ s,d.K w s cs ∧ G s
theorem ofTrod_int {t : TypeId} {k : IntKind} (ht : P.underlying t = some (.int k)) : OfTrod P t (Kd.int k) (fun n => (Lit.int k n).wf = true) := by
  intro H enc w base spare held fuel cs x h
  obtain ⟨n,rfl,_,hw⟩ := DataW.trod_int ht h
  exact ⟨n,rfl,hw⟩
theorem list_of_all {n : Nat} {Q : Nat → α → Prop} (h : ∀ i,i < n → ∃ x,Q i x) : ∃ xs : List α,xs.length = n ∧ ∀ i x,xs[i]? = some x → Q i x := by
  induction n with
  | zero => exact ⟨[],rfl,fun i x hx => by simp at hx⟩
  | succ n ih =>
    obtain ⟨xs,hl,hx⟩ := ih (fun i hi => h i (by omega))
    obtain ⟨y,hy⟩ := h n (by omega)
    refine ⟨xs ++ [y],by simp [hl],fun i x hi => ?_⟩
    rcases Nat.lt_trichotomy i xs.length with hlt | rfl | hgt
    · rw [List.getElem?_append_left hlt] at hi
      exact hx i x hi
    · rw [List.getElem?_append_right (Nat.le_refl _)] at hi
      simp at hi
      subst hi
      rw [hl]
      exact hy
    · rw [List.getElem?_append_right (by omega),List.getElem?_eq_none (by simp;omega)] at hi
      cases hi
theorem ofTrod_slice {t e : TypeId} {d : Kd α} {G : α → Prop} (ht : P.underlying t = some (.slice e)) (hc : P.cellsOf e = d.sz) (h : OfTrod P e d G) :
    OfTrod P t (Kd.slice e d) (fun l => l.length ≤ maxLen ∧ ∀ x ∈ l,G x) := by
  intro H enc w base spare held fuel cs x hx
  rcases Go.Deep.open_slice ht hx with ⟨rfl,_⟩ | ⟨a,len,cap,m,n,D,Pl,rfl,_,hl,hm,hmm,_,hel⟩
  · exact ⟨[],⟨none,0,rfl,Nat.le_refl _,Kd.C_nil d w⟩,by simp,fun x hx => by simp at hx⟩
  · have hlm : len ≤ m := by rw [hmm];split <;> omega
    obtain ⟨xs,hxl,hxs⟩ := list_of_all (n := len) (Q := fun i s => ∃ cs',w.cells? base (a.add (i * P.cellsOf e)) (P.cellsOf e) = some cs' ∧ d.K w s cs' ∧ G s) (fun i hi => by
      obtain ⟨cs',h1,h2⟩ := hel i (by omega)
      obtain ⟨s,h3,h4⟩ := h _ _ _ _ _ _ _ _ _ h2
      exact ⟨s,cs',h1,h3,h4⟩)
    refine ⟨xs,⟨some a,cap,by rw [hxl],by omega,rfl,by rw [hxl];unfold maxLen at hm;omega,fun _ => ⟨a,rfl,fun j p hp => ?_⟩⟩,by omega,fun x hx => ?_⟩
    · obtain ⟨cs',h1,h2,_⟩ := hxs j p hp
      obtain ⟨_,hcl,hcell⟩ := World.cells?_some h1
      refine ⟨cs',by rw [hcl,hc],h2,fun i u hu => ?_⟩
      have hi : i < P.cellsOf e := by
        rw [← hcl]
        exact (List.getElem?_eq_some_iff.1 hu).1
      have := hcell i hi
      rw [Go.Deep.add_add,hc] at this
      rw [this]
      exact hu
    · obtain ⟨i,hi,rfl⟩ := List.getElem_of_mem hx
      obtain ⟨_,_,_,h4⟩ := hxs i xs[i] (List.getElem?_eq_getElem hi)
      exact h4
def segOff (segs : List (TypeId × Nat)) (i : Nat) : Nat := ((segs.take i).map (·.2)).sum
def OfSegs (P : Program) (segs : List (TypeId × Nat)) (d : Kd α) (G : α → Prop) : Prop :=
  ∀ (H : Type) (enc : TypeId × Value → H) (w : World) (base : Nat) (spare : Nat → Bool) (held : Bool) (fuel : Nat) (cs : List Value),cs.length = segOff segs segs.length →
    (∀ i t c,segs[i]? = some (t,c) → ∃ x,DataW.trod enc P w base spare held fuel t ((cs.drop (segOff segs i)).take c) = some x) → ∃ s,d.K w s cs ∧ G s
theorem ofSegs_one {t : TypeId} {c : Nat} {d : Kd α} {G : α → Prop} (h : OfTrod P t d G) : OfSegs P [(t,c)] d G := by
  intro H enc w base spare held fuel cs hl hx
  obtain ⟨x,h1⟩ := hx 0 t c rfl
  have hl2 : cs.length = c := by simpa [segOff] using hl
  have e : ((cs.drop (segOff [(t,c)] 0)).take c) = cs := by simp [segOff,← hl2]
  rw [e] at h1
  exact h _ _ _ _ _ _ _ _ _ h1
theorem ofSegs_cons {t : TypeId} {c : Nat} {ts : List (TypeId × Nat)} {d : Kd α} {d' : Kd β} {G : α → Prop} {G' : β → Prop} (h : OfTrod P t d G) (h' : OfSegs P ts d' G') : OfSegs P ((t,c) :: ts) (Kd.pair d d') (fun x => G x.1 ∧ G' x.2) := by
  intro H enc w base spare held fuel cs hl hx
  obtain ⟨x,h1⟩ := hx 0 t c rfl
  have e : ((cs.drop (segOff ((t,c) :: ts) 0)).take c) = cs.take c := by simp [segOff]
  rw [e] at h1
  obtain ⟨s,h2,h3⟩ := h _ _ _ _ _ _ _ _ _ h1
  have hl' : (cs.drop c).length = segOff ts ts.length := by
    simp [segOff] at hl ⊢
    omega
  obtain ⟨s',h4,h5⟩ := h' H enc w base spare held fuel (cs.drop c) hl' (fun i t' c' hi => by
    obtain ⟨y,hy⟩ := hx (i + 1) t' c' (by simpa using hi)
    refine ⟨y,?_⟩
    have e2 : segOff ((t,c) :: ts) (i + 1) = c + segOff ts i := by simp [segOff]
    rw [e2] at hy
    rw [List.drop_drop]
    exact hy)
  exact ⟨(s,s'),⟨cs.take c,cs.drop c,(List.take_append_drop c cs).symm,h2,h4⟩,h3,h5⟩
theorem ofTrod_struct {t : TypeId} {fs : Array Field} {segs : List (TypeId × Nat)} {d : Kd α} {G : α → Prop} (ht : P.underlying t = some (.struct fs)) (hc : P.cellsOf t = segOff segs segs.length) (hn : fs.size = segs.length)
    (hfs : ∀ i (f : Field),fs[i]? = some f → segs[i]? = some (f.type,P.cellsOf f.type) ∧ f.offset = segOff segs i) (h : OfSegs P segs d G) : OfTrod P t d G := by
  intro H enc w base spare held fuel cs x hx
  obtain ⟨xs,n,_,_,hl,hxl,hf⟩ := DataW.trod_struct ht hx
  refine h H enc w base spare held n cs (by rw [hl,hc]) (fun i t' c' hi => ?_)
  have hlt : i < fs.size := by rw [hn];exact (List.getElem?_eq_some_iff.1 hi).1
  obtain ⟨h1,h2⟩ := hfs i fs[i] (Array.getElem?_eq_getElem hlt)
  rw [hi] at h1
  injection h1 with h1
  injection h1 with h1 h3
  have h4 := hf i fs[i] (Array.getElem?_eq_getElem hlt)
  rw [h2,← h3,← h1] at h4
  have hlt2 : i < xs.length := by omega
  rw [List.getElem?_eq_getElem hlt2] at h4
  exact ⟨_,h4⟩
theorem ofTrod_iso {t : TypeId} {d : Kd α} {G : α → Prop} (f : β → α) (g : α → β) (hg : ∀ a,f (g a) = a) (h : OfTrod P t d G) : OfTrod P t (Kd.iso d f) (fun x => G (f x)) := by
  intro H enc w base spare held fuel cs x hx
  obtain ⟨s,h1,h2⟩ := h _ _ _ _ _ _ _ _ _ hx
  exact ⟨g s,by show d.K w (f (g s)) cs;rw [hg];exact h1,by show G (f (g s));rw [hg];exact h2⟩
theorem cell_heap {w w' : World} (h : w.heap = w'.heap) (a : Addr) : w'.cell? a = w.cell? a := by unfold World.cell?;rw [h]
end
end Go.Proofs.YtcenlehfbgnphaaW.PrintWords
end
section
namespace Go.Proofs.Ytcenlehfbgnphaa.Y
open Go.RowKit Go.Proofs.YtcenlehfbgnphaaW.PrintWords Go.Proofs.YtcenlehfbgnphaaW.PrintLast Go.Proofs.YtcenlehfbgnphaaW.PrintMore
set_option maxRecDepth 100000
def G31 (x : S31) : Prop := ((Lit.int .i64 x.f0).wf = true) ∧ ((Lit.int .i64 x.f1).wf = true)
theorem of31 : OfTrod Try.prog 31 k31 G31 :=
  ofTrod_iso _ (fun a => (⟨a.1,a.2⟩ : S31)) (fun _ => rfl) (ofTrod_struct (segs := [(2,1),(2,1)]) Try.underlying31 (by kernel_rfl) rfl
    (by
      intro i f hf
      rcases i with _ | _ | i <;> simp at hf <;> subst hf <;> exact ⟨congrArg some (Prod.ext rfl (by kernel_rfl)),rfl⟩) (ofSegs_cons (ofTrod_int Try.underlying2) (ofSegs_one (ofTrod_int Try.underlying2))))
end Go.Proofs.Ytcenlehfbgnphaa.Y
end
section
namespace Go.Proofs.Ytcenlehfbgnphaa.Y
open Go.RowKit Go.Proofs.YtcenlehfbgnphaaW.PrintWords Go.Proofs.YtcenlehfbgnphaaW.PrintLast Go.Proofs.YtcenlehfbgnphaaW.PrintMore
theorem safeSums_pure : ∀ (l0 : (List S31)),(l0.length ≤ maxLen ∧ ∀ x ∈ l0,G31 x) → verdererlaw03_SafeSums.f l0 = some true := by
  intro l0 h
  unfold verdererlaw03_SafeSums.f
  rw [if_pos]
  rw [Bool.and_eq_true,decide_eq_true_eq]
  refine ⟨?_,all_num (fun x hx => ⟨in64_wf (h.2 x hx).1,in64_wf (h.2 x hx).2⟩)⟩
  have := h.1
  unfold maxLen at this
  omega
end Go.Proofs.Ytcenlehfbgnphaa.Y
end
namespace Go.Proofs.Ytcenlehfbgnphaa.safeSums
open Go.ChangeShapes Go.WideShapes Go.ChangeAt Go.RowKit Go.Proofs.YtcenlehfbgnphaaW.PrintWords
open Go.ChangeMaps (open_string shut_string)
set_option linter.unusedVariables false
theorem own : ownKnob Try.prog.godebug = none := by kernel_rfl
theorem laidOut : laidOutB Try.prog = true := by kernel_rfl
set_option maxRecDepth 100000 in
theorem lifted (os : Os) (started : os.Started) (H : Type) (enc : TypeId × Value → H) :
    ReturnsInHanded {} Try.checked os 3 .any (Rows.safeSumsSpec.pre6 enc Try.prog Try.f3 Rows.safeSumsRow.domain false) (Rows.safeSumsSpec.post enc Try.prog Try.f3 false true false false) := by
  refine returnsInHanded_of_change (C := Try.checked) own started (by kernel_rfl) Try.func3
    (ChangeSpec.witness6 (enc := enc) (C := Try.checked) false ⟨#[],#[.slice none 0 0],[]⟩ 8 (by kernel_rfl) (by kernel_rfl) (by kernel_rfl) (by kernel_rfl)) ?_
  intro W base args ds gs before hval0 hW hcnd _
  have hval : ∀ (j : Nat) t v,Try.f3.params[j]? = some t → args[j]? = some v → Value.okWide Try.prog W .any base t v := hval0
  have hW' := hW
  obtain ⟨p,q,hA0,hV,rfl,hfz,hnd⟩ := hW
  have hA : DataW.TrodAll enc Try.prog W 0 (fun _ => true) true Try.f3.params.toList args.toList ds p := hA0
  rw [Try.params3] at hA hval
  obtain ⟨v0,vs0,d0,ds0,p0,q0,hargs,rfl,rfl,h0,r0⟩ := trodAll_cons hA
  obtain ⟨rfl,rfl,rfl⟩ := trodAll_nil r0
  obtain rfl : args = #[v0] := by cases args;simp_all
  obtain ⟨rfl,rfl⟩ := trodVars_none hV
  obtain ⟨a0,len0,cap0,rfl⟩ := okWide_slice Try.underlying22 (hval 0 22 v0 rfl rfl)
  have k0 := h0
  have lt0 : ∀ x ∈ p0,x.block < W.heap.size := by obtain ⟨m,hm⟩ := k0;exact DataW.trod_lt m _ _ _ hm
  obtain ⟨l0,hK0,hG0⟩ : ∃ l,((Kd.slice 31 Y.k31) : Kd (List Y.S31)).K W l [.slice a0 len0 cap0] ∧ (l.length ≤ maxLen ∧ ∀ x ∈ l,Y.G31 x) := by obtain ⟨fuel,hf⟩ := h0;exact (show OfTrod Try.prog 22 (Kd.slice 31 Y.k31) _ from (ofTrod_slice Try.underlying22 (by kernel_rfl) Y.of31)) _ _ _ _ _ _ _ _ _ hf
  obtain ⟨A0,c0,he0,hl0,hC0⟩ := hK0
  simp only [List.cons.injEq,Value.slice.injEq,and_true] at he0
  obtain ⟨rfl,rfl,rfl⟩ := he0
  clear hA0 hval0
  have h := Y.safeSums_pure l0 hG0
  refine (Y.verdererlaw03_SafeSums.calls _ _ l0 true W hC0 hl0 h).mono fun e W' ⟨he,bel⟩ => ?_
  subst he
  exact ⟨_,rfl,_,_,_,[],_,[],hW',trodAll_mk1 (shut_bool Try.underlying4 _),(trodAll_cons_mk (Below.trod laidOut (by kernel_rfl) (of_decide_eq_true (by kernel_rfl)) k0 bel lt0) trodAll_mk0),rfl,bel.frame _,fun h => by cases h⟩
theorem over : Rows.safeSumsRow.holds Try.pinned (OpenSpec.ofChange Rows.safeSumsSpec) :=
  OpenClaim.holds_of_wide 3 Try.f3 rfl rfl rfl rfl rfl rfl rfl ⟨rfl,rfl,rfl,rfl,rfl⟩ rfl rfl rfl rfl rfl (by kernel_rfl) Try.func3 (by kernel_rfl)
    (of_decide_eq_true (by kernel_rfl)) (by unfold Func.isWrapper;first | (rw [if_pos (by decide +kernel)];kernel_rfl) | (rw [if_neg (by decide +kernel)];exact ⟨rfl,rfl⟩))
    (fun os started H enc _ => lifted os started H enc)
theorem proved : Rows.SafeSumsSaid := over
#print axioms proved
end Go.Proofs.Ytcenlehfbgnphaa.safeSums
namespace Go.Proofs.Ytcenlehfbgnphaa
theorem safeSums_holds : Rows.SafeSumsSaid := safeSums.proved
end Go.Proofs.Ytcenlehfbgnphaa
