/-
  verdererlaw27.UsageSums: for every input the law returns true, and each argument reads behind the call as it read before. No condition.
-/
import Derived.Test.YtcenlehfbgnphaaMUsageSumsa
import Derived.Test.YtcenlehfbgnphaaMUsageSumsb
import Derived.Test.YtcenlehfbgnphaaMUsageSumsc
import Derived.Outline
import Derived.Deep.Slices
import Derived.ProofKit
import Derived.Test.YtcenlehfbgnphaaRows
import Derived.WalkKit
import Derived.OpenShut
import Derived.ShutString
import Derived.ChangeOld
import Derived.Below
import Derived.Laws.Cover2
section
namespace Go.Proofs.Ytcenlehfbgnphaa.Z
set_option linter.unusedVariables false
set_option linter.unusedSimpArgs false
open Go.RowKit Go.Proofs.YtcenlehfbgnphaaW.PrintWords Go.Proofs.YtcenlehfbgnphaaW.PrintLast Go.Proofs.YtcenlehfbgnphaaW.PrintMore
def hitB (a0 a1 : ByteArray) (u : S45) : Bool := u.f0.toList == a0.toList && u.f1.toList == a1.toList
set_option maxHeartbeats 2000000 in
set_option maxRecDepth 100000 in
theorem find1_yes (a0 a1 : ByteArray) (u : S45) (g0 g1 : Nat) (w : World) (h0 : w.heap[g0]? = some (.cells #[.string a0] 9 (0,0))) (h1 : w.heap[g1]? = some (.cells #[.string a1] 9 (0,0))) :
    Calls Try.prog 84 #[.agg #[.string u.f0,.string u.f1,.int .i64 u.f2,.int .i64 u.f3],.pointer (some ⟨g0,0,none⟩),.pointer (some ⟨g1,0,none⟩)] w fun e w' => e = .returned (.bool (hitB a0 a1 u)) ∧ Below w.heap.size w w' := by
  have c0 := blk_cell (blk_alloc h0 (.cells #[.string u.f0,.string u.f1,.int .i64 u.f2,.int .i64 u.f3] 45)) 0
  have c1 := blk_cell (blk_alloc h1 (.cells #[.string u.f0,.string u.f1,.int .i64 u.f2,.int .i64 u.f3] 45)) 0
  simp only [List.getElem?_toArray,List.getElem?_cons_zero,List.getElem?_cons_succ] at c0 c1
  unfold hitB
  clear h0 h1
  cases b0 : u.f0.toList == a0.toList
  · go_enter Try.func84,Try.ntmps84
    go_wp2
    go_ret
    exact ⟨by rfl,below_alloc (Below.refl _ _) _⟩
  · cases b1 : u.f1.toList == a1.toList
    · go_enter Try.func84,Try.ntmps84
      go_wp2
      go_ret
      exact ⟨by rfl,below_alloc (Below.refl _ _) _⟩
    · go_enter Try.func84,Try.ntmps84
      go_wp2
      go_ret
      exact ⟨by rfl,below_alloc (Below.refl _ _) _⟩
def FoundAt (a0 a1 : ByteArray) (l : List S45) (r : Int) : Prop := (r = -1 ∧ ∀ j,j < l.length → hitB a0 a1 (rd_T45 l (j : Int)) = false) ∨ ∃ j,j < l.length ∧ r = (j : Int) ∧ hitB a0 a1 (rd_T45 l (j : Int)) = true ∧ ∀ i,i < j → hitB a0 a1 (rd_T45 l (i : Int)) = false
def FoundPost (a0 a1 : ByteArray) (l : List S45) (w : World) (e : Ending) (w' : World) : Prop := ∃ r : Int,e = .returned (.int .i64 r) ∧ FoundAt a0 a1 l r ∧ Below w.heap.size w w'
set_option maxHeartbeats 2000000 in
set_option maxRecDepth 100000 in
theorem index_func (a0 a1 : ByteArray) (A : Option Addr) (c : Nat) (l : List S45) (g0 g1 : Nat) (w : World) (h0 : w.heap[g0]? = some (.cells #[.string a0] 9 (0,0))) (h1 : w.heap[g1]? = some (.cells #[.string a1] 9 (0,0)))
    (hr : Kd.C k45 w A l.length l) (hc : l.length ≤ c) (hl : l.length ≤ 1000000) :
    Calls Try.prog 83 #[.slice A l.length c,.func (.func 84) #[] #[.pointer (some ⟨g0,0,none⟩),.pointer (some ⟨g1,0,none⟩)]] w (FoundPost a0 a1 l w) := by
  have hu45 := Try.underlying45
  have HR := Aside0.mk hr
  have HC := Aside0.mk hc
  have H0 := Aside0.mk h0
  have H1 := Aside0.mk h1
  clear hr hc h0 h1
  have HB := Aside0.mk (Below.refl w.heap.size w)
  go_enter Try.func83,Try.ntmps83
  go_wp2
  go_loopw [8,5] (fun i v wr => ∃ k : Nat,i = .int .i64 (k : Int) ∧ k ≤ l.length ∧ Aside0 (∀ j,j < k → hitB a0 a1 (rd_T45 l (j : Int)) = false) ∧ Aside0 (Below w.heap.size w wr)) (fun i _ _ => l.length - (intOf i).toNat)
  case atStart => exact ⟨0,rfl,Nat.zero_le _,⟨fun j hj => absurd hj (Nat.not_lt_zero j)⟩,HB⟩
  case round =>
    clear HB
    obtain ⟨k,rfl,hk,HN,HB⟩ := hrel
    by_cases hlt : k < l.length
    · obtain ⟨ad,e,x0,x1,x2,x3⟩ := at_T45 HR.out (k : Int) (by omega) (by omega)
      cases e
      replace x0 := (HB.out.cell (World.block_lt_of_cell? w _ x0)).trans x0
      replace x1 := (HB.out.cell (World.block_lt_of_cell? w _ x1)).trans x1
      replace x2 := (HB.out.cell (World.block_lt_of_cell? w _ x2)).trans x2
      replace x3 := (HB.out.cell (World.block_lt_of_cell? w _ x3)).trans x3
      simp only [Int.toNat_natCast] at x0 x1 x2 x3
      have G0 := Aside0.mk ((HB.out.block g0 (blk_lt H0.out)).trans H0.out)
      have G1 := Aside0.mk ((HB.out.block g1 (blk_lt H1.out)).trans H1.out)
      cases hb : hitB a0 a1 (rd_T45 l (k : Int))
      · have HH := Aside0.mk hb
        clear hb
        go_wp2_with (fail)
        refine (find1_yes a0 a1 (rd_T45 l (k : Int)) g0 g1 _ G0.out G1.out).mono ?_
        rintro e w' ⟨rfl,hb1⟩
        rw [HH.out]
        have HB1 := Aside0.mk (HB.out.trans (hb1.mono HB.out.size))
        clear hb1 HB G0 G1 x0 x1 x2 x3
        go_wp2_with (fail)
        go_roundw
        case rel =>
          refine ⟨k + 1,by go_num,by omega,⟨fun j hj => ?_⟩,HB1⟩
          rcases Nat.lt_or_ge j k with c | c
          · exact HN.out j c
          · obtain rfl : j = k := by omega
            exact HH.out
        case measure => simp [intOf];omega
      · have HH := Aside0.mk hb
        clear hb
        go_wp2_with (fail)
        refine (find1_yes a0 a1 (rd_T45 l (k : Int)) g0 g1 _ G0.out G1.out).mono ?_
        rintro e w' ⟨rfl,hb1⟩
        rw [HH.out]
        have HB1 := Aside0.mk (HB.out.trans (hb1.mono HB.out.size))
        clear hb1 HB G0 G1 x0 x1 x2 x3
        go_wp2_with (fail)
        go_ret
        exact ⟨_,rfl,.inr ⟨k,hlt,rfl,HH.out,HN.out⟩,HB1.out⟩
    · obtain rfl : k = l.length := by omega
      go_wp2_with (fail)
      go_ret
      exact ⟨_,rfl,.inl ⟨rfl,HN.out⟩,HB.out⟩
def useOf (o : Option S45) : ByteArray × ByteArray × Int × Int × Bool := match o with
  | some u => (u.f0,u.f1,u.f2,u.f3,true)
  | none => ((⟨#[]⟩ : ByteArray),(⟨#[]⟩ : ByteArray),0,0,false)
def usage_Find.f (a0 : ByteArray) (a1 : ByteArray) (l2 : List (S45)) : Option (ByteArray × ByteArray × Int × Int × Bool) := if l2.length ≤ 1000000 then some (useOf (l2.find? (hitB a0 a1))) else none
theorem rd_get (l : List S45) (j : Nat) (h : j < l.length) : rd_T45 l (j : Int) = l[j] := by
  unfold rd_T45
  rw [Int.toNat_natCast,List.getD_eq_getElem?_getD,List.getElem?_eq_getElem h]
  rfl
theorem found_none {a0 a1 : ByteArray} {l : List S45} (h : ∀ j,j < l.length → hitB a0 a1 (rd_T45 l (j : Int)) = false) : l.find? (hitB a0 a1) = none := by
  rw [List.find?_eq_none]
  intro x hx
  obtain ⟨j,hj,rfl⟩ := List.getElem_of_mem hx
  rw [← rd_get l j hj,h j hj]
  exact Bool.false_ne_true
theorem found_some {a0 a1 : ByteArray} {l : List S45} {j : Nat} (hj : j < l.length) (h : hitB a0 a1 (rd_T45 l (j : Int)) = true) (hn : ∀ i,i < j → hitB a0 a1 (rd_T45 l (i : Int)) = false) : l.find? (hitB a0 a1) = some (rd_T45 l (j : Int)) := by
  rw [rd_get l j hj] at h ⊢
  rw [List.find?_eq_some_iff_getElem]
  refine ⟨h,j,hj,rfl,fun i hi => ?_⟩
  rw [← rd_get l i (by omega),hn i hi]
  rfl
set_option maxHeartbeats 2000000 in
set_option maxRecDepth 100000 in
theorem usage_find (a0 a1 : ByteArray) (A : Option Addr) (c : Nat) (l : List S45) (w : World) (hr : Kd.C k45 w A l.length l) (hc : l.length ≤ c) (hl : l.length ≤ 1000000) :
    Calls Try.prog 55 #[.string a0,.string a1,.slice A l.length c] w fun e w' => e = .returned (.tuple #[.agg #[.string (useOf (l.find? (hitB a0 a1))).1,.string (useOf (l.find? (hitB a0 a1))).2.1,.int .i64 (useOf (l.find? (hitB a0 a1))).2.2.1,.int .i64 (useOf (l.find? (hitB a0 a1))).2.2.2.1],.bool (useOf (l.find? (hitB a0 a1))).2.2.2.2]) ∧ Below w.heap.size w w' := by
  have hu45 := Try.underlying45
  obtain ⟨B,hB⟩ : ∃ B,w.heap.size = B := ⟨_,rfl⟩
  have e0 := blk_alloc (blk_alloc (blk_new w (.cells #[.string a0] 9)) (.cells #[.string a1] 9)) (.cells #[.string (⟨#[]⟩ : ByteArray),.string (⟨#[]⟩ : ByteArray),.int .i64 0,.int .i64 0] 45)
  have e1 := blk_alloc (blk_new (w.alloc (.cells #[.string a0] 9)) (.cells #[.string a1] 9)) (.cells #[.string (⟨#[]⟩ : ByteArray),.string (⟨#[]⟩ : ByteArray),.int .i64 0,.int .i64 0] 45)
  have e2 := blk_new ((w.alloc (.cells #[.string a0] 9)).alloc (.cells #[.string a1] 9)) (.cells #[.string (⟨#[]⟩ : ByteArray),.string (⟨#[]⟩ : ByteArray),.int .i64 0,.int .i64 0] 45)
  have eB : Below B w (((w.alloc (.cells #[.string a0] 9)).alloc (.cells #[.string a1] 9)).alloc (.cells #[.string (⟨#[]⟩ : ByteArray),.string (⟨#[]⟩ : ByteArray),.int .i64 0,.int .i64 0] 45)) := by
    rw [← hB];exact below_alloc (below_alloc (below_alloc (Below.refl _ _) _) _) _
  rw [show (w.alloc (Obj.cells #[.string a0] 9)).heap.size = B + 1 by rw [← hB];simp] at e1
  rw [show ((w.alloc (Obj.cells #[.string a0] 9)).alloc (Obj.cells #[.string a1] 9)).heap.size = B + 1 + 1 by rw [← hB];simp] at e2
  rw [hB] at e0
  have eS : B + 3 ≤ (((w.alloc (.cells #[.string a0] 9)).alloc (.cells #[.string a1] 9)).alloc (.cells #[.string (⟨#[]⟩ : ByteArray),.string (⟨#[]⟩ : ByteArray),.int .i64 0,.int .i64 0] 45)).heap.size := by rw [← hB];simp
  have HR := Aside0.mk (Kd.C_below hr (show Below w.heap.size w _ by rw [hB];exact eB))
  have E0 := Aside0.mk e0
  have E1 := Aside0.mk e1
  have E2 := Aside0.mk e2
  have EB := Aside0.mk eB
  have ES := Aside0.mk eS
  have HB0 := Aside0.mk hB
  have HC := Aside0.mk hc
  clear hr hc e0 e1 e2 eB eS
  go_enter Try.func55,Try.ntmps55
  go_wp2_with (fail)
  clear hB
  change Calls Try.prog 83 _ (((w.alloc (.cells #[.string a0] 9)).alloc (.cells #[.string a1] 9)).alloc (.cells #[.string (⟨#[]⟩ : ByteArray),.string (⟨#[]⟩ : ByteArray),.int .i64 0,.int .i64 0] 45)) _
  generalize ((w.alloc (.cells #[.string a0] 9)).alloc (.cells #[.string a1] 9)).alloc (.cells #[.string (⟨#[]⟩ : ByteArray),.string (⟨#[]⟩ : ByteArray),.int .i64 0,.int .i64 0] 45) = W3 at *
  refine (index_func a0 a1 A c l B (B + 1) W3 E0.out E1.out HR.out HC.out hl).mono ?_
  rintro e w1 ⟨r,rfl,hf,hb⟩
  have E3 := Aside0.mk (blk_below E2.out hb)
  have HR1 := Aside0.mk (Kd.C_below HR.out hb)
  have EB1 := Aside0.mk (EB.out.trans (hb.mono (by have := ES.out;omega)))
  have z0 := blk_frozen E3.out 0
  have z1 := blk_frozen E3.out 1
  have z2 := blk_frozen E3.out 2
  have z3 := blk_frozen E3.out 3
  have c0 := blk_cell E3.out 0
  have c1 := blk_cell E3.out 1
  have c2 := blk_cell E3.out 2
  have c3 := blk_cell E3.out 3
  simp only [List.getElem?_toArray,List.getElem?_cons_zero,List.getElem?_cons_succ] at c0 c1 c2 c3
  rcases hf with ⟨rfl,hn⟩ | ⟨j,hj,rfl,hy,hn⟩
  · have HF := Aside0.mk (found_none hn)
    clear hn hb HR HR1 E0 E1 E2 EB ES
    go_wp2_with (fail)
    refine bodyPost_ret (results_ct rfl _ _ (B + 1 + 1) 45 #[.string (⟨#[]⟩ : ByteArray),.string (⟨#[]⟩ : ByteArray),.int .i64 0,.int .i64 0] (0,0) _ rfl (by (with_reducible repeat (first | refine blk_drewN ?_ _ | refine blk_drew ?_ | refine blk_alloc ?_ _));refine blk_put (cs := #[.string (⟨#[]⟩ : ByteArray),.string (⟨#[]⟩ : ByteArray),.int .i64 0,.int .i64 0]) ?_ 3 _ rfl;refine blk_put (cs := #[.string (⟨#[]⟩ : ByteArray),.string (⟨#[]⟩ : ByteArray),.int .i64 0,.int .i64 0]) ?_ 2 _ rfl;refine blk_put (cs := #[.string (⟨#[]⟩ : ByteArray),.string (⟨#[]⟩ : ByteArray),.int .i64 0,.int .i64 0]) ?_ 1 _ rfl;refine blk_put (cs := #[.string (⟨#[]⟩ : ByteArray),.string (⟨#[]⟩ : ByteArray),.int .i64 0,.int .i64 0]) ?_ 0 _ rfl;exact E3.out) Try.underlying45 rfl (by kernel_rfl)) rfl ?_
    exact ⟨by rw [HF.out];rfl,by rw [HB0.out];exact (((EB1.out.setCell (by show B ≤ B + 1 + 1;omega) _).setCell (by show B ≤ B + 1 + 1;omega) _).setCell (by show B ≤ B + 1 + 1;omega) _).setCell (by show B ≤ B + 1 + 1;omega) _⟩
  · have HF := Aside0.mk (found_some hj hy hn)
    obtain ⟨ad,e,x0,x1,x2,x3⟩ := at_T45 HR1.out (j : Int) (by omega) (by omega)
    cases e
    simp only [Int.toNat_natCast] at x0 x1 x2 x3
    clear hn hb hy HR HR1 E0 E1 E2 EB ES
    generalize rd_T45 l (j : Int) = u at *
    go_wp2_with (fail)
    refine bodyPost_ret (results_ct rfl _ _ (B + 1 + 1) 45 #[.string u.f0,.string u.f1,.int .i64 u.f2,.int .i64 u.f3] (0,0) _ rfl (by refine blk_put (cs := #[.string u.f0,.string u.f1,.int .i64 u.f2,.int .i64 0]) ?_ 3 _ rfl;refine blk_put (cs := #[.string u.f0,.string u.f1,.int .i64 0,.int .i64 0]) ?_ 2 _ rfl;refine blk_put (cs := #[.string u.f0,.string (⟨#[]⟩ : ByteArray),.int .i64 0,.int .i64 0]) ?_ 1 _ rfl;refine blk_put (cs := #[.string (⟨#[]⟩ : ByteArray),.string (⟨#[]⟩ : ByteArray),.int .i64 0,.int .i64 0]) ?_ 0 _ rfl;exact E3.out) Try.underlying45 rfl (by kernel_rfl)) rfl ?_
    exact ⟨by rw [HF.out];rfl,by rw [HB0.out];exact (((EB1.out.setCell (by show B ≤ B + 1 + 1;omega) _).setCell (by show B ≤ B + 1 + 1;omega) _).setCell (by show B ≤ B + 1 + 1;omega) _).setCell (by show B ≤ B + 1 + 1;omega) _⟩
theorem usage_Find.calls (a0 : ByteArray) (a1 : ByteArray) (A2 : Option Addr) (c2 : Nat) (l2 : List (S45)) (r1 : ByteArray) (r2 : ByteArray) (r3 : Int) (r4 : Int) (r5 : Bool) (w : World) (hr2 : Kd.C k45 w A2 l2.length l2) (hc2 : l2.length ≤ c2) (h : usage_Find.f a0 a1 l2 = some (r1,r2,r3,r4,r5)) :
    Calls Try.prog 55 #[.string a0,.string a1,.slice A2 l2.length c2] w fun e w' => e = .returned (.tuple #[.agg #[.string r1,.string r2,.int .i64 r3,.int .i64 r4],.bool r5]) ∧ Below w.heap.size w w' := by
  unfold usage_Find.f at h
  by_cases hl : l2.length ≤ 1000000
  · rw [if_pos hl] at h
    have e := Option.some.inj h
    have := usage_find a0 a1 A2 c2 l2 w hr2 hc2 hl
    rw [e] at this
    exact this
  · rw [if_neg hl] at h
    exact absurd h (by simp)
end Go.Proofs.Ytcenlehfbgnphaa.Z
end
section
namespace Go.Proofs.Ytcenlehfbgnphaa.Z
open Go.RowKit Go.Proofs.YtcenlehfbgnphaaW.PrintWords Go.Proofs.YtcenlehfbgnphaaW.PrintLast Go.Proofs.YtcenlehfbgnphaaW.PrintMore
attribute [local go_sem] max2_int min2_int max_two min_two max_three min_three max_four min_four
set_option linter.unusedVariables false
set_option linter.unusedSimpArgs false
def verdererlaw27_row.f (a0 : ByteArray) (a1 : Int) : Option ((List (S85)) × Int) := some ((([(⟨3,false,0,a0⟩ : S85),(⟨2,false,a1,(⟨#[]⟩ : ByteArray)⟩ : S85)] : List (S85))),1)
set_option maxHeartbeats 8000000 in
set_option maxRecDepth 100000 in
theorem verdererlaw27_row.calls (a0 : ByteArray) (a1 : Int) (r1 : List (S85)) (r2 : Int) (w : World) (h : verdererlaw27_row.f a0 a1 = some (r1,r2)) :
    Calls Try.prog 82 #[.string a0,.int .i64 a1] w fun e w' => ∃ v0_ : Value,e = .returned (.agg #[v0_,.int .i64 r2]) ∧ Kd.R k85 85 w' w.heap.size (fun _ => True) v0_ r1 ∧ Below w.heap.size w w' := by
  have hu83 := Try.underlying83
  have hu85 := Try.underlying85
  have HB := Aside0.mk (Below.refl w.heap.size w)
  have H : (some ((([(⟨3,false,0,a0⟩ : S85),(⟨2,false,a1,(⟨#[]⟩ : ByteArray)⟩ : S85)] : List (S85))),1)) = some (r1,r2) := h
  clear h
  obtain ⟨y476,hy476⟩ : ∃ y_ : List (S85),y_ = (([(⟨3,false,0,a0⟩ : S85),(⟨2,false,a1,(⟨#[]⟩ : ByteArray)⟩ : S85)] : List (S85))) := ⟨_,rfl⟩
  replace H : (some (y476,1)) = some (r1,r2) := by first | (rw [hy476];with_reducible exact H) | (have H2_ := (Option.bind_some _ _).symm.trans H;rw [hy476];with_reducible exact H2_) | (have H2_ := (Option.bind_some _ _).symm.trans H;with_reducible exact H2_) | with_reducible exact H | (rw [hy476];exact H) | exact H
  have Ny476 := Aside0.mk hy476
  clear hy476
  simp only [Option.some.injEq,Prod.mk.injEq] at H
  obtain ⟨rfl,rfl⟩ := H
  go_enter Try.func82,Try.ntmps82
  go_wp2_with (first | ((with_reducible refine gate_dst (N := 4) rfl ?_);refine box_event ?hg (N := 4) ?hd (cs := #[.slice none 0 0,.int .i64 0]) (t := 83) ?hr ?_;(case hd => rfl);(case hg => rfl);(case hr => first | (go_simp;done) | (go_simp;rfl));intro gb475 hg w3 hbox hb;have n0_ := Aside0.mk (below_step (by repeat (first | (with_reducible first | exact HB.out | apply below_alloc | apply pw_below_drewN | apply below_drew1) | exact HB.out)) hb);have n1_ := Aside0.mk (hbox);have n2_ := Aside0.mk ((by rw [hg];exact (below_size (by repeat (first | (with_reducible first | exact HB.out | apply below_alloc | apply pw_below_drewN | apply below_drew1) | exact HB.out))) : w.heap.size ≤ gb475));have n3_ := Aside0.mk ((by rw [hg];exact (below_size (by repeat (first | (with_reducible first | exact HB.out | apply below_alloc | apply pw_below_drewN | apply below_drew1) | exact HB.out))) : w.heap.size ≤ gb475));clear HB;have HB := n0_;have BK475 := n1_;have GW475 := n2_;have GE475 := n3_;clear n0_ n1_ n2_ n3_;clear hb hbox hg) | ((with_reducible refine gate_dst (N := 9) rfl ?_);refine Kd.R_lit k85 _ 85 ?hg (N := 9) ?hd (xs := ([(⟨3,false,0,a0⟩ : S85),(⟨2,false,a1,(⟨#[]⟩ : ByteArray)⟩ : S85)] : List (S85))) (inner := [.int .i64 3,.bool false,.int .i64 0,.string a0,.int .i64 2,.bool false,.int .i64 a1,.string (⟨#[]⟩ : ByteArray)]) (ok := fun _ => True) (okp := fun _ => True) ?hr ?hp (fun _ hk => hk) trivial (Below.refl _ _) (Nat.le_refl _) (by simp) ?_;(case hd => rfl);(case hg => rfl);(case hr => first | (go_simp;done) | (go_simp;rfl));(case hp => exact (Reps.c4 (show Kd.M k85 _ _ _ (⟨3,false,0,a0⟩ : S85) [.int .i64 3,.bool false,.int .i64 0,.string a0] from (k85_mkM _ _ _ (⟨3,false,0,a0⟩ : S85) )) (Reps.c4 (show Kd.M k85 _ _ _ (⟨2,false,a1,(⟨#[]⟩ : ByteArray)⟩ : S85) [.int .i64 2,.bool false,.int .i64 a1,.string (⟨#[]⟩ : ByteArray)] from (k85_mkM _ _ _ (⟨2,false,a1,(⟨#[]⟩ : ByteArray)⟩ : S85) )) (Reps.none _ _))));intro v477 w4 ho5 hb hg_ hnew_;clear hg_ hnew_;(first | rw [← Ny476.out] at ho5 | (simp only [Int.reduceToNat] at ho5;rw [← Ny476.out] at ho5));have n0_ := Aside0.mk (Kd.R_lower ho5 (below_size (by repeat (first | (with_reducible first | exact HB.out | apply below_alloc | apply pw_below_drewN | apply below_drew1 | refine below_set ?_ GE475.out) | exact HB.out))));have n1_ := Aside0.mk (blk_below (g := gb475) (o := .cells #[.slice none 0 0,.int .i64 0] 83 (0,0)) (by (with_reducible repeat (first | refine blk_drewN ?_ _ | refine blk_drew ?_ | refine blk_alloc ?_ _));exact BK475.out) hb);have n2_ := Aside0.mk (below_step (by repeat (first | (with_reducible first | exact HB.out | apply below_alloc | apply pw_below_drewN | apply below_drew1 | refine below_set ?_ GE475.out) | exact HB.out)) hb);clear BK475;clear HB;have HO478 := n0_;have BK475 := n1_;have HB := n2_;clear n0_ n1_ n2_;clear hb ho5;obtain ⟨Ao6,co6,eo6⟩ := Kd.R_slice HO478.out;subst eo6;have hcz7_0 : w4.cell? ⟨gb475,0,none⟩ = some (.slice none 0 0) := (blk_cell BK475.out 0).trans rfl;have hcz7_1 : w4.cell? ⟨gb475,1,none⟩ = some (.int .i64 0) := (blk_cell BK475.out 1).trans rfl;have hfz7_0 := blk_frozen BK475.out 0;have hfz7_1 := blk_frozen BK475.out 1))
  refine bodyPost_ret (results_cell_row rfl _ _ gb475 83 #[.slice Ao6 y476.length co6,.int .i64 1] (0,0) _ rfl (by (with_reducible repeat (first | refine blk_drewN ?_ _ | refine blk_drew ?_ | refine blk_alloc ?_ _));refine blk_put (cs := #[.slice Ao6 y476.length co6,.int .i64 0]) ?_ 1 _ rfl;(with_reducible repeat (first | refine blk_drewN ?_ _ | refine blk_drew ?_ | refine blk_alloc ?_ _));refine blk_put (cs := #[.slice none 0 0,.int .i64 0]) ?_ 0 _ rfl;(with_reducible repeat (first | refine blk_drewN ?_ _ | refine blk_drew ?_ | refine blk_alloc ?_ _));exact BK475.out) Try.underlying83 rfl (by kernel_rfl)) rfl ?_
  exact ⟨_,by first | rfl | (simp [errW_none,errW_some] <;> rfl) | (simp [*,errW_none,errW_some] <;> rfl),by (with_reducible repeat (first | apply Kd.R_alloc | apply Kd.R_drewN | apply Kd.R_drew));exact Kd.R_mono (Kd.R_far (p := ⟨gb475,1,none⟩) (Kd.R_far (p := ⟨gb475,0,none⟩) (Kd.R_types HO478.out BK475.out (by decide)) (fun _ hk => hk.2) (.slice Ao6 y476.length co6)) (fun _ hk => hk.2) (.int .i64 1)) (fun _ hk => trivial),by repeat (first | (with_reducible first | exact HB.out | apply below_alloc | apply pw_below_drewN | apply below_drew1 | refine below_set ?_ GE475.out) | exact HB.out)⟩
end Go.Proofs.Ytcenlehfbgnphaa.Z
end
section
namespace Go.Proofs.Ytcenlehfbgnphaa.Z
set_option linter.unusedVariables false
set_option linter.unusedSimpArgs false
open Go.RowKit Go.Shelf Go.Maps Go.Proofs.YtcenlehfbgnphaaW.PrintWords Go.Proofs.YtcenlehfbgnphaaW.PrintLast Go.Proofs.YtcenlehfbgnphaaW.PrintMore Go.Proofs.Ytcenlehfbgnphaa.Cmp
def sq : Nm := ⟨#[113]⟩
def rowA : List S85 := [⟨3,false,0,sa⟩,⟨2,false,2,emp⟩]
def rowB : List S85 := [⟨3,false,0,sb⟩,⟨2,false,3,emp⟩]
def enK : List En := [⟨rowA,1⟩,⟨rowB,1⟩]
theorem row_A : verdererlaw27_row.f sa 2 = some (rowA,1) := by kernel_rfl
theorem row_B : verdererlaw27_row.f sb 3 = some (rowB,1) := by kernel_rfl
theorem num_K : NumE enK := by
  intro e he x hx
  simp only [enK,List.mem_cons,List.not_mem_nil,or_false] at he
  rcases he with rfl | rfl
  · simp only [rowA,List.mem_cons,List.not_mem_nil,or_false] at hx
    rcases hx with rfl | rfl <;> exact ⟨by decide,by decide⟩
  · simp only [rowB,List.mem_cons,List.not_mem_nil,or_false] at hx
    rcases hx with rfl | rfl <;> exact ⟨by decide,by decide⟩
def usK : List Us := [⟨sq,sa,5,9⟩,⟨sq,sb,3,9⟩]
theorem code_K : ofCode enK [(sa,emp),(sb,sa)] [(sa,emp),(sb,sa)] = 0 := by kernel_rfl
theorem us_K : ([(sa,emp),(sb,sa)] : List Tn).map (useX enK [(sa,emp),(sb,sa)] sq 9) = usK := by kernel_rfl
theorem find_K : usage_Find.f sq sb usK = some (sq,sb,3,9,true) := by kernel_rfl
theorem two_en {w : World} {g : Nat} {A0 A1 : Option Addr} {c0 c1 : Nat} (h : w.heap[g]? = some (.cells #[.slice A0 2 c0,.int .i64 1,.slice A1 2 c1,.int .i64 1] 83 (0,0)))
    (h0 : Kd.C k85 w A0 2 rowA) (k0 : 2 ≤ c0) (h1 : Kd.C k85 w A1 2 rowB) (k1 : 2 ≤ c1) : Kd.C k83 w (some ⟨g,0,none⟩) 2 enK :=
  ⟨rfl,by omega,fun _ => ⟨_,rfl,fun j p hj => by
    match j,hj with
    | 0,hj =>
      simp only [enK,List.getElem?_cons_zero,Option.some.injEq] at hj
      subst hj
      refine ⟨[.slice A0 2 c0,.int .i64 1],rfl,k83_mk w ⟨rowA,1⟩ k0 h0,fun i u hu => ?_⟩
      rw [Addr.add_lit,show 0 + (0 * k83.sz + i) = i by omega]
      match i,hu with
      | 0,hu => rw [blk_cell h 0];exact hu
      | 1,hu => rw [blk_cell h 1];exact hu
    | 1,hj =>
      simp only [enK,List.getElem?_cons_succ,List.getElem?_cons_zero,Option.some.injEq] at hj
      subst hj
      refine ⟨[.slice A1 2 c1,.int .i64 1],rfl,k83_mk w ⟨rowB,1⟩ k1 h1,fun i u hu => ?_⟩
      rw [Addr.add_lit,show 0 + (1 * k83.sz + i) = 2 + i by show 0 + (1 * 2 + i) = 2 + i;omega]
      match i,hu with
      | 0,hu => rw [blk_cell h 2];exact hu
      | 1,hu => rw [blk_cell h 3];exact hu⟩⟩
set_option maxHeartbeats 8000000 in
set_option maxRecDepth 100000 in
theorem known27 (w : World) : Calls Try.prog 54 #[] w fun e w' => e = .returned (.bool true) ∧ Below w.heap.size w w' := by
  have hu := Try.underlying45
  go_enter Try.func54,Try.ntmps54
  go_wp2_with (fail)
  refine (ten_new w).mono ?_
  rintro e w1 ⟨t,b,rfl,hA,hB,ht,hb⟩
  have A1 := Aside0.mk hA
  have N1 := Aside0.mk (NextW.mk hB hB.size)
  have HB := Aside0.mk hb
  clear hA hB
  go_wp2_with (fail)
  refine (ten_add A1.out Ok.nil sa emp (by decide) (by decide)).mono ?_
  rintro e w2 ⟨rfl,hA,hg⟩
  rw [kn1] at hA ⊢
  have A2 := Aside0.mk hA
  have N2 := Aside0.mk (show NextW w.heap.size w w2 from ⟨N1.out.below.grown hg N1.out.le (fun k e => by cases e;exact HB.out),Nat.le_trans N1.out.le hg.size⟩)
  clear hA hg A1 N1
  go_wp2_with (fail)
  refine (ten_add A2.out ok1 sb sa (by decide) (by decide)).mono ?_
  rintro e w3 ⟨rfl,hA,hg⟩
  rw [kn2] at hA ⊢
  have A3 := Aside0.mk hA
  have N3 := Aside0.mk (show NextW w.heap.size w w3 from ⟨N2.out.below.grown hg N2.out.le (fun k e => by cases e;exact HB.out),Nat.le_trans N2.out.le hg.size⟩)
  clear hA hg A2 N2
  go_wp2_with (fail)
  refine (verdererlaw27_row.calls sa 2 rowA 1 w3 row_A).mono ?_
  rintro e w4 ⟨v4,rfl,hR,hb4⟩
  obtain ⟨Aa,ca,rfl⟩ := Kd.R_slice hR
  obtain ⟨_,hca,hCa⟩ := Kd.R_reads' hR
  have CA := Aside0.mk hCa
  have KA := Aside0.mk hca
  have A4 := Aside0.mk (A3.out.below hb4)
  have N4 := Aside0.mk (N3.out.next hb4)
  clear hR hCa hca hb4 A3 N3
  rw [show rowA.length = 2 from rfl] at *
  go_wp2_with (fail)
  refine (verdererlaw27_row.calls sb 3 rowB 1 w4 row_B).mono ?_
  rintro e w5 ⟨v5,rfl,hR,hb5⟩
  obtain ⟨Ab,cb,rfl⟩ := Kd.R_slice hR
  obtain ⟨_,hcb,hCb⟩ := Kd.R_reads' hR
  rw [show rowB.length = 2 from rfl] at *
  have hbx : Below w5.heap.size w5 (w5.alloc (.cells #[.slice Aa 2 ca,.int .i64 1,.slice Ab 2 cb,.int .i64 1] 83)) := below_alloc (Below.refl _ _) _
  have A5 := Aside0.mk ((A4.out.below hb5).below hbx)
  have N5 := Aside0.mk ((N4.out.next hb5).next hbx)
  have CE := Aside0.mk (two_en (blk_new w5 (.cells #[.slice Aa 2 ca,.int .i64 1,.slice Ab 2 cb,.int .i64 1] 83)) (Kd.C_below (Kd.C_below CA.out hb5) hbx) KA.out (Kd.C_below hCb hbx) hcb)
  obtain ⟨g,hg⟩ : ∃ g,w5.heap.size = g := ⟨_,rfl⟩
  clear hR hCb hcb hb5 hbx A4 N4 CA KA
  go_wp2_with (fail)
  rw [hg] at CE
  clear hg
  generalize w5.alloc (.cells #[.slice Aa 2 ca,.int .i64 1,.slice Ab 2 cb,.int .i64 1] 83) = w6 at *
  refine (use_of A5.out ok2 sq 9 (A := some ⟨g,0,none⟩) (c := 2) (l := enK) CE.out (Nat.le_refl 2) num_K).mono ?_
  rintro e w7 ⟨v7,rfl,h0,_,hb7⟩
  have hV := h0 code_K
  rw [us_K] at hV
  rw [code_K]
  obtain ⟨Au,cu,rfl,hcu,hCu⟩ := Kd.N_reads hV
  rw [show usK.length = 2 from rfl] at *
  have CU := Aside0.mk hCu
  have KU := Aside0.mk hcu
  have N7 := Aside0.mk (N5.out.next hb7)
  clear h0 hV hCu hcu hb7 A5 N5 CE
  go_wp2_with (fail)
  refine (use_of0 sq 9 none 0 0 w7).mono ?_
  rintro e w8 ⟨rfl,rfl⟩
  go_wp2_with (fail)
  rename_i w7
  refine (usage_Find.calls sq sb Au cu usK sq sb 3 9 true _ CU.out KU.out find_K).mono ?_
  rintro e w9 ⟨rfl,hb9⟩
  have hbx : Below w9.heap.size w9 (w9.alloc (.cells #[.string sq,.string sb,.int .i64 3,.int .i64 9] 45)) := below_alloc (Below.refl _ _) _
  have N9 := Aside0.mk ((N7.out.next hb9).next hbx)
  obtain ⟨ad,hA,d0,d1,d2,d3⟩ := at_T45 (Kd.C_below (Kd.C_below CU.out hb9) hbx) 0 (by decide) (by decide)
  subst hA
  have BX := Aside0.mk (blk_new w9 (.cells #[.string sq,.string sb,.int .i64 3,.int .i64 9] 45))
  rw [show (0 : Int).toNat * 4 = 0 from rfl] at d0 d1 d2 d3
  rw [show (rd_T45 usK 0).f2 = 5 from rfl] at d2
  rw [show ad.add 0 = ad from by unfold Addr.add;first | rfl | simp] at d2
  have y2 := (blk_cell BX.out 2).trans rfl
  have y3 := (blk_cell BX.out 3).trans rfl
  clear hb9 hbx d0 d1 d3
  go_wp2_with (fail)
  go_ret
  exact ⟨rfl,N9.out.below⟩
end Go.Proofs.Ytcenlehfbgnphaa.Z
end
section
namespace Go.Proofs.Ytcenlehfbgnphaa.Z
set_option linter.unusedVariables false
set_option linter.unusedSimpArgs false
open Go.RowKit Go.Shelf Go.Maps Go.Proofs.YtcenlehfbgnphaaW.PrintWords Go.Proofs.YtcenlehfbgnphaaW.PrintLast Go.Proofs.YtcenlehfbgnphaaW.PrintMore Go.Proofs.Ytcenlehfbgnphaa.Cmp
def smallE (e : En) : Prop := e.f0.length = 2 → -1099511627776 ≤ (rd_T85 e.f0 1).f2 ∧ (rd_T85 e.f0 1).f2 ≤ 1099511627776
theorem own_small {l : List En} (h : ∀ e ∈ l,smallE e) (n : Nm) : -1099511627776 ≤ (ownL n l).1 ∧ (ownL n l).1 ≤ 1099511627776 := by
  induction l with
  | nil => show (-1099511627776 : Int) ≤ 0 ∧ (0 : Int) ≤ 1099511627776;omega
  | cons e r ih =>
    show -1099511627776 ≤ (if ownHit n e then ((rd_T85 e.f0 1).f2,true) else ownL n r).1 ∧ (if ownHit n e then ((rd_T85 e.f0 1).f2,true) else ownL n r).1 ≤ 1099511627776
    by_cases hh : ownHit n e = true
    · rw [if_pos hh]
      unfold ownHit at hh
      simp only [Bool.and_eq_true,decide_eq_true_eq] at hh
      exact h e List.mem_cons_self hh.1.1
    · rw [if_neg hh]
      exact ih (fun x hx => h x (List.mem_cons_of_mem _ hx))
theorem sumT_small {l : List En} (h : ∀ e ∈ l,smallE e) : ∀ U : List Nm,-(U.length * 1099511627776 : Int) ≤ sumT l U ∧ sumT l U ≤ U.length * 1099511627776
  | [] => ⟨by show -((0 : Nat) * 1099511627776 : Int) ≤ 0;omega,by show (0 : Int) ≤ (0 : Nat) * 1099511627776;omega⟩
  | x :: r => by
    have h1 := sumT_small h r
    obtain ⟨h2,h3⟩ := own_small h x
    rw [List.length_cons]
    show -(((r.length + 1 : Nat) : Int) * 1099511627776) ≤ (ownL x l).1 + sumT l r ∧ (ownL x l).1 + sumT l r ≤ ((r.length + 1 : Nat) : Int) * 1099511627776
    omega
theorem code_all {l : List En} {L : List Tn} : ∀ {K : List Tn},ofCode l L K = 0 → ∀ x ∈ K,(useF l L x.1).2 = 0
  | [],_,x,hx => by cases hx
  | y :: r,h,x,hx => by
    have h' : (if (useF l L y.1).2 = 0 then ofCode l L r else (useF l L y.1).2) = 0 := h
    by_cases h0 : (useF l L y.1).2 = 0
    · rw [if_pos h0] at h'
      rcases List.mem_cons.1 hx with rfl | hx
      · exact h0
      · exact code_all h' x hx
    · rw [if_neg h0] at h'
      exact absurd h' h0
theorem fit_val {S : Int} (h : (fitF S).2 = 0) : (fitF S).1 = S := by
  unfold fitF at h ⊢
  split at h
  · rename_i h1;rw [if_pos h1]
  · cases h
theorem find_use (l : List En) (L0 : List Tn) (rule : Nm) (lim : Int) : ∀ {L : List Tn},(L.map Prod.fst).Nodup → ∀ x ∈ L,useOf ((L.map (useX l L0 rule lim)).find? (hitB rule x.1)) = (rule,x.1,(useF l L0 x.1).1,lim,true)
  | [],_,x,hx => by cases hx
  | y :: r,hn,x,hx => by
    rw [List.map_cons,List.nodup_cons] at hn
    rw [List.map_cons,List.find?_cons]
    by_cases e : y.1 = x.1
    · have h1 : hitB rule x.1 (useX l L0 rule lim y) = true := by
        unfold hitB useX
        rw [e]
        simp
      rw [h1]
      show (rule,y.1,(useF l L0 y.1).1,lim,true) = _
      rw [e]
    · have h1 : hitB rule x.1 (useX l L0 rule lim y) = false := by
        unfold hitB useX
        rw [show (ByteArray.toList y.1 == ByteArray.toList x.1) = false by rw [eqS,decide_eq_false e]]
        simp
      rw [h1]
      rcases List.mem_cons.1 hx with rfl | hx
      · exact absurd rfl e
      · exact find_use l L0 rule lim hn.2 x hx
end Go.Proofs.Ytcenlehfbgnphaa.Z
end
section
namespace Go.Proofs.Ytcenlehfbgnphaa.Z
set_option linter.unusedVariables false
set_option linter.unusedSimpArgs false
open Go.RowKit Go.Shelf Go.Maps Go.Proofs.YtcenlehfbgnphaaW.PrintWords Go.Proofs.YtcenlehfbgnphaaW.PrintLast Go.Proofs.YtcenlehfbgnphaaW.PrintMore Go.Proofs.Ytcenlehfbgnphaa.Cmp
theorem childS_snoc (l : List En) (L : List Tn) (x : Nm) (k : Tn) : ∀ K : List Tn,childS l L x (K ++ [k]) = childS l L x K + (if k.2 = x then sumT l (undL L k.1) else 0)
  | [] => by show (if k.2 = x then sumT l (undL L k.1) else 0) + (0 : Int) = 0 + _;omega
  | q :: r => by
    show (if q.2 = x then sumT l (undL L q.1) else 0) + childS l L x (r ++ [k]) = (if q.2 = x then sumT l (undL L q.1) else 0) + childS l L x r + _
    rw [childS_snoc l L x k r]
    omega
theorem childS_bd {l : List En} (h : ∀ e ∈ l,smallE e) {L : List Tn} (hL : L.length ≤ 24) (x : Nm) : ∀ K : List Tn,-(K.length * 26388279066624 : Int) ≤ childS l L x K ∧ childS l L x K ≤ K.length * 26388279066624
  | [] => ⟨by show -((0 : Nat) * 26388279066624 : Int) ≤ 0;omega,by show (0 : Int) ≤ (0 : Nat) * 26388279066624;omega⟩
  | k :: r => by
    have h1 := childS_bd h hL x r
    have h2 := sumT_small h (undL L k.1)
    have h3 := und_lenL L k.1
    rw [List.length_cons]
    show -(((r.length + 1 : Nat) : Int) * 26388279066624) ≤ (if k.2 = x then sumT l (undL L k.1) else 0) + childS l L x r ∧ (if k.2 = x then sumT l (undL L k.1) else 0) + childS l L x r ≤ ((r.length + 1 : Nat) : Int) * 26388279066624
    split <;> omega
theorem find_call {A : Option Addr} {c : Nat} {l : List En} {L : List Tn} {x : Tn} {w : World} {u : Int} (hn : (L.map Prod.fst).Nodup) (hx : x ∈ L) (hC : Kd.C kUs w A L.length (L.map (useX l L sq 0))) (hc : L.length ≤ c) (hL : L.length ≤ 24) (hu : (useF l L x.1).1 = u) :
    Calls Try.prog 55 #[.string sq,.string x.1,.slice A L.length c] w fun e w' => e = .returned (.tuple #[.agg #[.string sq,.string x.1,.int .i64 u,.int .i64 0],.bool true]) ∧ Below w.heap.size w w' := by
  have hl : (L.map (useX l L sq 0)).length = L.length := List.length_map _
  have h := usage_Find.calls sq x.1 A c (L.map (useX l L sq 0)) sq x.1 u 0 true w (by rw [hl];exact hC) (by rw [hl];exact hc) (by
    unfold usage_Find.f
    rw [if_pos (by rw [hl];omega),find_use l L sq 0 hn x hx,hu])
  rw [hl] at h
  exact h
set_option maxHeartbeats 8000000 in
set_option maxRecDepth 100000 in
theorem usage_sums (A : Option Addr) (n c : Nat) (acts : List Act9) (A2 : Option Addr) (c2 : Nat) (l : List En) (w : World) (hC : Kd.C kAct w A n acts) (hG : ∀ x ∈ acts,GAct x) (hE : Kd.C k83 w A2 l.length l) (hc2 : l.length ≤ c2) (hN : NumE l) :
    Calls Try.prog 14 #[.slice A n c,.slice A2 l.length c2] w fun e w' => e = .returned (.bool true) ∧ Below w.heap.size w w' := by
  have hu := Try.underlying45
  have HE := Aside0.mk hE
  have HK := Aside0.mk hc2
  have HN := Aside0.mk hN
  have TR := Aside0.mk (use_trees A n c acts w hC hG)
  by_cases hl : l.length ≤ 60
  · have k0 : decide ((60 : Int) < (l.length : Int)) = false := decide_eq_false (by omega)
    obtain ⟨LL,hLL⟩ : ∃ LL,l.length = LL := ⟨_,rfl⟩
    have HLL := Aside0.mk hLL
    rw [hLL] at k0 hl ⊢
    clear hC hG hE hc2 hN hLL
    go_enter Try.func14,Try.ntmps14
    go_wp2_with (fail)
    refine TR.out.mono ?_
    rintro e w1 ⟨t,b,r,v,L,rfl,hA,hR,hO,hb,hB⟩
    have A1 := Aside0.mk hA
    have R1 := Aside0.mk hR
    have HO := Aside0.mk hO
    have N1 := Aside0.mk (NextW.mk hB hB.size)
    have L24 := hO.len
    have HNM := Aside0.mk hA.names
    obtain ⟨Ar,cr,rfl,_⟩ := hR.rc
    have OF := Aside0.mk (use_of (w := w1) hA hO sq 0 (Kd.C_below HE.out hB) HK.out HN.out)
    obtain ⟨code,hcode⟩ : ∃ code,ofCode l L L = code := ⟨_,rfl⟩
    have HCODE := Aside0.mk hcode
    rw [hcode,HLL.out] at OF
    clear hA hR hO hb hB hcode TR
    go_wp2_with (fail)
    refine OF.out.mono ?_
    rintro e w2 ⟨v2,rfl,h0,h1,hb2⟩
    have R2 := Aside0.mk (R1.out.below hb2)
    have N2 := Aside0.mk (N1.out.next hb2)
    clear hb2 OF R1 N1 A1
    by_cases hz : code = 0
    · have q0 : (code != 0) = false := by rw [hz];rfl
      have hU := h0 hz
      obtain ⟨Au,cu,rfl,hcu,hCu⟩ := Kd.N_reads hU
      rw [List.length_map] at hcu hCu ⊢
      have CU := Aside0.mk hCu
      have KU := Aside0.mk hcu
      have HZ := Aside0.mk hz
      have FA := Aside0.mk (code_all (HCODE.out.trans hz))
      clear h0 h1 hz hU hCu hcu
      have E2 := Aside0.mk (Kd.C_below HE.out N2.out.below)
      go_wp2_with (fail)
      go_loopw [9] (fun iv wr => ∃ i : Nat,iv = .int .i64 (i : Int) ∧ i ≤ LL ∧ Aside0 (∀ e ∈ l.take i,smallE e) ∧ wr = w2) (fun iv _ => LL - (intOf iv).toNat)
      case atStart => exact ⟨0,rfl,Nat.zero_le _,⟨fun e he => by cases he⟩,rfl⟩
      case round =>
        obtain ⟨i,rfl,hi,HS,rfl⟩ := hrel
        rename World => w2
        by_cases hlt : i < LL
        · have k1 : decide ((i : Int) < (LL : Int)) = true := decide_eq_true (by omega)
          obtain ⟨x,hx⟩ : ∃ x,l[i]? = some x := ⟨l[i]'(by rw [HLL.out];exact hlt),List.getElem?_eq_getElem _⟩
          obtain ⟨ad,A0,c0,rfl,d0,d1,d2,d3⟩ := at_T83 E2.out (i : Int) (by omega) (by rw [HLL.out];omega)
          have e0 : rd_T83 l (i : Int) = x := by
            unfold rd_T83
            rw [Int.toNat_natCast,List.getD_eq_getElem?_getD,hx]
            rfl
          rw [e0] at d0 d1 d2 d3
          rw [Int.toNat_natCast] at d0 d1
          have TK := Aside0.mk (show l.take (i + 1) = l.take i ++ [x] by rw [List.take_add_one,hx];rfl)
          have p0 : (0 : Int) ≤ (i : Int) := by omega
          have p1 : (i : Int) < (LL : Int) := by omega
          have SM := Aside0.mk (fun hsm : smallE x => show ∀ e ∈ l.take (i + 1),smallE e from fun e he => by
            rw [TK.out] at he
            rcases List.mem_append.1 he with he | he
            · exact HS.out e he
            · rw [List.mem_singleton.1 he];exact hsm)
          clear hx e0
          by_cases h2 : x.f0.length = 2
          · obtain ⟨ae,rfl,_,_,f2,_⟩ := at_T85 d3 1 (by omega) (by omega)
            rw [h2] at d0
            rw [show ((1 : Int).toNat) * 4 = 4 from rfl,add_block,show (ae.add 4).off = ae.off + 4 from by simp [Addr.add]] at f2
            obtain ⟨y,hy⟩ : ∃ y,(rd_T85 x.f0 1).f2 = y := ⟨_,rfl⟩
            rw [hy] at f2
            by_cases hy1 : (1099511627776 : Int) < y
            · have s1 : decide ((1099511627776 : Int) < y) = true := decide_eq_true hy1
              go_wp2_with (fail)
              refine (known27 _).mono ?_
              rintro e w4 ⟨rfl,hb⟩
              have N4 := Aside0.mk (N2.out.next hb)
              clear hb
              go_wp2_with (fail)
              go_ret
              exact ⟨rfl,N4.out.below⟩
            · by_cases hy2 : y < -1099511627776
              · have s1 : decide ((1099511627776 : Int) < y) = false := decide_eq_false hy1
                have s2 : decide (y < -1099511627776) = true := decide_eq_true hy2
                go_wp2_with (fail)
                refine (known27 _).mono ?_
                rintro e w4 ⟨rfl,hb⟩
                have N4 := Aside0.mk (N2.out.next hb)
                clear hb
                go_wp2_with (fail)
                go_ret
                exact ⟨rfl,N4.out.below⟩
              · have s1 : decide ((1099511627776 : Int) < y) = false := decide_eq_false hy1
                have s2 : decide (y < -1099511627776) = false := decide_eq_false hy2
                have S3 := Aside0.mk (SM.out (fun _ => by rw [hy];omega))
                go_wp2_with (fail)
                go_roundw
                case rel => exact ⟨i + 1,by go_num,by omega,S3,by trivial⟩
                case measure => simp [intOf];omega
          · have s0 : ((x.f0.length : Int) == 2) = false := by rw [beq_eq_false_iff_ne];omega
            have s0' : (x.f0.length == 2) = false := by rw [beq_eq_false_iff_ne];exact h2
            have S3 := Aside0.mk (SM.out (fun h => absurd h h2))
            go_wp2_with (fail)
            go_roundw
            case rel => exact ⟨i + 1,by go_num,by omega,S3,by trivial⟩
            case measure => simp [intOf];omega
        · have k1 : decide ((i : Int) < (LL : Int)) = false := decide_eq_false (by omega)
          have SA := Aside0.mk (show ∀ e ∈ l,smallE e by
            have := HS.out
            rw [List.take_of_length_le (by rw [HLL.out];omega)] at this
            exact this)
          clear HS
          have SA := Aside0.mk SA.out
          have x0 := R2.out.cell
          go_wp2_with (fail)
          go_loopw [10] (fun iv wr => ∃ j : Nat,iv = .int .i64 (j : Int) ∧ j ≤ L.length ∧ Aside0 (NextW w2.heap.size w2 wr)) (fun iv _ => L.length - (intOf iv).toNat)
          case atStart => exact ⟨0,rfl,Nat.zero_le _,⟨NextW.refl _⟩⟩
          case round =>
            rename World => wr
            obtain ⟨j,rfl,hj,NW⟩ := hrel
            have R3 := Aside0.mk (R2.out.below NW.out.below)
            have y0 := R3.out.cell
            by_cases hlt : j < L.length
            · have k2 : decide ((j : Int) < (L.length : Int)) = true := decide_eq_true (by omega)
              obtain ⟨x,hx⟩ : ∃ x,L[j]? = some x := ⟨L[j],List.getElem?_eq_getElem hlt⟩
              have HX := Aside0.mk hx
              obtain ⟨ar,hAr,e0,e1⟩ := R3.out.rca.at_ hx
              have p0 : (0 : Int) ≤ (j : Int) := by omega
              have p1 : (j : Int) < (L.length : Int) := by omega
              have E3 := Aside0.mk (Kd.C_below E2.out NW.out.below)
              have OW := Aside0.mk (use_own (w := wr) E3.out HK.out x.1)
              rw [HLL.out] at OW
              have XM := Aside0.mk (List.mem_of_getElem? hx)
              obtain ⟨o,ho⟩ : ∃ o,ownL x.1 l = o := ⟨_,rfl⟩
              have HOO := Aside0.mk ho
              rw [ho] at OW
              obtain ⟨a,hAa⟩ : ∃ a,Ar = a := ⟨_,rfl⟩
              subst hAr
              clear hx ho hAa
              go_wp2_with (fail)
              refine OW.out.mono ?_
              rintro e w4 ⟨rfl,hb4⟩
              have N4 := Aside0.mk (NW.out.next hb4)
              clear hb4 OW NW R3 E3 y0 e0 e1
              go_wp2_with (fail)
              have R4 := Aside0.mk (R2.out.below N4.out.below)
              go_loopw [11,13] (fun nv kv wr2 => ∃ k : Nat,kv = .int .i64 (k : Int) ∧ k ≤ L.length ∧ nv = .int .i64 (o.1 + childS l L x.1 (L.take k)) ∧ Aside0 (NextW w4.heap.size w4 wr2)) (fun _ kv _ => L.length - (intOf kv).toNat)
              case atStart => exact ⟨0,rfl,Nat.zero_le _,by rw [show childS l L x.1 (L.take 0) = 0 from rfl,Int.add_zero],⟨NextW.refl _⟩⟩
              case round =>
                rename World => wr2
                obtain ⟨k,rfl,hk,rfl,MW⟩ := hrel
                have R5 := Aside0.mk (R4.out.below MW.out.below)
                have y0 := R5.out.cell
                obtain ⟨ar2,hA2,g0,g1⟩ := R5.out.rca.at_ HX.out
                obtain rfl := Option.some.inj hA2
                by_cases hlt3 : k < L.length
                · have k3 : decide ((k : Int) < (L.length : Int)) = true := decide_eq_true (by omega)
                  obtain ⟨z,hz⟩ : ∃ z,L[k]? = some z := ⟨L[k],List.getElem?_eq_getElem hlt3⟩
                  obtain ⟨ar3,hA3,z0,z1⟩ := R5.out.rca.at_ hz
                  obtain rfl := Option.some.inj hA3
                  have r0 : (0 : Int) ≤ (k : Int) := by omega
                  have r1 : (k : Int) < (L.length : Int) := by omega
                  have HZZ := Aside0.mk hz
                  have TK := Aside0.mk (show L.take (k + 1) = L.take k ++ [z] by rw [List.take_add_one,hz];rfl)
                  have CB := childS_bd SA.out L24 x.1 (L.take k)
                  have CBL := List.length_take_le k L
                  have OB := own_small SA.out x.1
                  rw [HOO.out] at OB
                  have ZB := sumT_small SA.out (undL L z.1)
                  have ZL := und_lenL L z.1
                  obtain ⟨s,hs⟩ : ∃ s,childS l L x.1 (L.take k) = s := ⟨_,rfl⟩
                  have HSS := Aside0.mk hs
                  rw [hs] at CB ⊢
                  obtain ⟨u,hu2⟩ : ∃ u,sumT l (undL L z.1) = u := ⟨_,rfl⟩
                  have HUU := Aside0.mk hu2
                  rw [hu2] at ZB
                  have FU := Aside0.mk (show (useF l L z.1).1 = u by
                    have h1 := FA.out z (List.mem_of_getElem? HZZ.out)
                    unfold useF at h1 ⊢
                    rw [fit_val h1,HUU.out])
                  have w0 : IntKind.i64.wrap (o.1 + s + u) = o.1 + s + u := by rw [IntKind.wrap_i64];omega
                  have ZM := Aside0.mk (List.mem_of_getElem? HZZ.out)
                  clear hz hs hu2 g1 CB CBL OB ZB ZL
                  by_cases hp : z.2 = x.1
                  · have q2 : (ByteArray.toList z.2 == ByteArray.toList x.1) = true := by rw [eqS,decide_eq_true hp]
                    have HCS := Aside0.mk (show childS l L x.1 (L.take (k + 1)) = s + u by rw [TK.out,childS_snoc,if_pos hp,HSS.out,HUU.out])
                    clear hp
                    go_wp2_with (fail)
                    go_region_held3 (fun w' => w'.cell? ⟨r,0,none⟩ = some (.slice (some ar) L.length cr) ∧ w'.cell? (ar.add (j * 2)) = some (.string x.1) ∧ w'.cell? (ar.add (k * 2)) = some (.string z.1) ∧ w'.cell? ⟨(ar.add (k * 2)).block,(ar.add (k * 2)).off + 1,none⟩ = some (.string z.2)) (first | go_keep | exact ⟨by assumption,by assumption,by assumption,by assumption⟩) (fail)
                    go_wp2_with (fail)
                    refine (find_call HNM.out ZM.out (Kd.C_below (Kd.C_below (Kd.C_below CU.out N4.out.below) MW.out.below) (SameW.below (W := _) (by exact ⟨rfl,rfl,rfl,rfl⟩) _)) KU.out L24 FU.out).mono ?_
                    rintro e w7 ⟨rfl,hb7⟩
                    have hbx : Below w7.heap.size w7 (w7.alloc (.cells #[.string sq,.string z.1,.int .i64 u,.int .i64 0] 45)) := below_alloc (Below.refl _ _) _
                    have M7 := Aside0.mk ((MW.out.next hb7).next hbx)
                    have BX := Aside0.mk (blk_new w7 (.cells #[.string sq,.string z.1,.int .i64 u,.int .i64 0] 45))
                    have b2 := (blk_cell BX.out 2).trans rfl
                    clear hb7 hbx
                    go_wp2_with (fail)
                    go_roundw
                    case rel => exact ⟨k + 1,by go_num,by omega,by rw [HCS.out,← Int.add_assoc],M7⟩
                    case measure => simp [intOf];omega
                  · have q2 : (ByteArray.toList z.2 == ByteArray.toList x.1) = false := by rw [eqS,decide_eq_false hp]
                    have HCS := Aside0.mk (show childS l L x.1 (L.take (k + 1)) = s by rw [TK.out,childS_snoc,if_neg hp,HSS.out,Int.add_zero])
                    clear hp
                    go_wp2_with (fail)
                    go_region_held3 (fun w' => w'.cell? ⟨r,0,none⟩ = some (.slice (some ar) L.length cr) ∧ w'.cell? (ar.add (j * 2)) = some (.string x.1) ∧ w'.cell? ⟨(ar.add (k * 2)).block,(ar.add (k * 2)).off + 1,none⟩ = some (.string z.2)) (first | go_keep | exact ⟨by assumption,by assumption,by assumption⟩) (fail)
                    go_wp2_with (fail)
                    go_roundw
                    case rel => exact ⟨k + 1,by go_num,by omega,by rw [HCS.out],⟨MW.out.at_,MW.out.le⟩⟩
                    case measure => simp [intOf];omega
                · have k3 : decide ((k : Int) < (L.length : Int)) = false := decide_eq_false (by omega)
                  have HT := Aside0.mk (show L.take k = L from List.take_of_length_le (by omega))
                  obtain ⟨u,hu2⟩ : ∃ u,sumT l (undL L x.1) = u := ⟨_,rfl⟩
                  have FU := Aside0.mk (show (useF l L x.1).1 = u by
                    have h1 := FA.out x XM.out
                    unfold useF at h1 ⊢
                    rw [fit_val h1,hu2])
                  have LAW := Aside0.mk (show o.1 + childS l L x.1 (L.take k) = u by
                    rw [HT.out,← hu2,sum_law HO.out.sh HNM.out l (List.mem_map.2 ⟨x,XM.out,rfl⟩),HOO.out])
                  rw [LAW.out]
                  have uz : (u != u) = false := by simp
                  clear hu2
                  go_wp2_with (fail)
                  refine (find_call HNM.out XM.out (Kd.C_below (Kd.C_below CU.out N4.out.below) MW.out.below) KU.out L24 FU.out).mono ?_
                  rintro e w7 ⟨rfl,hb7⟩
                  have hbx : Below w7.heap.size w7 (w7.alloc (.cells #[.string sq,.string x.1,.int .i64 u,.int .i64 0] 45)) := below_alloc (Below.refl _ _) _
                  have M7 := Aside0.mk ((N4.out.next MW.out.below).next ((hb7.trans (hbx.mono hb7.size))))
                  have BX := Aside0.mk (blk_new w7 (.cells #[.string sq,.string x.1,.int .i64 u,.int .i64 0] 45))
                  have b2 := (blk_cell BX.out 2).trans rfl
                  clear hb7 hbx
                  go_wp2_with (fail)
                  go_roundw
                  case rel => exact ⟨j + 1,by go_num,by omega,M7⟩
                  case measure => simp [intOf];omega
            · have k2 : decide ((j : Int) < (L.length : Int)) = false := decide_eq_false (by omega)
              have zL : ((L.length : Int) == (L.length : Int)) = true := beq_self_eq_true _
              go_wp2_with (fail)
              refine (known27 _).mono ?_
              rintro e w4 ⟨rfl,hb⟩
              have N4 := Aside0.mk ((N2.out.next NW.out.below).next hb)
              clear hb NW
              go_wp2_with (fail)
              go_ret
              exact ⟨rfl,N4.out.below⟩
    · have q0 : (code != 0) = true := by rw [bne,beq_eq_false_iff_ne.2 hz];rfl
      obtain rfl := h1 hz
      clear h0 h1 hz
      go_wp2_with (fail)
      refine (known27 _).mono ?_
      rintro e w4 ⟨rfl,hb⟩
      have N4 := Aside0.mk (N2.out.next hb)
      clear hb
      go_wp2_with (fail)
      go_ret
      exact ⟨rfl,N4.out.below⟩
  · have k0 : decide ((60 : Int) < (l.length : Int)) = true := decide_eq_true (by omega)
    clear hC hG hE hc2 hN hl
    go_enter Try.func14,Try.ntmps14
    go_wp2_with (fail)
    refine (known27 w).mono ?_
    rintro e w1 ⟨rfl,hb⟩
    have HB := Aside0.mk hb
    clear hb
    go_wp2_with (fail)
    go_ret
    exact ⟨rfl,HB.out⟩
end Go.Proofs.Ytcenlehfbgnphaa.Z
end
section
namespace Go.Proofs.Ytcenlehfbgnphaa.Z
set_option linter.unusedVariables false
open Go.RowKit Go.Proofs.YtcenlehfbgnphaaW.PrintWords Go.Proofs.YtcenlehfbgnphaaW.PrintLast Go.Proofs.YtcenlehfbgnphaaW.PrintMore
open Classical in
noncomputable def verdererlaw27_UsageSums.f (l0 : List S120) (l1 : List S83) : Option (Bool) := if (∀ x ∈ l0,GAct x) ∧ NumE l1 then some true else none
theorem verdererlaw27_UsageSums.calls (A0 : Option Addr) (c0 : Nat) (l0 : List S120) (A1 : Option Addr) (c1 : Nat) (l1 : List S83) (r : Bool) (w : World) (hC0 : Kd.C k120 w A0 l0.length l0) (hl0 : l0.length ≤ c0) (hC1 : Kd.C k83 w A1 l1.length l1) (hl1 : l1.length ≤ c1) (h : verdererlaw27_UsageSums.f l0 l1 = some r) :
    Calls Try.prog 14 #[.slice A0 l0.length c0,.slice A1 l1.length c1] w fun e w' => e = .returned (.bool r) ∧ Below w.heap.size w w' := by
  unfold verdererlaw27_UsageSums.f at h
  by_cases hn : (∀ x ∈ l0,GAct x) ∧ NumE l1
  · rw [if_pos hn] at h
    obtain rfl := Option.some.inj h
    exact usage_sums A0 l0.length c0 l0 A1 c1 l1 w hC0 hn.1 hC1 hl1 hn.2
  · rw [if_neg hn] at h
    cases h
end Go.Proofs.Ytcenlehfbgnphaa.Z
end
section
namespace Go.Proofs.YtcenlehfbgnphaaW.PrintWords
open Go.RowKit Go.ChangeShapes Go.WideShapes
section
variable {P : Program} {α β : Type}
def OfTrod (P : Program) (t : TypeId) (d : Kd α) (G : α → Prop) : Prop :=
  ∀ (H : Type) (enc : TypeId × Value → H) (w : World) (base : Nat) (spare : Nat → Bool) (held : Bool) (fuel : Nat) (cs : List Value) (x : DataW H × List MemPlace),DataW.trod enc P w base spare held fuel t cs = some x → ∃ s,d.K w s cs ∧ G s
theorem ofTrod_int {t : TypeId} {k : IntKind} (ht : P.underlying t = some (.int k)) : OfTrod P t (Kd.int k) (fun n => (Lit.int k n).wf = true) := by
  intro H enc w base spare held fuel cs x h
  obtain ⟨n,rfl,_,hw⟩ := DataW.trod_int ht h
  exact ⟨n,rfl,hw⟩
theorem ofTrod_bool {t : TypeId} (ht : P.underlying t = some .bool) : OfTrod P t Kd.bool (fun _ => True) := by
  intro H enc w base spare held fuel cs x h
  obtain ⟨b,rfl,_⟩ := DataW.trod_bool ht h
  exact ⟨b,rfl,trivial⟩
theorem ofTrod_string {t : TypeId} (ht : P.underlying t = some .string) : OfTrod P t Kd.string (fun s => s.size ≤ maxLen) := by
  intro H enc w base spare held fuel cs x h
  obtain ⟨s,rfl,_,hs⟩ := DataW.trod_string ht h
  exact ⟨s,rfl,hs⟩
theorem list_of_all {n : Nat} {Q : Nat → α → Prop} (h : ∀ i,i < n → ∃ x,Q i x) : ∃ xs : List α,xs.length = n ∧ ∀ i x,xs[i]? = some x → Q i x := by
  induction n with
  | zero => exact ⟨[],rfl,fun i x hx => by simp at hx⟩
  | succ n ih =>
    obtain ⟨xs,hl,hx⟩ := ih (fun i hi => h i (by omega))
    obtain ⟨y,hy⟩ := h n (by omega)
    refine ⟨xs ++ [y],by simp [hl],fun i x hi => ?_⟩
    rcases Nat.lt_trichotomy i xs.length with hlt | rfl | hgt
    · rw [List.getElem?_append_left hlt] at hi
      exact hx i x hi
    · rw [List.getElem?_append_right (Nat.le_refl _)] at hi
      simp at hi
      subst hi
      rw [hl]
      exact hy
    · rw [List.getElem?_append_right (by omega),List.getElem?_eq_none (by simp;omega)] at hi
      cases hi
theorem ofTrod_slice {t e : TypeId} {d : Kd α} {G : α → Prop} (ht : P.underlying t = some (.slice e)) (hc : P.cellsOf e = d.sz) (h : OfTrod P e d G) :
    OfTrod P t (Kd.slice e d) (fun l => l.length ≤ maxLen ∧ ∀ x ∈ l,G x) := by
  intro H enc w base spare held fuel cs x hx
  rcases Go.Deep.open_slice ht hx with ⟨rfl,_⟩ | ⟨a,len,cap,m,n,D,Pl,rfl,_,hl,hm,hmm,_,hel⟩
  · exact ⟨[],⟨none,0,rfl,Nat.le_refl _,Kd.C_nil d w⟩,by simp,fun x hx => by simp at hx⟩
  · have hlm : len ≤ m := by rw [hmm];split <;> omega
    obtain ⟨xs,hxl,hxs⟩ := list_of_all (n := len) (Q := fun i s => ∃ cs',w.cells? base (a.add (i * P.cellsOf e)) (P.cellsOf e) = some cs' ∧ d.K w s cs' ∧ G s) (fun i hi => by
      obtain ⟨cs',h1,h2⟩ := hel i (by omega)
      obtain ⟨s,h3,h4⟩ := h _ _ _ _ _ _ _ _ _ h2
      exact ⟨s,cs',h1,h3,h4⟩)
    refine ⟨xs,⟨some a,cap,by rw [hxl],by omega,rfl,by rw [hxl];unfold maxLen at hm;omega,fun _ => ⟨a,rfl,fun j p hp => ?_⟩⟩,by omega,fun x hx => ?_⟩
    · obtain ⟨cs',h1,h2,_⟩ := hxs j p hp
      obtain ⟨_,hcl,hcell⟩ := World.cells?_some h1
      refine ⟨cs',by rw [hcl,hc],h2,fun i u hu => ?_⟩
      have hi : i < P.cellsOf e := by
        rw [← hcl]
        exact (List.getElem?_eq_some_iff.1 hu).1
      have := hcell i hi
      rw [Go.Deep.add_add,hc] at this
      rw [this]
      exact hu
    · obtain ⟨i,hi,rfl⟩ := List.getElem_of_mem hx
      obtain ⟨_,_,_,h4⟩ := hxs i xs[i] (List.getElem?_eq_getElem hi)
      exact h4
def segOff (segs : List (TypeId × Nat)) (i : Nat) : Nat := ((segs.take i).map (·.2)).sum
def OfSegs (P : Program) (segs : List (TypeId × Nat)) (d : Kd α) (G : α → Prop) : Prop :=
  ∀ (H : Type) (enc : TypeId × Value → H) (w : World) (base : Nat) (spare : Nat → Bool) (held : Bool) (fuel : Nat) (cs : List Value),cs.length = segOff segs segs.length →
    (∀ i t c,segs[i]? = some (t,c) → ∃ x,DataW.trod enc P w base spare held fuel t ((cs.drop (segOff segs i)).take c) = some x) → ∃ s,d.K w s cs ∧ G s
theorem ofSegs_one {t : TypeId} {c : Nat} {d : Kd α} {G : α → Prop} (h : OfTrod P t d G) : OfSegs P [(t,c)] d G := by
  intro H enc w base spare held fuel cs hl hx
  obtain ⟨x,h1⟩ := hx 0 t c rfl
  have hl2 : cs.length = c := by simpa [segOff] using hl
  have e : ((cs.drop (segOff [(t,c)] 0)).take c) = cs := by simp [segOff,← hl2]
  rw [e] at h1
  exact h _ _ _ _ _ _ _ _ _ h1
theorem ofSegs_cons {t : TypeId} {c : Nat} {ts : List (TypeId × Nat)} {d : Kd α} {d' : Kd β} {G : α → Prop} {G' : β → Prop} (h : OfTrod P t d G) (h' : OfSegs P ts d' G') : OfSegs P ((t,c) :: ts) (Kd.pair d d') (fun x => G x.1 ∧ G' x.2) := by
  intro H enc w base spare held fuel cs hl hx
  obtain ⟨x,h1⟩ := hx 0 t c rfl
  have e : ((cs.drop (segOff ((t,c) :: ts) 0)).take c) = cs.take c := by simp [segOff]
  rw [e] at h1
  obtain ⟨s,h2,h3⟩ := h _ _ _ _ _ _ _ _ _ h1
  have hl' : (cs.drop c).length = segOff ts ts.length := by
    simp [segOff] at hl ⊢
    omega
  obtain ⟨s',h4,h5⟩ := h' H enc w base spare held fuel (cs.drop c) hl' (fun i t' c' hi => by
    obtain ⟨y,hy⟩ := hx (i + 1) t' c' (by simpa using hi)
    refine ⟨y,?_⟩
    have e2 : segOff ((t,c) :: ts) (i + 1) = c + segOff ts i := by simp [segOff]
    rw [e2] at hy
    rw [List.drop_drop]
    exact hy)
  exact ⟨(s,s'),⟨cs.take c,cs.drop c,(List.take_append_drop c cs).symm,h2,h4⟩,h3,h5⟩
theorem ofTrod_struct {t : TypeId} {fs : Array Field} {segs : List (TypeId × Nat)} {d : Kd α} {G : α → Prop} (ht : P.underlying t = some (.struct fs)) (hc : P.cellsOf t = segOff segs segs.length) (hn : fs.size = segs.length)
    (hfs : ∀ i (f : Field),fs[i]? = some f → segs[i]? = some (f.type,P.cellsOf f.type) ∧ f.offset = segOff segs i) (h : OfSegs P segs d G) : OfTrod P t d G := by
  intro H enc w base spare held fuel cs x hx
  obtain ⟨xs,n,_,_,hl,hxl,hf⟩ := DataW.trod_struct ht hx
  refine h H enc w base spare held n cs (by rw [hl,hc]) (fun i t' c' hi => ?_)
  have hlt : i < fs.size := by rw [hn];exact (List.getElem?_eq_some_iff.1 hi).1
  obtain ⟨h1,h2⟩ := hfs i fs[i] (Array.getElem?_eq_getElem hlt)
  rw [hi] at h1
  injection h1 with h1
  injection h1 with h1 h3
  have h4 := hf i fs[i] (Array.getElem?_eq_getElem hlt)
  rw [h2,← h3,← h1] at h4
  have hlt2 : i < xs.length := by omega
  rw [List.getElem?_eq_getElem hlt2] at h4
  exact ⟨_,h4⟩
theorem ofTrod_iso {t : TypeId} {d : Kd α} {G : α → Prop} (f : β → α) (g : α → β) (hg : ∀ a,f (g a) = a) (h : OfTrod P t d G) : OfTrod P t (Kd.iso d f) (fun x => G (f x)) := by
  intro H enc w base spare held fuel cs x hx
  obtain ⟨s,h1,h2⟩ := h _ _ _ _ _ _ _ _ _ hx
  exact ⟨g s,by show d.K w (f (g s)) cs;rw [hg];exact h1,by show G (f (g s));rw [hg];exact h2⟩
theorem cell_heap {w w' : World} (h : w.heap = w'.heap) (a : Addr) : w'.cell? a = w.cell? a := by unfold World.cell?;rw [h]
end
end Go.Proofs.YtcenlehfbgnphaaW.PrintWords
end
section
namespace Go.Proofs.Ytcenlehfbgnphaa.Z
open Go.RowKit Go.Proofs.YtcenlehfbgnphaaW.PrintWords Go.Proofs.YtcenlehfbgnphaaW.PrintLast Go.Proofs.YtcenlehfbgnphaaW.PrintMore
set_option maxRecDepth 100000
def G120 (x : S120) : Prop := ((Lit.int .i64 x.f0).wf = true) ∧ (x.f1.size ≤ maxLen) ∧ (x.f2.size ≤ maxLen)
theorem of120 : OfTrod Try.prog 120 k120 G120 :=
  ofTrod_iso _ (fun a => (⟨a.1,a.2.1,a.2.2⟩ : S120)) (fun _ => rfl) (ofTrod_struct (segs := [(3,1),(9,1),(9,1)]) Try.underlying120 (by kernel_rfl) rfl
    (by
      intro i f hf
      rcases i with _ | _ | _ | i <;> simp at hf <;> subst hf <;> exact ⟨congrArg some (Prod.ext rfl (by kernel_rfl)),rfl⟩) (ofSegs_cons (ofTrod_int Try.underlying3) (ofSegs_cons (ofTrod_string Try.underlying9) (ofSegs_one (ofTrod_string Try.underlying9)))))
def G85 (x : S85) : Prop := ((Lit.int .i64 x.f0).wf = true) ∧ (True) ∧ ((Lit.int .i64 x.f2).wf = true) ∧ (x.f3.size ≤ maxLen)
theorem of85 : OfTrod Try.prog 85 k85 G85 :=
  ofTrod_iso _ (fun a => (⟨a.1,a.2.1,a.2.2.1,a.2.2.2⟩ : S85)) (fun _ => rfl) (ofTrod_struct (segs := [(3,1),(4,1),(2,1),(9,1)]) Try.underlying85 (by kernel_rfl) rfl
    (by
      intro i f hf
      rcases i with _ | _ | _ | _ | i <;> simp at hf <;> subst hf <;> exact ⟨congrArg some (Prod.ext rfl (by kernel_rfl)),rfl⟩) (ofSegs_cons (ofTrod_int Try.underlying3) (ofSegs_cons (ofTrod_bool Try.underlying4) (ofSegs_cons (ofTrod_int Try.underlying2) (ofSegs_one (ofTrod_string Try.underlying9))))))
def G83 (x : S83) : Prop := ((x.f0.length ≤ maxLen ∧ ∀ xx ∈ x.f0,G85 xx)) ∧ ((Lit.int .i64 x.f1).wf = true)
theorem of83 : OfTrod Try.prog 83 k83 G83 :=
  ofTrod_iso _ (fun a => (⟨a.1,a.2⟩ : S83)) (fun _ => rfl) (ofTrod_struct (segs := [(81,1),(2,1)]) Try.underlying83 (by kernel_rfl) rfl
    (by
      intro i f hf
      rcases i with _ | _ | i <;> simp at hf <;> subst hf <;> exact ⟨congrArg some (Prod.ext rfl (by kernel_rfl)),rfl⟩) (ofSegs_cons (ofTrod_slice Try.underlying81 (by kernel_rfl) of85) (ofSegs_one (ofTrod_int Try.underlying2))))
end Go.Proofs.Ytcenlehfbgnphaa.Z
end
section
namespace Go.Proofs.Ytcenlehfbgnphaa.Z
open Go.RowKit Go.Proofs.YtcenlehfbgnphaaW.PrintWords Go.Proofs.YtcenlehfbgnphaaW.PrintLast Go.Proofs.YtcenlehfbgnphaaW.PrintMore
theorem in64_wfU {a : Int} (h : (Lit.int .i64 a).wf = true) : In64 a := by
  simp [Lit.wf,IntKind.min,IntKind.max,IntKind.signed,IntKind.bits] at h
  unfold In64
  omega
theorem usageSums_pure : ∀ (l0 : (List S120)) (l1 : (List S83)),(l0.length ≤ maxLen ∧ ∀ x ∈ l0,G120 x) → (l1.length ≤ maxLen ∧ ∀ x ∈ l1,G83 x) → verdererlaw27_UsageSums.f l0 l1 = some true := by
  intro l0 l1 h h1
  unfold verdererlaw27_UsageSums.f
  rw [if_pos ⟨fun x hx => ⟨(h.2 x hx).2.1,(h.2 x hx).2.2⟩,fun e he x hx => in64_wfU ((h1.2 e he).1.2 x hx).2.2.1⟩]
end Go.Proofs.Ytcenlehfbgnphaa.Z
end
namespace Go.Proofs.Ytcenlehfbgnphaa.usageSums
open Go.ChangeShapes Go.WideShapes Go.ChangeAt Go.RowKit Go.Proofs.YtcenlehfbgnphaaW.PrintWords
open Go.ChangeMaps (open_string shut_string)
set_option linter.unusedVariables false
theorem own : ownKnob Try.prog.godebug = none := by kernel_rfl
theorem laidOut : laidOutB Try.prog = true := by kernel_rfl
set_option maxRecDepth 100000 in
theorem lifted (os : Os) (started : os.Started) (H : Type) (enc : TypeId × Value → H) :
    ReturnsInHanded {} Try.checked os 14 .any (Rows.usageSumsSpec.pre6 enc Try.prog Try.f14 Rows.usageSumsRow.domain false) (Rows.usageSumsSpec.post enc Try.prog Try.f14 false true false false) := by
  refine returnsInHanded_of_change (C := Try.checked) own started (by kernel_rfl) Try.func14
    (ChangeSpec.witness6 (enc := enc) (C := Try.checked) false ⟨#[],#[.slice none 0 0,.slice none 0 0],[]⟩ 8 (by kernel_rfl) (by kernel_rfl) (by kernel_rfl) (by kernel_rfl)) ?_
  intro W base args ds gs before hval0 hW hcnd _
  have hval : ∀ (j : Nat) t v,Try.f14.params[j]? = some t → args[j]? = some v → Value.okWide Try.prog W .any base t v := hval0
  have hW' := hW
  obtain ⟨p,q,hA0,hV,rfl,hfz,hnd⟩ := hW
  have hA : DataW.TrodAll enc Try.prog W 0 (fun _ => true) true Try.f14.params.toList args.toList ds p := hA0
  rw [Try.params14] at hA hval
  obtain ⟨v0,vs0,d0,ds0,p0,q0,hargs,rfl,rfl,h0,r0⟩ := trodAll_cons hA
  obtain ⟨v1,vs1,d1,ds1,p1,q1,rfl,rfl,rfl,h1,r1⟩ := trodAll_cons r0
  obtain ⟨rfl,rfl,rfl⟩ := trodAll_nil r1
  obtain rfl : args = #[v0,v1] := by cases args;simp_all
  obtain ⟨rfl,rfl⟩ := trodVars_none hV
  obtain ⟨a0,len0,cap0,rfl⟩ := okWide_slice Try.underlying73 (hval 0 73 v0 rfl rfl)
  have k0 := h0
  have lt0 : ∀ x ∈ p0,x.block < W.heap.size := by obtain ⟨m,hm⟩ := k0;exact DataW.trod_lt m _ _ _ hm
  obtain ⟨l0,hK0,hG0⟩ : ∃ l,((Kd.slice 120 Z.k120) : Kd (List Z.S120)).K W l [.slice a0 len0 cap0] ∧ (l.length ≤ maxLen ∧ ∀ x ∈ l,Z.G120 x) := by obtain ⟨fuel,hf⟩ := h0;exact (show OfTrod Try.prog 73 (Kd.slice 120 Z.k120) _ from (ofTrod_slice Try.underlying73 (by kernel_rfl) Z.of120)) _ _ _ _ _ _ _ _ _ hf
  obtain ⟨A0,c0,he0,hl0,hC0⟩ := hK0
  simp only [List.cons.injEq,Value.slice.injEq,and_true] at he0
  obtain ⟨rfl,rfl,rfl⟩ := he0
  obtain ⟨a1,len1,cap1,rfl⟩ := okWide_slice Try.underlying74 (hval 1 74 v1 rfl rfl)
  have k1 := h1
  have lt1 : ∀ x ∈ p1,x.block < W.heap.size := by obtain ⟨m,hm⟩ := k1;exact DataW.trod_lt m _ _ _ hm
  obtain ⟨l1,hK1,hG1⟩ : ∃ l,((Kd.slice 83 Z.k83) : Kd (List Z.S83)).K W l [.slice a1 len1 cap1] ∧ (l.length ≤ maxLen ∧ ∀ x ∈ l,Z.G83 x) := by obtain ⟨fuel,hf⟩ := h1;exact (show OfTrod Try.prog 74 (Kd.slice 83 Z.k83) _ from (ofTrod_slice Try.underlying74 (by kernel_rfl) Z.of83)) _ _ _ _ _ _ _ _ _ hf
  obtain ⟨A1,c1,he1,hl1,hC1⟩ := hK1
  simp only [List.cons.injEq,Value.slice.injEq,and_true] at he1
  obtain ⟨rfl,rfl,rfl⟩ := he1
  clear hA0 hval0
  have h := Z.usageSums_pure l0 l1 hG0 hG1
  refine (Z.verdererlaw27_UsageSums.calls _ _ l0 _ _ l1 true W hC0 hl0 hC1 hl1 h).mono fun e W' ⟨he,bel⟩ => ?_
  subst he
  exact ⟨_,rfl,_,_,_,[],_,[],hW',trodAll_mk1 (shut_bool Try.underlying4 _),(trodAll_cons_mk (Below.trod laidOut (by kernel_rfl) (of_decide_eq_true (by kernel_rfl)) k0 bel lt0) (trodAll_cons_mk (Below.trod laidOut (by kernel_rfl) (of_decide_eq_true (by kernel_rfl)) k1 bel lt1) trodAll_mk0)),rfl,bel.frame _,fun h => by cases h⟩
theorem over : Rows.usageSumsRow.holds Try.pinned (OpenSpec.ofChange Rows.usageSumsSpec) :=
  OpenClaim.holds_of_wide 14 Try.f14 rfl rfl rfl rfl rfl rfl rfl ⟨rfl,rfl,rfl,rfl,rfl⟩ rfl rfl rfl rfl rfl (by kernel_rfl) Try.func14 (by kernel_rfl)
    (of_decide_eq_true (by kernel_rfl)) (by unfold Func.isWrapper;first | (rw [if_pos (by decide +kernel)];kernel_rfl) | (rw [if_neg (by decide +kernel)];exact ⟨rfl,rfl⟩))
    (fun os started H enc _ => lifted os started H enc)
theorem proved : Rows.UsageSumsSaid := over
#print axioms proved
end Go.Proofs.Ytcenlehfbgnphaa.usageSums
namespace Go.Proofs.Ytcenlehfbgnphaa
theorem usageSums_holds : Rows.UsageSumsSaid := usageSums.proved
end Go.Proofs.Ytcenlehfbgnphaa
