/- Parts of the proof of QuotaLess: what its functions answer. -/
import Derived.Test.YtcenlehfbgnphaaMQuotaLessa
import Derived.Test.YtcenlehfbgnphaaMQuotaLessb
import Derived.Test.YtcenlehfbgnphaaMQuotaLessc
import Derived.Test.YtcenlehfbgnphaaMQuotaLessd
section
namespace Go.Proofs.Ytcenlehfbgnphaa.Z
open Go.RowKit Go.Proofs.YtcenlehfbgnphaaW.PrintWords Go.Proofs.YtcenlehfbgnphaaW.PrintLast Go.Proofs.YtcenlehfbgnphaaW.PrintMore
attribute [local go_sem] max2_int min2_int max_two min_two max_three min_three max_four min_four
set_option linter.unusedVariables false
set_option linter.unusedSimpArgs false
def verdererref28_Judge.l0 : Nat → List (S45) → List (S45) → Int → Option (ByteArray × ByteArray × Int × Int × Int)
 | 0,_,_,_ => none
 | k + 1,x0,x6,x7 => if x7 < (x6.length : Int) then (if 0 ≤ x7 then ((verdererref27_Find.f k ((q0e x6 x7).f0) ((q0e x6 x7).f1) x0).bind fun bt324 => (if bt324.2.2.2.2 = true then (if bt324.2.2.1 ≤ ((q0e x6 x7).f3) then (some ((q0e x6 x7).f0,(q0e x6 x7).f1,(q0e x6 x7).f2,(q0e x6 x7).f3,16)) else (if bt324.2.2.1 < ((q0e x6 x7).f2) then (some ((q0e x6 x7).f0,(q0e x6 x7).f1,(q0e x6 x7).f2,(q0e x6 x7).f3,16)) else (verdererref28_Judge.l0 k x0 x6 (wrap64 (x7 + 1))))) else (some ((q0e x6 x7).f0,(q0e x6 x7).f1,(q0e x6 x7).f2,(q0e x6 x7).f3,16)))) else (none)) else (some ((⟨#[]⟩ : ByteArray),(⟨#[]⟩ : ByteArray),0,0,0))
def verdererref28_Judge.f (k : Nat) (l0 : List (S45)) (l1 : List (S45)) : Option (ByteArray × ByteArray × Int × Int × Int) := (verdererref28_Over.f k l1).bind fun t319 => (verdererref28_Judge.l0 k l0 t319 0)
theorem verdererref28_Judge.mono_l : ∀ k,(∀ y0 y1 y2,LeO (verdererref28_Judge.l0 k y0 y1 y2) (verdererref28_Judge.l0 (k + 1) y0 y1 y2))
 | 0 => fun _ _ _ r h => by simp [verdererref28_Judge.l0] at h
 | k + 1 => by
  have ih0 := verdererref28_Judge.mono_l k
  ·intro y0 y1 y2
   unfold verdererref28_Judge.l0
   repeat' first
   | (with_reducible exact ih0 _ _ _)
   | (with_reducible exact verdererref27_Find.mono _ _ _ _)
   | (with_reducible exact verdererref28_Over.mono _ _)
   | (with_reducible exact LeO.refl _)
   | (with_reducible exact LeO.none _)
   | (with_reducible refine LeO.ite ?_ ?_)
   | (with_reducible refine LeO.bind ?_ (fun _ => ?_))
   | exact ih0 _ _ _
   | exact verdererref27_Find.mono _ _ _ _
   | exact verdererref28_Over.mono _ _
   | exact LeO.none _
   | refine LeO.ite ?_ ?_
   | refine LeO.bind ?_ (fun _ => ?_)
theorem verdererref28_Judge.mono : ∀ a0 a1 k,LeO (verdererref28_Judge.f k a0 a1) (verdererref28_Judge.f (k + 1) a0 a1) := by
 intro a0 a1 k
 have ih0 := verdererref28_Judge.mono_l k
 unfold verdererref28_Judge.f
 repeat' first
   | (with_reducible exact ih0 _ _ _)
   | (with_reducible exact verdererref27_Find.mono _ _ _ _)
   | (with_reducible exact verdererref28_Over.mono _ _)
   | (with_reducible exact LeO.refl _)
   | (with_reducible exact LeO.none _)
   | (with_reducible refine LeO.ite ?_ ?_)
   | (with_reducible refine LeO.bind ?_ (fun _ => ?_))
   | exact ih0 _ _ _
   | exact verdererref27_Find.mono _ _ _ _
   | exact verdererref28_Over.mono _ _
   | exact LeO.none _
   | refine LeO.ite ?_ ?_
   | refine LeO.bind ?_ (fun _ => ?_)
def verdererref28_Judge.T5 : Bool × List (List Nat × List Nat) := (true,[([],[]),([],[]),([0,1],[0,1]),([2],[2]),([3],[3]),([],[]),([],[]),([5,6],[5,6]),([7],[7]),([8],[8]),([],[]),([4,9,10],[4,9,10]),([11],[11]),([12],[12]),([12],[12]),([],[]),([15,13,11,0,1,2,3,4,5,6,7,8,9,10,11,12,13,15],[13,15]),([14,16,0,1,2,3,4,5,6,7,8,9,10,11,12,13,14,15,16],[14])])
def verdererref28_Judge.B5 : List Nat := [0,0,3,7,15,0,0,96,224,480,0,2047,4095,8191,8191,0,49151,131071]
theorem verdererref28_Judge.tab5 : rtab .any (opsOf Try.f46 5) = verdererref28_Judge.T5 := by kernel_rfl
theorem verdererref28_Judge.bits5 : waitsOk verdererref28_Judge.T5.2 verdererref28_Judge.B5 = true := by kernel_rfl
def verdererref28_Judge.T6 : Bool × List (List Nat × List Nat) := (true,[([],[]),([0],[0]),([1],[1]),([2],[2]),([3,2],[2,3]),([2],[2]),([2],[2]),([5,6,2],[2,5,6]),([7,2],[2,7]),([8,2],[2,8]),([4,9,2],[2,4,9]),([2,10],[2,10]),([11,2],[11]),([12],[12]),([13,12],[12,13]),([12],[12]),([12],[12]),([15,16,12],[12,15,16]),([17,12],[12,17]),([18,12],[12,18]),([14,19,12],[12,14,19]),([12,20],[12,20])])
def verdererref28_Judge.B6 : List Nat := [0,1,3,7,15,7,7,103,231,487,1023,2047,4095,8191,16383,8191,8191,106495,237567,499711,1048575,2097151]
theorem verdererref28_Judge.tab6 : rtab .any (opsOf Try.f46 6) = verdererref28_Judge.T6 := by kernel_rfl
theorem verdererref28_Judge.bits6 : waitsOk verdererref28_Judge.T6.2 verdererref28_Judge.B6 = true := by kernel_rfl
set_option maxHeartbeats 8000000 in
set_option maxRecDepth 100000 in
theorem verdererref28_Judge.calls (k : Nat) (A0 : Option Addr) (c0 : Nat) (l0 : List (S45)) (A1 : Option Addr) (c1 : Nat) (l1 : List (S45)) (r1 : ByteArray) (r2 : ByteArray) (r3 : Int) (r4 : Int) (r5 : Int) (w : World) (hr0 : Kd.C k45 w A0 l0.length l0) (hc0 : l0.length ≤ c0) (hr1 : Kd.C k45 w A1 l1.length l1) (hc1 : l1.length ≤ c1) (h : verdererref28_Judge.f k l0 l1 = some (r1,r2,r3,r4,r5)) :
  Calls Try.prog 46 #[.slice A0 l0.length c0,.slice A1 l1.length c1] w fun e w' => e = .returned (.tuple #[.agg #[.string r1,.string r2,.int .i64 r3,.int .i64 r4],.int .i64 r5]) ∧ Below w.heap.size w w' := by
 have hu45 := Try.underlying45
 have HR0 := Aside0.mk hr0
 have HC0 := Aside0.mk hc0
 clear hr0 hc0
 have HR1 := Aside0.mk hr1
 have HC1 := Aside0.mk hc1
 clear hr1 hc1
 have HB := Aside0.mk (Below.refl w.heap.size w)
 have H : ((verdererref28_Over.f k l1).bind fun t319 => (verdererref28_Judge.l0 k l0 t319 0)) = some (r1,r2,r3,r4,r5) := h
 clear h
 replace H := Option.bind_eq_some_iff.mp H
 obtain ⟨t319,A30,H⟩ := H
 replace H : (verdererref28_Judge.l0 k l0 t319 0) = some (r1,r2,r3,r4,r5) := H
 have A3 := Aside0.mk A30
 clear A30
 have H' := Aside0.mk H
 clear H
 go_enter Try.func46,Try.ntmps46
 go_wp2_with (first | ((with_reducible refine gate_dst (N := 4) rfl ?_);refine q03 ?hg (N := 4) ?hd (cs := #[.string (⟨#[]⟩ : ByteArray),.string (⟨#[]⟩ : ByteArray),.int .i64 0,.int .i64 0]) (t := 45) ?hr ?_;(case hd => rfl);(case hg => rfl);(case hr => first | (go_simp;done) | (go_simp;rfl));intro gb318 hg w4 hbox hb;have n0_ := Aside0.mk (q0s (by repeat (first | (with_reducible first | exact HB.out | apply q0h | apply q0d | apply q0f) | exact HB.out)) hb);have n1_ := Aside0.mk (hbox);have n2_ := Aside0.mk ((by rw [hg];exact (q0p (by repeat (first | (with_reducible first | exact HB.out | apply q0h | apply q0d | apply q0f) | exact HB.out))) : w.heap.size ≤ gb318));have n3_ := Aside0.mk ((by rw [hg];exact (q0p (by repeat (first | (with_reducible first | exact HB.out | apply q0h | apply q0d | apply q0f) | exact HB.out))) : w.heap.size ≤ gb318));clear HB;have HB := n0_;have BK318 := n1_;have GW318 := n2_;have GE318 := n3_;clear n0_ n1_ n2_ n3_;clear hb hbox hg) | ((with_reducible refine q00 (f := 50) rfl ?_);refine goesL_ (some 11) rfl rfl Try.func50 (by kernel_rfl) rfl #[.slice A1 l1.length c1] rfl (by (try simp only [List.map_toArray,List.map_cons,List.map_nil]);first | done | rfl | (simp only [List.length_drop,List.length_take];rfl)) ?_;(with_reducible refine (verdererref28_Over.calls k _ _ l1 t319 _ ?side1 ?side2 A3.out).mono ?_);(case side1 => repeat (first | exact (Kd.C_below HR1.out HB.out) | (with_reducible refine Kd.C_alloc ?_ _) | (with_reducible refine Kd.C_drewN ?_ _) | (with_reducible refine Kd.C_drew ?_)));(case side2 => exact HC1.out);rintro e w5 ⟨v320,rfl,ho0,hb⟩;refine ⟨_,rfl,?_⟩;have n0_ := Aside0.mk (Kd.R_lower (Kd.R_newB ho0 (g := gb318) (o := .cells #[.string (⟨#[]⟩ : ByteArray),.string (⟨#[]⟩ : ByteArray),.int .i64 0,.int .i64 0] 45 (0,0)) (by (with_reducible repeat (first | refine q0b ?_ _ | refine q0c ?_ | refine q0a ?_ _));exact BK318.out)) (q0p (by repeat (first | (with_reducible first | exact HB.out | apply q0h | apply q0d | apply q0f | refine q0g ?_ GE318.out) | exact HB.out))));have n1_ := Aside0.mk (q0q (g := gb318) (o := .cells #[.string (⟨#[]⟩ : ByteArray),.string (⟨#[]⟩ : ByteArray),.int .i64 0,.int .i64 0] 45 (0,0)) (by (with_reducible repeat (first | refine q0b ?_ _ | refine q0c ?_ | refine q0a ?_ _));exact BK318.out) hb);have n2_ := Aside0.mk (q0s (by repeat (first | (with_reducible first | exact HB.out | apply q0h | apply q0d | apply q0f | refine q0g ?_ GE318.out) | exact HB.out)) hb);clear BK318;clear HB;have HO321 := n0_;have BK318 := n1_;have HB := n2_;clear n0_ n1_ n2_;(try clear hb);(try clear hb2);(try clear hk);(try clear hi);(try clear ho0)))
 go_loopg [7] k (fun kq v7 w' => ∃ (x7_1 : Int) (x319000_1 : ByteArray) (x319001_1 : ByteArray) (x319002_1 : Int) (x319003_1 : Int),v7 = .int .i64 x7_1 ∧ Aside0 (verdererref28_Judge.l0 kq l0 t319 x7_1 = some (r1,r2,r3,r4,r5)) ∧ Aside0 (kq ≤ k) ∧ Aside0 (Kd.R k45 45 w' w.heap.size (fun k_ => k_ ≠ gb318) v320 t319) ∧ Aside0 (w'.heap[gb318]? = some (.cells #[.string x319000_1,.string x319001_1,.int .i64 x319002_1,.int .i64 x319003_1] 45 (0,0))) ∧ Aside0 (Below w.heap.size w w'))
 case atStart => exact ⟨(0),((⟨#[]⟩ : ByteArray)),((⟨#[]⟩ : ByteArray)),(0),(0),(by first | rfl | (simp;done) | (simp [*];done)),H',⟨Nat.le_refl _⟩,⟨by (with_reducible repeat (first | apply Kd.q0m | apply Kd.q0n | apply Kd.q0o));exact Kd.R_mono HO321.out (fun _ hk => hk.2)⟩,⟨by (with_reducible repeat (first | refine q0b ?_ _ | refine q0c ?_ | refine q0a ?_ _));exact BK318.out⟩,⟨by repeat (first | (with_reducible first | exact HB.out | apply q0h | apply q0d | apply q0f | refine q0g ?_ GE318.out) | exact HB.out)⟩⟩
 case round =>
  clear H'
  try clear c1
  try clear p2
  try clear c4
  try clear c5
  obtain ⟨x7_1,x319000_1,x319001_1,x319002_1,x319003_1,rfl,HA,HK1,HO_6,BK318,HB⟩ := hrel
  cases gk with
  | zero => exact absurd HA.out (by simp [verdererref28_Judge.l0])
  | succ k1 =>
   have H := HA.out
   clear HA
   simp only [verdererref28_Judge.l0] at H
   by_cases c6 : x7_1 < (t319.length : Int)
   ·rw [if_pos c6] at H
    have c6b0 : decide (x7_1 < (t319.length : Int)) = true := decide_eq_true c6
    clear c6
    by_cases c7 : 0 ≤ x7_1
    ·rw [if_pos c7] at H
     have c7b0 : decide (0 ≤ x7_1) = true := decide_eq_true c7
     clear c7
     replace H := Option.bind_eq_some_iff.mp H
     obtain ⟨⟨t324,t325,t326,t327,t328⟩,A80,H⟩ := H
     replace H : (if t328 = true then (if t326 ≤ ((q0e t319 x7_1).f3) then (some ((q0e t319 x7_1).f0,(q0e t319 x7_1).f1,(q0e t319 x7_1).f2,(q0e t319 x7_1).f3,16)) else (if t326 < ((q0e t319 x7_1).f2) then (some ((q0e t319 x7_1).f0,(q0e t319 x7_1).f1,(q0e t319 x7_1).f2,(q0e t319 x7_1).f3,16)) else (verdererref28_Judge.l0 k1 l0 t319 (wrap64 (x7_1 + 1))))) else (some ((q0e t319 x7_1).f0,(q0e t319 x7_1).f1,(q0e t319 x7_1).f2,(q0e t319 x7_1).f3,16))) = some (r1,r2,r3,r4,r5) := H
     have A8 := Aside0.mk A80
     clear A80
     by_cases c9 : t328 = true
     ·subst c9
      have H1 : (if t326 ≤ ((q0e t319 x7_1).f3) then (some ((q0e t319 x7_1).f0,(q0e t319 x7_1).f1,(q0e t319 x7_1).f2,(q0e t319 x7_1).f3,16)) else (if t326 < ((q0e t319 x7_1).f2) then (some ((q0e t319 x7_1).f0,(q0e t319 x7_1).f1,(q0e t319 x7_1).f2,(q0e t319 x7_1).f3,16)) else (verdererref28_Judge.l0 k1 l0 t319 (wrap64 (x7_1 + 1))))) = some (r1,r2,r3,r4,r5) := by rw [if_pos rfl] at H;exact H
      clear H
      have H := H1
      clear H1
      by_cases c10 : t326 ≤ ((q0e t319 x7_1).f3)
      ·rw [if_pos c10] at H
       have c10b0 : decide (t326 ≤ ((q0e t319 x7_1).f3)) = true := decide_eq_true c10
       clear c10
       simp only [Option.some.injEq,Prod.mk.injEq] at H
       obtain ⟨rfl,rfl,rfl,rfl,rfl⟩ := H
       obtain ⟨Ao11,co11,eo11⟩ := Kd.R_slice HO_6.out
       subst eo11
       try go_wp2
       have n0_ := Aside0.mk (Kd.q0o HO_6.out)
       have n1_ := Aside0.mk (q0c BK318.out)
       have n2_ := Aside0.mk (q0f HB.out)
       clear HO_6
       clear BK318
       clear HB
       have HO_6 := n0_
       have BK318 := n1_
       have HB := n2_
       clear n0_ n1_ n2_
       have p322 : 0 ≤ (x7_1 : Int) := of_decide_eq_true (by first | (with_reducible assumption) | assumption)
       have q322 : x7_1 < (t319.length : Int) := of_decide_eq_true (by first | (with_reducible assumption) | assumption)
       obtain ⟨ad322,e322,hx322_0,hx322_1,hx322_2,hx322_3⟩ := at_T45 (Kd.q02 HO_6.out).2.2 x7_1 p322 q322
       cases e322
       replace p322 := eq_true p322
       replace q322 := eq_true q322
       have p323 : 0 ≤ (x7_1 : Int) := of_decide_eq_true (by first | (with_reducible assumption) | assumption)
       have q323 : x7_1 < (t319.length : Int) := of_decide_eq_true (by first | (with_reducible assumption) | assumption)
       obtain ⟨ad323,e323,hx323_0,hx323_1,hx323_2,hx323_3⟩ := at_T45 (Kd.q02 HO_6.out).2.2 x7_1 p323 q323
       obtain rfl : ad322 = ad323 := (by injection e323)
       replace p323 := eq_true p323
       replace q323 := eq_true q323
       refine start_ (n := 18) (S := fun w' => w'.cell? (ad322.add ((x7_1).toNat * 4)) = some (.string ((q0e t319 x7_1).f0)) ∧ w'.cell? ⟨(ad322.add ((x7_1).toNat * 4)).block,(ad322.add ((x7_1).toNat * 4)).off + 1,none⟩ = some (.string ((q0e t319 x7_1).f1)) ∧ w'.cell? ⟨(ad322.add ((x7_1).toNat * 4)).block,(ad322.add ((x7_1).toNat * 4)).off + 2,none⟩ = some (.int .i64 ((q0e t319 x7_1).f2)) ∧ w'.cell? ⟨(ad322.add ((x7_1).toNat * 4)).block,(ad322.add ((x7_1).toNat * 4)).off + 3,none⟩ = some (.int .i64 ((q0e t319 x7_1).f3)) ∧ w'.cell? (ad322.add ((x7_1).toNat * 4)) = some (.string ((q0e t319 x7_1).f0)) ∧ w'.cell? ⟨(ad322.add ((x7_1).toNat * 4)).block,(ad322.add ((x7_1).toNat * 4)).off + 1,none⟩ = some (.string ((q0e t319 x7_1).f1)) ∧ w'.cell? ⟨(ad322.add ((x7_1).toNat * 4)).block,(ad322.add ((x7_1).toNat * 4)).off + 2,none⟩ = some (.int .i64 ((q0e t319 x7_1).f2)) ∧ w'.cell? ⟨(ad322.add ((x7_1).toNat * 4)).block,(ad322.add ((x7_1).toNat * 4)).off + 3,none⟩ = some (.int .i64 ((q0e t319 x7_1).f3))) (ds := []) #[false,false,false,false,false,false,false,false,false,false,false,false,false,false,false,false,false,false] (by kernel_rfl) rfl rfl ⟨hx322_0,hx322_1,hx322_2,hx322_3,hx323_0,hx323_1,hx323_2,hx323_3⟩ (fun hHeld => ?_);refine with_tabW verdererref28_Judge.tab5 verdererref28_Judge.bits5 (fun HT_ HW_ => ?_)
       generalize wr.drew = w12 at HO_6 BK318 HB hx322_0 hx322_1 hx322_2 hx322_3 hx323_0 hx323_1 hx323_2 hx323_3 hHeld ⊢
       refine pure_ (i := 0) (N := some 19) (v := ?_) (a' := ?_) #[true,false,false,false,false,false,false,false,false,false,false,false,false,false,false,false,false,false] rfl rfl (q0r HT_.out (by kernel_rfl)) (fun _ _ _ h => h) (Or.inl ⟨by rfl,?_⟩) ?_ ?_
       rotate_left
       ·intro w'
        go_simp
        with_reducible rfl
       rotate_left
       ·simp only [Act.put,zA,zB,zC,i64_w,i32_w]
        rfl
       refine pure_ (i := 1) (N := some 20) (v := ?_) (a' := ?_) #[true,true,false,false,false,false,false,false,false,false,false,false,false,false,false,false,false,false] rfl rfl (q0r HT_.out (by kernel_rfl)) (fun _ _ _ h => h) (Or.inl ⟨by rfl,?_⟩) ?_ ?_
       rotate_left
       ·intro w'
        go_simp
        with_reducible rfl
       rotate_left
       ·simp only [Act.put,zA,zB,zC,i64_w,i32_w]
        rfl
       refine pure_ (i := 2) (N := some 21) (v := ?_) (a' := ?_) #[true,true,true,false,false,false,false,false,false,false,false,false,false,false,false,false,false,false] rfl rfl (q0r HT_.out (by kernel_rfl)) (fun _ _ _ h => h) (Or.inl ⟨by rfl,?_⟩) ?_ ?_
       rotate_left
       ·intro w'
        go_simp
        with_reducible rfl
       rotate_left
       ·simp only [Act.put,zA,zB,zC,i64_w,i32_w]
        rfl
       refine pure_ (i := 3) (N := some 22) (v := ?_) (a' := ?_) #[true,true,true,true,false,false,false,false,false,false,false,false,false,false,false,false,false,false] rfl rfl (q0r HT_.out (by kernel_rfl)) (fun _ _ _ h => h) (Or.inl ⟨by rfl,?_⟩) ?_ ?_
       rotate_left
       ·intro w'
        go_simp
        with_reducible rfl
       rotate_left
       ·simp only [Act.put,zA,zB,zC,i64_w,i32_w]
        rfl
       refine pure_ (i := 5) (N := some 24) (v := ?_) (a' := ?_) #[true,true,true,true,false,true,false,false,false,false,false,false,false,false,false,false,false,false] rfl rfl (q0r HT_.out (by kernel_rfl)) (fun _ _ _ h => h) (Or.inl ⟨by rfl,?_⟩) ?_ ?_
       rotate_left
       ·intro w'
        go_simp
        with_reducible rfl
       rotate_left
       ·simp only [Act.put,zA,zB,zC,i64_w,i32_w]
        rfl
       refine pure_ (i := 6) (N := some 25) (v := ?_) (a' := ?_) #[true,true,true,true,false,true,true,false,false,false,false,false,false,false,false,false,false,false] rfl rfl (q0r HT_.out (by kernel_rfl)) (fun _ _ _ h => h) (Or.inl ⟨by rfl,?_⟩) ?_ ?_
       rotate_left
       ·intro w'
        go_simp
        with_reducible rfl
       rotate_left
       ·simp only [Act.put,zA,zB,zC,i64_w,i32_w]
        rfl
       refine pure_ (i := 7) (N := some 26) (v := ?_) (a' := ?_) #[true,true,true,true,false,true,true,true,false,false,false,false,false,false,false,false,false,false] rfl rfl (q0r HT_.out (by kernel_rfl)) (fun _ _ _ h => h) (Or.inl ⟨by rfl,?_⟩) ?_ ?_
       rotate_left
       ·intro w'
        go_simp
        with_reducible rfl
       rotate_left
       ·simp only [Act.put,zA,zB,zC,i64_w,i32_w]
        rfl
       refine pure_ (i := 8) (N := some 27) (v := ?_) (a' := ?_) #[true,true,true,true,false,true,true,true,true,false,false,false,false,false,false,false,false,false] rfl rfl (q0r HT_.out (by kernel_rfl)) (fun _ _ _ h => h) (Or.inl ⟨by rfl,?_⟩) ?_ ?_
       rotate_left
       ·intro w'
        go_simp
        with_reducible rfl
       rotate_left
       ·simp only [Act.put,zA,zB,zC,i64_w,i32_w]
        rfl
       refine pure_ (i := 10) (N := some 29) (v := ?_) (a' := ?_) #[true,true,true,true,false,true,true,true,true,false,true,false,false,false,false,false,false,false] rfl rfl (q0r HT_.out (by kernel_rfl)) (fun _ _ _ h => h) (Or.inl ⟨by rfl,?_⟩) ?_ ?_
       rotate_left
       ·intro w'
        go_simp
        with_reducible rfl
       rotate_left
       ·simp only [Act.put,zA,zB,zC,i64_w,i32_w]
        rfl
       refine take_ (i := 4) (N := some 23) (v := ?_) (a' := ?_) #[true,true,true,true,true,true,true,true,true,false,true,false,false,false,false,false,false,false] rfl rfl (take_ofW HT_.out HW_.out (by kernel_rfl)) (fun _ _ _ h => h) (Or.inl ⟨by rfl,?_⟩) hHeld ?_ ?_
       rotate_left
       ·rintro w' ⟨s0,s1,s2,s3,s4,s5,s6,s7⟩
        go_simp
        with_reducible rfl
       rotate_left
       ·simp only [Act.put,zA,zB,zC,i64_w,i32_w]
        rfl
       refine take_ (i := 9) (N := some 28) (v := ?_) (a' := ?_) #[true,true,true,true,true,true,true,true,true,true,true,false,false,false,false,false,false,false] rfl rfl (take_ofW HT_.out HW_.out (by kernel_rfl)) (fun _ _ _ h => h) (Or.inl ⟨by rfl,?_⟩) hHeld ?_ ?_
       rotate_left
       ·rintro w' ⟨s0,s1,s2,s3,s4,s5,s6,s7⟩
        go_simp
        with_reducible rfl
       rotate_left
       ·simp only [Act.put,zA,zB,zC,i64_w,i32_w]
        rfl
       refine join_ (σ := Nat) 2 #[true,true,true,true,true,true,true,true,true,true,true,true,true,true,true,true,false,false] (fun s_ => [(30,.tuple #[.agg #[.string t324,.string t325,.int .i64 t326,.int .i64 t327],.bool true]),(8,.pointer (some ⟨s_,0,none⟩)),(18,.tuple #[.agg #[.string t324,.string t325,.int .i64 t326,.int .i64 t327],.bool true]),(31,.agg #[.string t324,.string t325,.int .i64 t326,.int .i64 t327]),(32,.bool true)]) (fun s_ w' => (w'.cell? (ad322.add ((x7_1).toNat * 4)) = some (.string ((q0e t319 x7_1).f0)) ∧ w'.cell? ⟨(ad322.add ((x7_1).toNat * 4)).block,(ad322.add ((x7_1).toNat * 4)).off + 1,none⟩ = some (.string ((q0e t319 x7_1).f1)) ∧ w'.cell? ⟨(ad322.add ((x7_1).toNat * 4)).block,(ad322.add ((x7_1).toNat * 4)).off + 2,none⟩ = some (.int .i64 ((q0e t319 x7_1).f2)) ∧ w'.cell? ⟨(ad322.add ((x7_1).toNat * 4)).block,(ad322.add ((x7_1).toNat * 4)).off + 3,none⟩ = some (.int .i64 ((q0e t319 x7_1).f3)) ∧ w'.cell? (ad322.add ((x7_1).toNat * 4)) = some (.string ((q0e t319 x7_1).f0)) ∧ w'.cell? ⟨(ad322.add ((x7_1).toNat * 4)).block,(ad322.add ((x7_1).toNat * 4)).off + 1,none⟩ = some (.string ((q0e t319 x7_1).f1)) ∧ w'.cell? ⟨(ad322.add ((x7_1).toNat * 4)).block,(ad322.add ((x7_1).toNat * 4)).off + 2,none⟩ = some (.int .i64 ((q0e t319 x7_1).f2)) ∧ w'.cell? ⟨(ad322.add ((x7_1).toNat * 4)).block,(ad322.add ((x7_1).toNat * 4)).off + 3,none⟩ = some (.int .i64 ((q0e t319 x7_1).f3))) ∧ (Kd.R k45 45 w' w.heap.size (fun k_ => k_ ≠ gb318 ∧ k_ ≠ s_) (.slice (some ad322) t319.length co11) t319) ∧ (w'.heap[gb318]? = some (.cells #[.string x319000_1,.string x319001_1,.int .i64 x319002_1,.int .i64 x319003_1] 45 (0,0))) ∧ (w'.heap[s_]? = some (.cells #[.string (⟨#[]⟩ : ByteArray),.string (⟨#[]⟩ : ByteArray),.int .i64 0,.int .i64 0] 45 (0,0))) ∧ (w.heap.size ≤ s_) ∧ (w.heap.size ≤ s_) ∧ (gb318 ≠ s_) ∧ (s_ ≠ gb318) ∧ (Below w.heap.size w w')) ?_ ?_
       rotate_left
       ·intro hCont
        refine two_ (i := 11) (j := 15) (Ni := some 30) (Nj := some 8) #[true,true,true,true,true,true,true,true,true,true,true,true,false,false,false,false,false,false] #[true,true,true,true,true,true,true,true,true,true,true,false,false,false,false,true,false,false] rfl rfl rfl rfl (two_of HT_.out (by kernel_rfl)) (by decide) (by decide) (fun K hK => ?_) (fun K hK => ?_)
        ·skip
         refine goes_ Try.func53 (by kernel_rfl) rfl #[.string ((q0e t319 x7_1).f0),.string ((q0e t319 x7_1).f1),.slice A0 l0.length c0] (by rfl) rfl rfl (by (try simp only [List.map_toArray,List.map_cons,List.map_nil]);first | done | rfl | (simp only [List.length_drop,List.length_take];rfl)) ?_
         with_reducible refine (verdererref27_Find.calls k1 ((q0e t319 x7_1).f0) ((q0e t319 x7_1).f1) _ _ l0 t324 t325 t326 t327 true _ ?side1 ?side2 A8.out).mono ?_
         (case side1 => repeat (first | exact (Kd.C_below HR0.out HB.out) | (with_reducible refine Kd.C_alloc ?_ _) | (with_reducible refine Kd.C_drewN ?_ _) | (with_reducible refine Kd.C_drew ?_)))
         (case side2 => exact HC0.out)
         rintro e w13 ⟨rfl,hb⟩
         have HS0_ := (hb.cell (World.block_lt_of_cell? _ _ (hHeld.1))).trans (hHeld.1)
         have HS1_ := (hb.cell (World.block_lt_of_cell? _ _ (hHeld.2.1))).trans (hHeld.2.1)
         have HS2_ := (hb.cell (World.block_lt_of_cell? _ _ (hHeld.2.2.1))).trans (hHeld.2.2.1)
         have HS3_ := (hb.cell (World.block_lt_of_cell? _ _ (hHeld.2.2.2.1))).trans (hHeld.2.2.2.1)
         have HS4_ := (hb.cell (World.block_lt_of_cell? _ _ (hHeld.2.2.2.2.1))).trans (hHeld.2.2.2.2.1)
         have HS5_ := (hb.cell (World.block_lt_of_cell? _ _ (hHeld.2.2.2.2.2.1))).trans (hHeld.2.2.2.2.2.1)
         have HS6_ := (hb.cell (World.block_lt_of_cell? _ _ (hHeld.2.2.2.2.2.2.1))).trans (hHeld.2.2.2.2.2.2.1)
         have HS7_ := (hb.cell (World.block_lt_of_cell? _ _ (hHeld.2.2.2.2.2.2.2))).trans (hHeld.2.2.2.2.2.2.2)
         refine ⟨_,rfl,?_⟩
         have n0_ := Aside0.mk (Kd.q0v (by (with_reducible repeat (first | apply Kd.q0m | apply Kd.q0n | apply Kd.q0o));exact HO_6.out) hb)
         have n1_ := Aside0.mk (q0q (g := gb318) (o := .cells #[.string x319000_1,.string x319001_1,.int .i64 x319002_1,.int .i64 x319003_1] 45 (0,0)) (by (with_reducible repeat (first | refine q0b ?_ _ | refine q0c ?_ | refine q0a ?_ _));exact BK318.out) hb)
         have n2_ := Aside0.mk (q0s (by repeat (first | (with_reducible first | exact HB.out | apply q0h | apply q0d | apply q0f | refine q0g ?_ GE318.out) | exact HB.out)) hb)
         clear HO_6
         clear BK318
         clear HB
         have HO_6 := n0_
         have BK318 := n1_
         have HB := n2_
         clear n0_ n1_ n2_
         (try clear hb)
         (try clear hb2)
         (try clear hk)
         (try clear hi)
         refine hK.out _ _ ⟨HS0_,HS1_,HS2_,HS3_,HS4_,HS5_,HS6_,HS7_⟩ (fun hHeld => ?_)
         clear hK K
         refine norm_ (a' := ?_) ?_ ?_
         rotate_left
         ·show Act.put _ (some 30) _ = _
          simp only [Act.put,zA,zB,zC,i64_w,i32_w]
          rfl
         refine pure_ (i := 12) (N := some 18) (v := ?_) (a' := ?_) #[true,true,true,true,true,true,true,true,true,true,true,true,true,false,false,false,false,false] rfl rfl (q0r HT_.out (by kernel_rfl)) (fun _ _ _ h => h) (Or.inl ⟨by rfl,?_⟩) ?_ ?_
         rotate_left
         ·intro w'
          go_simp
          with_reducible rfl
         rotate_left
         ·simp only [Act.put,zA,zB,zC,i64_w,i32_w]
          rfl
         refine pure_ (i := 13) (N := some 31) (v := ?_) (a' := ?_) #[true,true,true,true,true,true,true,true,true,true,true,true,true,true,false,false,false,false] rfl rfl (q0r HT_.out (by kernel_rfl)) (fun _ _ _ h => h) (Or.inl ⟨by rfl,?_⟩) ?_ ?_
         rotate_left
         ·intro w'
          go_simp
          with_reducible rfl
         rotate_left
         ·simp only [Act.put,zA,zB,zC,i64_w,i32_w]
          rfl
         refine pure_ (i := 14) (N := some 32) (v := ?_) (a' := ?_) #[true,true,true,true,true,true,true,true,true,true,true,true,true,true,true,false,false,false] rfl rfl (q0r HT_.out (by kernel_rfl)) (fun _ _ _ h => h) (Or.inl ⟨by rfl,?_⟩) ?_ ?_
         rotate_left
         ·intro w'
          go_simp
          with_reducible rfl
         rotate_left
         ·simp only [Act.put,zA,zB,zC,i64_w,i32_w]
          rfl
         refine one_ (i := 15) (N := some 8) #[true,true,true,true,true,true,true,true,true,true,true,true,true,true,true,true,false,false] rfl rfl (one_of HT_.out (by kernel_rfl)) (by decide) (fun K hK => ?_)
         refine box_step ?hg (N := 8) ?hd (cs := #[.string (⟨#[]⟩ : ByteArray),.string (⟨#[]⟩ : ByteArray),.int .i64 0,.int .i64 0]) (t := 45) ?hr ?_;(case hd => rfl);(case hg => rfl);(case hr => first | (go_simp;done) | (go_simp;rfl))
         intro gb329 hg w14 hbox hb
         have HS0_ := (hb.cell (World.block_lt_of_cell? _ _ (hHeld.1))).trans (hHeld.1)
         have HS1_ := (hb.cell (World.block_lt_of_cell? _ _ (hHeld.2.1))).trans (hHeld.2.1)
         have HS2_ := (hb.cell (World.block_lt_of_cell? _ _ (hHeld.2.2.1))).trans (hHeld.2.2.1)
         have HS3_ := (hb.cell (World.block_lt_of_cell? _ _ (hHeld.2.2.2.1))).trans (hHeld.2.2.2.1)
         have HS4_ := (hb.cell (World.block_lt_of_cell? _ _ (hHeld.2.2.2.2.1))).trans (hHeld.2.2.2.2.1)
         have HS5_ := (hb.cell (World.block_lt_of_cell? _ _ (hHeld.2.2.2.2.2.1))).trans (hHeld.2.2.2.2.2.1)
         have HS6_ := (hb.cell (World.block_lt_of_cell? _ _ (hHeld.2.2.2.2.2.2.1))).trans (hHeld.2.2.2.2.2.2.1)
         have HS7_ := (hb.cell (World.block_lt_of_cell? _ _ (hHeld.2.2.2.2.2.2.2))).trans (hHeld.2.2.2.2.2.2.2)
         have n0_ := Aside0.mk (Kd.q0v (Kd.R_elderB (by (with_reducible repeat (first | apply Kd.q0m | apply Kd.q0n | apply Kd.q0o));exact HO_6.out) gb329 (Nat.le_of_eq hg.symm)) hb)
         have n1_ := Aside0.mk (q0q (g := gb318) (o := .cells #[.string x319000_1,.string x319001_1,.int .i64 x319002_1,.int .i64 x319003_1] 45 (0,0)) (by (with_reducible repeat (first | refine q0b ?_ _ | refine q0c ?_ | refine q0a ?_ _));exact BK318.out) hb)
         have n2_ := Aside0.mk (q0s (by repeat (first | (with_reducible first | exact HB.out | apply q0h | apply q0d | apply q0f | refine q0g ?_ GE318.out) | exact HB.out)) hb)
         have n3_ := Aside0.mk (hbox)
         have n4_ := Aside0.mk ((by rw [hg];exact (q0p (by repeat (first | (with_reducible first | exact HB.out | apply q0h | apply q0d | apply q0f | refine q0g ?_ GE318.out) | exact HB.out))) : w.heap.size ≤ gb329))
         have n5_ := Aside0.mk ((by rw [hg];exact (q0p (by repeat (first | (with_reducible first | exact HB.out | apply q0h | apply q0d | apply q0f | refine q0g ?_ GE318.out) | exact HB.out))) : w.heap.size ≤ gb329))
         have n6_ := Aside0.mk ((by rw [hg];exact Nat.ne_of_lt (q0y (g := gb318) (o := .cells #[.string x319000_1,.string x319001_1,.int .i64 x319002_1,.int .i64 x319003_1] 45 (0,0)) (by (with_reducible repeat (first | refine q0b ?_ _ | refine q0c ?_ | refine q0a ?_ _));exact BK318.out)) : gb318 ≠ gb329))
         have n7_ := Aside0.mk ((by rw [hg];exact Nat.ne_of_gt (q0y (g := gb318) (o := .cells #[.string x319000_1,.string x319001_1,.int .i64 x319002_1,.int .i64 x319003_1] 45 (0,0)) (by (with_reducible repeat (first | refine q0b ?_ _ | refine q0c ?_ | refine q0a ?_ _));exact BK318.out)) : gb329 ≠ gb318))
         clear HO_6
         clear BK318
         clear HB
         have HO_6 := n0_
         have BK318 := n1_
         have HB := n2_
         have BK329 := n3_
         have GW329 := n4_
         have GE329 := n5_
         have NB318_329 := n6_
         have NB329_318 := n7_
         clear n0_ n1_ n2_ n3_ n4_ n5_ n6_ n7_
         clear hb hbox hg
         refine hK.out _ _ ⟨HS0_,HS1_,HS2_,HS3_,HS4_,HS5_,HS6_,HS7_⟩ (fun hHeld => ?_)
         clear hK K
         refine norm_ (a' := ?_) ?_ ?_
         rotate_left
         ·show Act.put _ (some 8) _ = _
          simp only [Act.put,zA,zB,zC,i64_w,i32_w]
          rfl
         exact norm_ (by simp only [putAll,Act.put,zA,zB,zC]) (hCont (gb329) _ ⟨hHeld,(by (with_reducible repeat (first | apply Kd.q0m | apply Kd.q0n | apply Kd.q0o));exact HO_6.out),(by (with_reducible repeat (first | refine q0b ?_ _ | refine q0c ?_ | refine q0a ?_ _));exact BK318.out),(by (with_reducible repeat (first | refine q0b ?_ _ | refine q0c ?_ | refine q0a ?_ _));exact BK329.out),GW329.out,GE329.out,NB318_329.out,NB329_318.out,(by repeat (first | (with_reducible first | exact HB.out | apply q0h | apply q0d | apply q0f | refine q0g ?_ GE318.out | refine q0g ?_ GE329.out) | exact HB.out))⟩)
        ·skip
         refine box_step ?hg (N := 8) ?hd (cs := #[.string (⟨#[]⟩ : ByteArray),.string (⟨#[]⟩ : ByteArray),.int .i64 0,.int .i64 0]) (t := 45) ?hr ?_;(case hd => rfl);(case hg => rfl);(case hr => first | (go_simp;done) | (go_simp;rfl))
         intro gb329 hg w13 hbox hb
         have HS0_ := (hb.cell (World.block_lt_of_cell? _ _ (hHeld.1))).trans (hHeld.1)
         have HS1_ := (hb.cell (World.block_lt_of_cell? _ _ (hHeld.2.1))).trans (hHeld.2.1)
         have HS2_ := (hb.cell (World.block_lt_of_cell? _ _ (hHeld.2.2.1))).trans (hHeld.2.2.1)
         have HS3_ := (hb.cell (World.block_lt_of_cell? _ _ (hHeld.2.2.2.1))).trans (hHeld.2.2.2.1)
         have HS4_ := (hb.cell (World.block_lt_of_cell? _ _ (hHeld.2.2.2.2.1))).trans (hHeld.2.2.2.2.1)
         have HS5_ := (hb.cell (World.block_lt_of_cell? _ _ (hHeld.2.2.2.2.2.1))).trans (hHeld.2.2.2.2.2.1)
         have HS6_ := (hb.cell (World.block_lt_of_cell? _ _ (hHeld.2.2.2.2.2.2.1))).trans (hHeld.2.2.2.2.2.2.1)
         have HS7_ := (hb.cell (World.block_lt_of_cell? _ _ (hHeld.2.2.2.2.2.2.2))).trans (hHeld.2.2.2.2.2.2.2)
         have n0_ := Aside0.mk (Kd.q0v (Kd.R_elderB (by (with_reducible repeat (first | apply Kd.q0m | apply Kd.q0n | apply Kd.q0o));exact HO_6.out) gb329 (Nat.le_of_eq hg.symm)) hb)
         have n1_ := Aside0.mk (q0q (g := gb318) (o := .cells #[.string x319000_1,.string x319001_1,.int .i64 x319002_1,.int .i64 x319003_1] 45 (0,0)) (by (with_reducible repeat (first | refine q0b ?_ _ | refine q0c ?_ | refine q0a ?_ _));exact BK318.out) hb)
         have n2_ := Aside0.mk (q0s (by repeat (first | (with_reducible first | exact HB.out | apply q0h | apply q0d | apply q0f | refine q0g ?_ GE318.out) | exact HB.out)) hb)
         have n3_ := Aside0.mk (hbox)
         have n4_ := Aside0.mk ((by rw [hg];exact (q0p (by repeat (first | (with_reducible first | exact HB.out | apply q0h | apply q0d | apply q0f | refine q0g ?_ GE318.out) | exact HB.out))) : w.heap.size ≤ gb329))
         have n5_ := Aside0.mk ((by rw [hg];exact (q0p (by repeat (first | (with_reducible first | exact HB.out | apply q0h | apply q0d | apply q0f | refine q0g ?_ GE318.out) | exact HB.out))) : w.heap.size ≤ gb329))
         have n6_ := Aside0.mk ((by rw [hg];exact Nat.ne_of_lt (q0y (g := gb318) (o := .cells #[.string x319000_1,.string x319001_1,.int .i64 x319002_1,.int .i64 x319003_1] 45 (0,0)) (by (with_reducible repeat (first | refine q0b ?_ _ | refine q0c ?_ | refine q0a ?_ _));exact BK318.out)) : gb318 ≠ gb329))
         have n7_ := Aside0.mk ((by rw [hg];exact Nat.ne_of_gt (q0y (g := gb318) (o := .cells #[.string x319000_1,.string x319001_1,.int .i64 x319002_1,.int .i64 x319003_1] 45 (0,0)) (by (with_reducible repeat (first | refine q0b ?_ _ | refine q0c ?_ | refine q0a ?_ _));exact BK318.out)) : gb329 ≠ gb318))
         clear HO_6
         clear BK318
         clear HB
         have HO_6 := n0_
         have BK318 := n1_
         have HB := n2_
         have BK329 := n3_
         have GW329 := n4_
         have GE329 := n5_
         have NB318_329 := n6_
         have NB329_318 := n7_
         clear n0_ n1_ n2_ n3_ n4_ n5_ n6_ n7_
         clear hb hbox hg
         refine hK.out _ _ ⟨HS0_,HS1_,HS2_,HS3_,HS4_,HS5_,HS6_,HS7_⟩ (fun hHeld => ?_)
         clear hK K
         refine norm_ (a' := ?_) ?_ ?_
         rotate_left
         ·show Act.put _ (some 8) _ = _
          simp only [Act.put,zA,zB,zC,i64_w,i32_w]
          rfl
         refine one_ (i := 11) (N := some 30) #[true,true,true,true,true,true,true,true,true,true,true,true,false,false,false,true,false,false] rfl rfl (one_of HT_.out (by kernel_rfl)) (by decide) (fun K hK => ?_)
         refine goes_ Try.func53 (by kernel_rfl) rfl #[.string ((q0e t319 x7_1).f0),.string ((q0e t319 x7_1).f1),.slice A0 l0.length c0] (by rfl) rfl rfl (by (try simp only [List.map_toArray,List.map_cons,List.map_nil]);first | done | rfl | (simp only [List.length_drop,List.length_take];rfl)) ?_
         with_reducible refine (verdererref27_Find.calls k1 ((q0e t319 x7_1).f0) ((q0e t319 x7_1).f1) _ _ l0 t324 t325 t326 t327 true _ ?side1 ?side2 A8.out).mono ?_
         (case side1 => repeat (first | exact (Kd.C_below HR0.out HB.out) | (with_reducible refine Kd.C_alloc ?_ _) | (with_reducible refine Kd.C_drewN ?_ _) | (with_reducible refine Kd.C_drew ?_)))
         (case side2 => exact HC0.out)
         rintro e w14 ⟨rfl,hb⟩
         have HS0_ := (hb.cell (World.block_lt_of_cell? _ _ (hHeld.1))).trans (hHeld.1)
         have HS1_ := (hb.cell (World.block_lt_of_cell? _ _ (hHeld.2.1))).trans (hHeld.2.1)
         have HS2_ := (hb.cell (World.block_lt_of_cell? _ _ (hHeld.2.2.1))).trans (hHeld.2.2.1)
         have HS3_ := (hb.cell (World.block_lt_of_cell? _ _ (hHeld.2.2.2.1))).trans (hHeld.2.2.2.1)
         have HS4_ := (hb.cell (World.block_lt_of_cell? _ _ (hHeld.2.2.2.2.1))).trans (hHeld.2.2.2.2.1)
         have HS5_ := (hb.cell (World.block_lt_of_cell? _ _ (hHeld.2.2.2.2.2.1))).trans (hHeld.2.2.2.2.2.1)
         have HS6_ := (hb.cell (World.block_lt_of_cell? _ _ (hHeld.2.2.2.2.2.2.1))).trans (hHeld.2.2.2.2.2.2.1)
         have HS7_ := (hb.cell (World.block_lt_of_cell? _ _ (hHeld.2.2.2.2.2.2.2))).trans (hHeld.2.2.2.2.2.2.2)
         refine ⟨_,rfl,?_⟩
         have n0_ := Aside0.mk (Kd.q0v (by (with_reducible repeat (first | apply Kd.q0m | apply Kd.q0n | apply Kd.q0o));exact HO_6.out) hb)
         have n1_ := Aside0.mk (q0q (g := gb318) (o := .cells #[.string x319000_1,.string x319001_1,.int .i64 x319002_1,.int .i64 x319003_1] 45 (0,0)) (by (with_reducible repeat (first | refine q0b ?_ _ | refine q0c ?_ | refine q0a ?_ _));exact BK318.out) hb)
         have n2_ := Aside0.mk (q0q (g := gb329) (o := .cells #[.string (⟨#[]⟩ : ByteArray),.string (⟨#[]⟩ : ByteArray),.int .i64 0,.int .i64 0] 45 (0,0)) (by (with_reducible repeat (first | refine q0b ?_ _ | refine q0c ?_ | refine q0a ?_ _));exact BK329.out) hb)
         have n3_ := Aside0.mk (q0s (by repeat (first | (with_reducible first | exact HB.out | apply q0h | apply q0d | apply q0f | refine q0g ?_ GE318.out | refine q0g ?_ GE329.out) | exact HB.out)) hb)
         clear HO_6
         clear BK318
         clear BK329
         clear HB
         have HO_6 := n0_
         have BK318 := n1_
         have BK329 := n2_
         have HB := n3_
         clear n0_ n1_ n2_ n3_
         (try clear hb)
         (try clear hb2)
         (try clear hk)
         (try clear hi)
         refine hK.out _ _ ⟨HS0_,HS1_,HS2_,HS3_,HS4_,HS5_,HS6_,HS7_⟩ (fun hHeld => ?_)
         clear hK K
         refine norm_ (a' := ?_) ?_ ?_
         rotate_left
         ·show Act.put _ (some 30) _ = _
          simp only [Act.put,zA,zB,zC,i64_w,i32_w]
          rfl
         refine pure_ (i := 12) (N := some 18) (v := ?_) (a' := ?_) #[true,true,true,true,true,true,true,true,true,true,true,true,true,false,false,true,false,false] rfl rfl (q0r HT_.out (by kernel_rfl)) (fun _ _ _ h => h) (Or.inl ⟨by rfl,?_⟩) ?_ ?_
         rotate_left
         ·intro w'
          go_simp
          with_reducible rfl
         rotate_left
         ·simp only [Act.put,zA,zB,zC,i64_w,i32_w]
          rfl
         refine pure_ (i := 13) (N := some 31) (v := ?_) (a' := ?_) #[true,true,true,true,true,true,true,true,true,true,true,true,true,true,false,true,false,false] rfl rfl (q0r HT_.out (by kernel_rfl)) (fun _ _ _ h => h) (Or.inl ⟨by rfl,?_⟩) ?_ ?_
         rotate_left
         ·intro w'
          go_simp
          with_reducible rfl
         rotate_left
         ·simp only [Act.put,zA,zB,zC,i64_w,i32_w]
          rfl
         refine pure_ (i := 14) (N := some 32) (v := ?_) (a' := ?_) #[true,true,true,true,true,true,true,true,true,true,true,true,true,true,true,true,false,false] rfl rfl (q0r HT_.out (by kernel_rfl)) (fun _ _ _ h => h) (Or.inl ⟨by rfl,?_⟩) ?_ ?_
         rotate_left
         ·intro w'
          go_simp
          with_reducible rfl
         rotate_left
         ·simp only [Act.put,zA,zB,zC,i64_w,i32_w]
          rfl
         exact norm_ (by simp only [putAll,Act.put,zA,zB,zC]) (hCont (gb329) _ ⟨hHeld,(by (with_reducible repeat (first | apply Kd.q0m | apply Kd.q0n | apply Kd.q0o));exact HO_6.out),(by (with_reducible repeat (first | refine q0b ?_ _ | refine q0c ?_ | refine q0a ?_ _));exact BK318.out),(by (with_reducible repeat (first | refine q0b ?_ _ | refine q0c ?_ | refine q0a ?_ _));exact BK329.out),GW329.out,GE329.out,NB318_329.out,NB329_318.out,(by repeat (first | (with_reducible first | exact HB.out | apply q0h | apply q0d | apply q0f | refine q0g ?_ GE318.out | refine q0g ?_ GE329.out) | exact HB.out))⟩)
       rintro gb329 w15 ⟨hS_,h0_,h1_,h2_,h3_,h4_,h5_,h6_,h7_⟩
       have n0_ : Aside0 (Kd.R k45 45 w15 w.heap.size (fun k_ => k_ ≠ gb318 ∧ k_ ≠ gb329) (.slice (some ad322) t319.length co11) t319) := ⟨h0_⟩
       have n1_ : Aside0 (w15.heap[gb318]? = some (.cells #[.string x319000_1,.string x319001_1,.int .i64 x319002_1,.int .i64 x319003_1] 45 (0,0))) := ⟨h1_⟩
       have n2_ : Aside0 (w15.heap[gb329]? = some (.cells #[.string (⟨#[]⟩ : ByteArray),.string (⟨#[]⟩ : ByteArray),.int .i64 0,.int .i64 0] 45 (0,0))) := ⟨h2_⟩
       have n3_ : Aside0 (w.heap.size ≤ gb329) := ⟨h3_⟩
       have n4_ : Aside0 (w.heap.size ≤ gb329) := ⟨h4_⟩
       have n5_ : Aside0 (gb318 ≠ gb329) := ⟨h5_⟩
       have n6_ : Aside0 (gb329 ≠ gb318) := ⟨h6_⟩
       have n7_ : Aside0 (Below w.heap.size w w15) := ⟨h7_⟩
       clear HO_6
       clear BK318
       clear HB
       clear h0_ h1_ h2_ h3_ h4_ h5_ h6_ h7_
       have HO_6 := n0_
       have BK318 := n1_
       have BK329 := n2_
       have GW329 := n3_
       have GE329 := n4_
       have NB318_329 := n5_
       have NB329_318 := n6_
       have HB := n7_
       clear n0_ n1_ n2_ n3_ n4_ n5_ n6_ n7_
       have hHeld : w15.cell? (ad322.add ((x7_1).toNat * 4)) = some (.string ((q0e t319 x7_1).f0)) ∧ w15.cell? ⟨(ad322.add ((x7_1).toNat * 4)).block,(ad322.add ((x7_1).toNat * 4)).off + 1,none⟩ = some (.string ((q0e t319 x7_1).f1)) ∧ w15.cell? ⟨(ad322.add ((x7_1).toNat * 4)).block,(ad322.add ((x7_1).toNat * 4)).off + 2,none⟩ = some (.int .i64 ((q0e t319 x7_1).f2)) ∧ w15.cell? ⟨(ad322.add ((x7_1).toNat * 4)).block,(ad322.add ((x7_1).toNat * 4)).off + 3,none⟩ = some (.int .i64 ((q0e t319 x7_1).f3)) ∧ w15.cell? (ad322.add ((x7_1).toNat * 4)) = some (.string ((q0e t319 x7_1).f0)) ∧ w15.cell? ⟨(ad322.add ((x7_1).toNat * 4)).block,(ad322.add ((x7_1).toNat * 4)).off + 1,none⟩ = some (.string ((q0e t319 x7_1).f1)) ∧ w15.cell? ⟨(ad322.add ((x7_1).toNat * 4)).block,(ad322.add ((x7_1).toNat * 4)).off + 2,none⟩ = some (.int .i64 ((q0e t319 x7_1).f2)) ∧ w15.cell? ⟨(ad322.add ((x7_1).toNat * 4)).block,(ad322.add ((x7_1).toNat * 4)).off + 3,none⟩ = some (.int .i64 ((q0e t319 x7_1).f3)) := hS_
       refine norm_ (a' := ?_) ?_ ?_
       rotate_left
       ·simp only [putAll,Act.put,zA,zB,zC]
        rfl
       refine one_ (i := 16) (N := none) #[true,true,true,true,true,true,true,true,true,true,true,true,true,true,true,true,true,false] rfl rfl (one_of HT_.out (by kernel_rfl)) (by decide) (fun K hK => ?_)
       have hs16 : w15.cell? ⟨gb329,0,none⟩ = some (.string (⟨#[]⟩ : ByteArray)) := (q0i BK329.out 0).trans rfl
       have hfs16 := q0k BK329.out 0
       have hns16_0 := NB318_329.out
       have hms16_0 := NB329_318.out
       have hs17 : w15.cell? ⟨gb329,1,none⟩ = some (.string (⟨#[]⟩ : ByteArray)) := (q0i BK329.out 1).trans rfl
       have hfs17 := q0k BK329.out 1
       have hns17_0 := NB318_329.out
       have hms17_0 := NB329_318.out
       have hs18 : w15.cell? ⟨gb329,2,none⟩ = some (.int .i64 0) := (q0i BK329.out 2).trans rfl
       have hfs18 := q0k BK329.out 2
       have hns18_0 := NB318_329.out
       have hms18_0 := NB329_318.out
       have hs19 : w15.cell? ⟨gb329,3,none⟩ = some (.int .i64 0) := (q0i BK329.out 3).trans rfl
       have hfs19 := q0k BK329.out 3
       have hns19_0 := NB318_329.out
       have hms19_0 := NB329_318.out
       refine skip_ (w1 := ?_) (by rfl) rfl ?_ ?_
       rotate_left
       ·go_simp
        rfl
       refine hK.out _ _ ⟨((cell_far (p := ⟨gb329,_,none⟩) (by first | exact Kd.q0j (Kd.q0l HO_6.out (fun _ hk => hk.2)) | (rw [add_block];exact Kd.q0j (Kd.q0l HO_6.out (fun _ hk => hk.2))) | (show (Addr.add _ _).block ≠ _;rw [add_block];exact Kd.q0j (Kd.q0l HO_6.out (fun _ hk => hk.2))) | (dsimp only;exact Kd.q0j (Kd.q0l HO_6.out (fun _ hk => hk.2)))) _).trans (((cell_far (p := ⟨gb329,_,none⟩) (by first | exact Kd.q0j (Kd.q0l HO_6.out (fun _ hk => hk.2)) | (rw [add_block];exact Kd.q0j (Kd.q0l HO_6.out (fun _ hk => hk.2))) | (show (Addr.add _ _).block ≠ _;rw [add_block];exact Kd.q0j (Kd.q0l HO_6.out (fun _ hk => hk.2))) | (dsimp only;exact Kd.q0j (Kd.q0l HO_6.out (fun _ hk => hk.2)))) _).trans (((cell_far (p := ⟨gb329,_,none⟩) (by first | exact Kd.q0j (Kd.q0l HO_6.out (fun _ hk => hk.2)) | (rw [add_block];exact Kd.q0j (Kd.q0l HO_6.out (fun _ hk => hk.2))) | (show (Addr.add _ _).block ≠ _;rw [add_block];exact Kd.q0j (Kd.q0l HO_6.out (fun _ hk => hk.2))) | (dsimp only;exact Kd.q0j (Kd.q0l HO_6.out (fun _ hk => hk.2)))) _).trans (((cell_far (p := ⟨gb329,_,none⟩) (by first | exact Kd.q0j (Kd.q0l HO_6.out (fun _ hk => hk.2)) | (rw [add_block];exact Kd.q0j (Kd.q0l HO_6.out (fun _ hk => hk.2))) | (show (Addr.add _ _).block ≠ _;rw [add_block];exact Kd.q0j (Kd.q0l HO_6.out (fun _ hk => hk.2))) | (dsimp only;exact Kd.q0j (Kd.q0l HO_6.out (fun _ hk => hk.2)))) _).trans (hHeld.1)))))))),((cell_far (p := ⟨gb329,_,none⟩) (by first | exact Kd.q0j (Kd.q0l HO_6.out (fun _ hk => hk.2)) | (rw [add_block];exact Kd.q0j (Kd.q0l HO_6.out (fun _ hk => hk.2))) | (show (Addr.add _ _).block ≠ _;rw [add_block];exact Kd.q0j (Kd.q0l HO_6.out (fun _ hk => hk.2))) | (dsimp only;exact Kd.q0j (Kd.q0l HO_6.out (fun _ hk => hk.2)))) _).trans (((cell_far (p := ⟨gb329,_,none⟩) (by first | exact Kd.q0j (Kd.q0l HO_6.out (fun _ hk => hk.2)) | (rw [add_block];exact Kd.q0j (Kd.q0l HO_6.out (fun _ hk => hk.2))) | (show (Addr.add _ _).block ≠ _;rw [add_block];exact Kd.q0j (Kd.q0l HO_6.out (fun _ hk => hk.2))) | (dsimp only;exact Kd.q0j (Kd.q0l HO_6.out (fun _ hk => hk.2)))) _).trans (((cell_far (p := ⟨gb329,_,none⟩) (by first | exact Kd.q0j (Kd.q0l HO_6.out (fun _ hk => hk.2)) | (rw [add_block];exact Kd.q0j (Kd.q0l HO_6.out (fun _ hk => hk.2))) | (show (Addr.add _ _).block ≠ _;rw [add_block];exact Kd.q0j (Kd.q0l HO_6.out (fun _ hk => hk.2))) | (dsimp only;exact Kd.q0j (Kd.q0l HO_6.out (fun _ hk => hk.2)))) _).trans (((cell_far (p := ⟨gb329,_,none⟩) (by first | exact Kd.q0j (Kd.q0l HO_6.out (fun _ hk => hk.2)) | (rw [add_block];exact Kd.q0j (Kd.q0l HO_6.out (fun _ hk => hk.2))) | (show (Addr.add _ _).block ≠ _;rw [add_block];exact Kd.q0j (Kd.q0l HO_6.out (fun _ hk => hk.2))) | (dsimp only;exact Kd.q0j (Kd.q0l HO_6.out (fun _ hk => hk.2)))) _).trans (hHeld.2.1)))))))),((cell_far (p := ⟨gb329,_,none⟩) (by first | exact Kd.q0j (Kd.q0l HO_6.out (fun _ hk => hk.2)) | (rw [add_block];exact Kd.q0j (Kd.q0l HO_6.out (fun _ hk => hk.2))) | (show (Addr.add _ _).block ≠ _;rw [add_block];exact Kd.q0j (Kd.q0l HO_6.out (fun _ hk => hk.2))) | (dsimp only;exact Kd.q0j (Kd.q0l HO_6.out (fun _ hk => hk.2)))) _).trans (((cell_far (p := ⟨gb329,_,none⟩) (by first | exact Kd.q0j (Kd.q0l HO_6.out (fun _ hk => hk.2)) | (rw [add_block];exact Kd.q0j (Kd.q0l HO_6.out (fun _ hk => hk.2))) | (show (Addr.add _ _).block ≠ _;rw [add_block];exact Kd.q0j (Kd.q0l HO_6.out (fun _ hk => hk.2))) | (dsimp only;exact Kd.q0j (Kd.q0l HO_6.out (fun _ hk => hk.2)))) _).trans (((cell_far (p := ⟨gb329,_,none⟩) (by first | exact Kd.q0j (Kd.q0l HO_6.out (fun _ hk => hk.2)) | (rw [add_block];exact Kd.q0j (Kd.q0l HO_6.out (fun _ hk => hk.2))) | (show (Addr.add _ _).block ≠ _;rw [add_block];exact Kd.q0j (Kd.q0l HO_6.out (fun _ hk => hk.2))) | (dsimp only;exact Kd.q0j (Kd.q0l HO_6.out (fun _ hk => hk.2)))) _).trans (((cell_far (p := ⟨gb329,_,none⟩) (by first | exact Kd.q0j (Kd.q0l HO_6.out (fun _ hk => hk.2)) | (rw [add_block];exact Kd.q0j (Kd.q0l HO_6.out (fun _ hk => hk.2))) | (show (Addr.add _ _).block ≠ _;rw [add_block];exact Kd.q0j (Kd.q0l HO_6.out (fun _ hk => hk.2))) | (dsimp only;exact Kd.q0j (Kd.q0l HO_6.out (fun _ hk => hk.2)))) _).trans (hHeld.2.2.1)))))))),((cell_far (p := ⟨gb329,_,none⟩) (by first | exact Kd.q0j (Kd.q0l HO_6.out (fun _ hk => hk.2)) | (rw [add_block];exact Kd.q0j (Kd.q0l HO_6.out (fun _ hk => hk.2))) | (show (Addr.add _ _).block ≠ _;rw [add_block];exact Kd.q0j (Kd.q0l HO_6.out (fun _ hk => hk.2))) | (dsimp only;exact Kd.q0j (Kd.q0l HO_6.out (fun _ hk => hk.2)))) _).trans (((cell_far (p := ⟨gb329,_,none⟩) (by first | exact Kd.q0j (Kd.q0l HO_6.out (fun _ hk => hk.2)) | (rw [add_block];exact Kd.q0j (Kd.q0l HO_6.out (fun _ hk => hk.2))) | (show (Addr.add _ _).block ≠ _;rw [add_block];exact Kd.q0j (Kd.q0l HO_6.out (fun _ hk => hk.2))) | (dsimp only;exact Kd.q0j (Kd.q0l HO_6.out (fun _ hk => hk.2)))) _).trans (((cell_far (p := ⟨gb329,_,none⟩) (by first | exact Kd.q0j (Kd.q0l HO_6.out (fun _ hk => hk.2)) | (rw [add_block];exact Kd.q0j (Kd.q0l HO_6.out (fun _ hk => hk.2))) | (show (Addr.add _ _).block ≠ _;rw [add_block];exact Kd.q0j (Kd.q0l HO_6.out (fun _ hk => hk.2))) | (dsimp only;exact Kd.q0j (Kd.q0l HO_6.out (fun _ hk => hk.2)))) _).trans (((cell_far (p := ⟨gb329,_,none⟩) (by first | exact Kd.q0j (Kd.q0l HO_6.out (fun _ hk => hk.2)) | (rw [add_block];exact Kd.q0j (Kd.q0l HO_6.out (fun _ hk => hk.2))) | (show (Addr.add _ _).block ≠ _;rw [add_block];exact Kd.q0j (Kd.q0l HO_6.out (fun _ hk => hk.2))) | (dsimp only;exact Kd.q0j (Kd.q0l HO_6.out (fun _ hk => hk.2)))) _).trans (hHeld.2.2.2.1)))))))),((cell_far (p := ⟨gb329,_,none⟩) (by first | exact Kd.q0j (Kd.q0l HO_6.out (fun _ hk => hk.2)) | (rw [add_block];exact Kd.q0j (Kd.q0l HO_6.out (fun _ hk => hk.2))) | (show (Addr.add _ _).block ≠ _;rw [add_block];exact Kd.q0j (Kd.q0l HO_6.out (fun _ hk => hk.2))) | (dsimp only;exact Kd.q0j (Kd.q0l HO_6.out (fun _ hk => hk.2)))) _).trans (((cell_far (p := ⟨gb329,_,none⟩) (by first | exact Kd.q0j (Kd.q0l HO_6.out (fun _ hk => hk.2)) | (rw [add_block];exact Kd.q0j (Kd.q0l HO_6.out (fun _ hk => hk.2))) | (show (Addr.add _ _).block ≠ _;rw [add_block];exact Kd.q0j (Kd.q0l HO_6.out (fun _ hk => hk.2))) | (dsimp only;exact Kd.q0j (Kd.q0l HO_6.out (fun _ hk => hk.2)))) _).trans (((cell_far (p := ⟨gb329,_,none⟩) (by first | exact Kd.q0j (Kd.q0l HO_6.out (fun _ hk => hk.2)) | (rw [add_block];exact Kd.q0j (Kd.q0l HO_6.out (fun _ hk => hk.2))) | (show (Addr.add _ _).block ≠ _;rw [add_block];exact Kd.q0j (Kd.q0l HO_6.out (fun _ hk => hk.2))) | (dsimp only;exact Kd.q0j (Kd.q0l HO_6.out (fun _ hk => hk.2)))) _).trans (((cell_far (p := ⟨gb329,_,none⟩) (by first | exact Kd.q0j (Kd.q0l HO_6.out (fun _ hk => hk.2)) | (rw [add_block];exact Kd.q0j (Kd.q0l HO_6.out (fun _ hk => hk.2))) | (show (Addr.add _ _).block ≠ _;rw [add_block];exact Kd.q0j (Kd.q0l HO_6.out (fun _ hk => hk.2))) | (dsimp only;exact Kd.q0j (Kd.q0l HO_6.out (fun _ hk => hk.2)))) _).trans (hHeld.2.2.2.2.1)))))))),((cell_far (p := ⟨gb329,_,none⟩) (by first | exact Kd.q0j (Kd.q0l HO_6.out (fun _ hk => hk.2)) | (rw [add_block];exact Kd.q0j (Kd.q0l HO_6.out (fun _ hk => hk.2))) | (show (Addr.add _ _).block ≠ _;rw [add_block];exact Kd.q0j (Kd.q0l HO_6.out (fun _ hk => hk.2))) | (dsimp only;exact Kd.q0j (Kd.q0l HO_6.out (fun _ hk => hk.2)))) _).trans (((cell_far (p := ⟨gb329,_,none⟩) (by first | exact Kd.q0j (Kd.q0l HO_6.out (fun _ hk => hk.2)) | (rw [add_block];exact Kd.q0j (Kd.q0l HO_6.out (fun _ hk => hk.2))) | (show (Addr.add _ _).block ≠ _;rw [add_block];exact Kd.q0j (Kd.q0l HO_6.out (fun _ hk => hk.2))) | (dsimp only;exact Kd.q0j (Kd.q0l HO_6.out (fun _ hk => hk.2)))) _).trans (((cell_far (p := ⟨gb329,_,none⟩) (by first | exact Kd.q0j (Kd.q0l HO_6.out (fun _ hk => hk.2)) | (rw [add_block];exact Kd.q0j (Kd.q0l HO_6.out (fun _ hk => hk.2))) | (show (Addr.add _ _).block ≠ _;rw [add_block];exact Kd.q0j (Kd.q0l HO_6.out (fun _ hk => hk.2))) | (dsimp only;exact Kd.q0j (Kd.q0l HO_6.out (fun _ hk => hk.2)))) _).trans (((cell_far (p := ⟨gb329,_,none⟩) (by first | exact Kd.q0j (Kd.q0l HO_6.out (fun _ hk => hk.2)) | (rw [add_block];exact Kd.q0j (Kd.q0l HO_6.out (fun _ hk => hk.2))) | (show (Addr.add _ _).block ≠ _;rw [add_block];exact Kd.q0j (Kd.q0l HO_6.out (fun _ hk => hk.2))) | (dsimp only;exact Kd.q0j (Kd.q0l HO_6.out (fun _ hk => hk.2)))) _).trans (hHeld.2.2.2.2.2.1)))))))),((cell_far (p := ⟨gb329,_,none⟩) (by first | exact Kd.q0j (Kd.q0l HO_6.out (fun _ hk => hk.2)) | (rw [add_block];exact Kd.q0j (Kd.q0l HO_6.out (fun _ hk => hk.2))) | (show (Addr.add _ _).block ≠ _;rw [add_block];exact Kd.q0j (Kd.q0l HO_6.out (fun _ hk => hk.2))) | (dsimp only;exact Kd.q0j (Kd.q0l HO_6.out (fun _ hk => hk.2)))) _).trans (((cell_far (p := ⟨gb329,_,none⟩) (by first | exact Kd.q0j (Kd.q0l HO_6.out (fun _ hk => hk.2)) | (rw [add_block];exact Kd.q0j (Kd.q0l HO_6.out (fun _ hk => hk.2))) | (show (Addr.add _ _).block ≠ _;rw [add_block];exact Kd.q0j (Kd.q0l HO_6.out (fun _ hk => hk.2))) | (dsimp only;exact Kd.q0j (Kd.q0l HO_6.out (fun _ hk => hk.2)))) _).trans (((cell_far (p := ⟨gb329,_,none⟩) (by first | exact Kd.q0j (Kd.q0l HO_6.out (fun _ hk => hk.2)) | (rw [add_block];exact Kd.q0j (Kd.q0l HO_6.out (fun _ hk => hk.2))) | (show (Addr.add _ _).block ≠ _;rw [add_block];exact Kd.q0j (Kd.q0l HO_6.out (fun _ hk => hk.2))) | (dsimp only;exact Kd.q0j (Kd.q0l HO_6.out (fun _ hk => hk.2)))) _).trans (((cell_far (p := ⟨gb329,_,none⟩) (by first | exact Kd.q0j (Kd.q0l HO_6.out (fun _ hk => hk.2)) | (rw [add_block];exact Kd.q0j (Kd.q0l HO_6.out (fun _ hk => hk.2))) | (show (Addr.add _ _).block ≠ _;rw [add_block];exact Kd.q0j (Kd.q0l HO_6.out (fun _ hk => hk.2))) | (dsimp only;exact Kd.q0j (Kd.q0l HO_6.out (fun _ hk => hk.2)))) _).trans (hHeld.2.2.2.2.2.2.1)))))))),((cell_far (p := ⟨gb329,_,none⟩) (by first | exact Kd.q0j (Kd.q0l HO_6.out (fun _ hk => hk.2)) | (rw [add_block];exact Kd.q0j (Kd.q0l HO_6.out (fun _ hk => hk.2))) | (show (Addr.add _ _).block ≠ _;rw [add_block];exact Kd.q0j (Kd.q0l HO_6.out (fun _ hk => hk.2))) | (dsimp only;exact Kd.q0j (Kd.q0l HO_6.out (fun _ hk => hk.2)))) _).trans (((cell_far (p := ⟨gb329,_,none⟩) (by first | exact Kd.q0j (Kd.q0l HO_6.out (fun _ hk => hk.2)) | (rw [add_block];exact Kd.q0j (Kd.q0l HO_6.out (fun _ hk => hk.2))) | (show (Addr.add _ _).block ≠ _;rw [add_block];exact Kd.q0j (Kd.q0l HO_6.out (fun _ hk => hk.2))) | (dsimp only;exact Kd.q0j (Kd.q0l HO_6.out (fun _ hk => hk.2)))) _).trans (((cell_far (p := ⟨gb329,_,none⟩) (by first | exact Kd.q0j (Kd.q0l HO_6.out (fun _ hk => hk.2)) | (rw [add_block];exact Kd.q0j (Kd.q0l HO_6.out (fun _ hk => hk.2))) | (show (Addr.add _ _).block ≠ _;rw [add_block];exact Kd.q0j (Kd.q0l HO_6.out (fun _ hk => hk.2))) | (dsimp only;exact Kd.q0j (Kd.q0l HO_6.out (fun _ hk => hk.2)))) _).trans (((cell_far (p := ⟨gb329,_,none⟩) (by first | exact Kd.q0j (Kd.q0l HO_6.out (fun _ hk => hk.2)) | (rw [add_block];exact Kd.q0j (Kd.q0l HO_6.out (fun _ hk => hk.2))) | (show (Addr.add _ _).block ≠ _;rw [add_block];exact Kd.q0j (Kd.q0l HO_6.out (fun _ hk => hk.2))) | (dsimp only;exact Kd.q0j (Kd.q0l HO_6.out (fun _ hk => hk.2)))) _).trans (hHeld.2.2.2.2.2.2.2))))))))⟩ (fun hHeld => ?_)
       clear hK K
       refine pure_ (i := 17) (N := some 9) (v := ?_) (a' := ?_) #[true,true,true,true,true,true,true,true,true,true,true,true,true,true,true,true,true,true] rfl rfl (q0r HT_.out (by kernel_rfl)) (fun _ _ _ h => h) (Or.inl ⟨by rfl,?_⟩) ?_ ?_
       rotate_left
       ·intro w'
        go_simp
        with_reducible rfl
       rotate_left
       ·simp only [Act.put,zA,zB,zC,i64_w,i32_w]
        rfl
       refine done_ (done_of HT_.out (by kernel_rfl)) ?_
       try go_wp2
       have n0_ : Aside0 (Kd.R k45 45 ((((w15.setCell ⟨gb329,0,none⟩ (.string t324)).setCell ⟨gb329,1,none⟩ (.string t325)).setCell ⟨gb329,2,none⟩ (.int .i64 t326)).setCell ⟨gb329,3,none⟩ (.int .i64 t327)) w.heap.size (fun k_ => k_ ≠ gb318 ∧ k_ ≠ gb329) (.slice (some ad322) t319.length co11) t319) := ⟨by (with_reducible repeat (first | apply Kd.q0m | apply Kd.q0n | apply Kd.q0o));exact Kd.R_mono (Kd.R_far (p := ⟨gb329,3,none⟩) (Kd.R_far (p := ⟨gb329,2,none⟩) (Kd.R_far (p := ⟨gb329,1,none⟩) (Kd.R_far (p := ⟨gb329,0,none⟩) (Kd.R_mono HO_6.out (fun k_ hk => (⟨hk,hk.2⟩ : _ ∧ k_ ≠ gb329))) (fun _ hk => hk.2) (.string t324)) (fun _ hk => hk.2) (.string t325)) (fun _ hk => hk.2) (.int .i64 t326)) (fun _ hk => hk.2) (.int .i64 t327)) (fun _ hk => ⟨hk.1.1,hk.1.2⟩)⟩
       have n1_ : Aside0 (((((w15.setCell ⟨gb329,0,none⟩ (.string t324)).setCell ⟨gb329,1,none⟩ (.string t325)).setCell ⟨gb329,2,none⟩ (.int .i64 t326)).setCell ⟨gb329,3,none⟩ (.int .i64 t327)).heap[gb318]? = some (.cells #[.string x319000_1,.string x319001_1,.int .i64 x319002_1,.int .i64 x319003_1] 45 (0,0))) := ⟨by (with_reducible repeat (first | refine q0b ?_ _ | refine q0c ?_ | refine q0a ?_ _));refine q0u ?_ NB318_329.out _;(with_reducible repeat (first | refine q0b ?_ _ | refine q0c ?_ | refine q0a ?_ _));refine q0u ?_ NB318_329.out _;(with_reducible repeat (first | refine q0b ?_ _ | refine q0c ?_ | refine q0a ?_ _));refine q0u ?_ NB318_329.out _;(with_reducible repeat (first | refine q0b ?_ _ | refine q0c ?_ | refine q0a ?_ _));refine q0u ?_ NB318_329.out _;(with_reducible repeat (first | refine q0b ?_ _ | refine q0c ?_ | refine q0a ?_ _));exact BK318.out⟩
       have n2_ : Aside0 (((((w15.setCell ⟨gb329,0,none⟩ (.string t324)).setCell ⟨gb329,1,none⟩ (.string t325)).setCell ⟨gb329,2,none⟩ (.int .i64 t326)).setCell ⟨gb329,3,none⟩ (.int .i64 t327)).heap[gb329]? = some (.cells #[.string t324,.string t325,.int .i64 t326,.int .i64 t327] 45 (0,0))) := ⟨by (with_reducible repeat (first | refine q0b ?_ _ | refine q0c ?_ | refine q0a ?_ _));refine q0t (cs := #[.string t324,.string t325,.int .i64 t326,.int .i64 0]) ?_ 3 _ rfl;(with_reducible repeat (first | refine q0b ?_ _ | refine q0c ?_ | refine q0a ?_ _));refine q0t (cs := #[.string t324,.string t325,.int .i64 0,.int .i64 0]) ?_ 2 _ rfl;(with_reducible repeat (first | refine q0b ?_ _ | refine q0c ?_ | refine q0a ?_ _));refine q0t (cs := #[.string t324,.string (⟨#[]⟩ : ByteArray),.int .i64 0,.int .i64 0]) ?_ 1 _ rfl;(with_reducible repeat (first | refine q0b ?_ _ | refine q0c ?_ | refine q0a ?_ _));refine q0t (cs := #[.string (⟨#[]⟩ : ByteArray),.string (⟨#[]⟩ : ByteArray),.int .i64 0,.int .i64 0]) ?_ 0 _ rfl;(with_reducible repeat (first | refine q0b ?_ _ | refine q0c ?_ | refine q0a ?_ _));exact BK329.out⟩
       have n3_ : Aside0 (Below w.heap.size w ((((w15.setCell ⟨gb329,0,none⟩ (.string t324)).setCell ⟨gb329,1,none⟩ (.string t325)).setCell ⟨gb329,2,none⟩ (.int .i64 t326)).setCell ⟨gb329,3,none⟩ (.int .i64 t327))) := ⟨by repeat (first | (with_reducible first | exact HB.out | apply q0h | apply q0d | apply q0f | refine q0g ?_ GE318.out | refine q0g ?_ GE329.out) | exact HB.out)⟩
       (try clear HO_6)
       (try clear BK318)
       (try clear BK329)
       (try clear HB)
       generalize ((((w15.setCell ⟨gb329,0,none⟩ (.string t324)).setCell ⟨gb329,1,none⟩ (.string t325)).setCell ⟨gb329,2,none⟩ (.int .i64 t326)).setCell ⟨gb329,3,none⟩ (.int .i64 t327)) = w20 at n0_ n1_ n2_ n3_ ⊢
       have HO_6 := n0_
       have BK318 := n1_
       have BK329 := n2_
       have HB := n3_
       clear n0_ n1_ n2_ n3_
       have n0_ := Aside0.mk (Kd.q0o HO_6.out)
       have n1_ := Aside0.mk (q0c BK318.out)
       have n2_ := Aside0.mk (q0c BK329.out)
       have n3_ := Aside0.mk (q0f HB.out)
       clear HO_6
       clear BK318
       clear BK329
       clear HB
       have HO_6 := n0_
       have BK318 := n1_
       have BK329 := n2_
       have HB := n3_
       clear n0_ n1_ n2_ n3_
       have p330 : 0 ≤ (x7_1 : Int) := of_decide_eq_true (by first | (with_reducible assumption) | assumption)
       have q330 : x7_1 < (t319.length : Int) := of_decide_eq_true (by first | (with_reducible assumption) | assumption)
       obtain ⟨ad330,e330,hx330_0,hx330_1,hx330_2,hx330_3⟩ := at_T45 (Kd.q02 HO_6.out).2.2 x7_1 p330 q330
       obtain rfl : ad322 = ad330 := (by injection e330)
       replace p330 := eq_true p330
       replace q330 := eq_true q330
       refine start_ (n := 22) (S := fun w' => w'.cell? ⟨gb329,0,none⟩ = some (.string t324) ∧ w'.cell? ⟨gb329,1,none⟩ = some (.string t325) ∧ w'.cell? ⟨gb329,2,none⟩ = some (.int .i64 t326) ∧ w'.cell? ⟨gb329,3,none⟩ = some (.int .i64 t327) ∧ w'.cell? (ad322.add ((x7_1).toNat * 4)) = some (.string ((q0e t319 x7_1).f0)) ∧ w'.cell? ⟨(ad322.add ((x7_1).toNat * 4)).block,(ad322.add ((x7_1).toNat * 4)).off + 1,none⟩ = some (.string ((q0e t319 x7_1).f1)) ∧ w'.cell? ⟨(ad322.add ((x7_1).toNat * 4)).block,(ad322.add ((x7_1).toNat * 4)).off + 2,none⟩ = some (.int .i64 ((q0e t319 x7_1).f2)) ∧ w'.cell? ⟨(ad322.add ((x7_1).toNat * 4)).block,(ad322.add ((x7_1).toNat * 4)).off + 3,none⟩ = some (.int .i64 ((q0e t319 x7_1).f3))) (ds := []) #[false,false,false,false,false,false,false,false,false,false,false,false,false,false,false,false,false,false,false,false,false,false] (by kernel_rfl) rfl rfl ⟨(q0i BK329.out 0).trans rfl,(q0i BK329.out 1).trans rfl,(q0i BK329.out 2).trans rfl,(q0i BK329.out 3).trans rfl,hx330_0,hx330_1,hx330_2,hx330_3⟩ (fun hHeld => ?_);refine with_tabW verdererref28_Judge.tab6 verdererref28_Judge.bits6 (fun HT_ HW_ => ?_)
       generalize w20.drew = w21 at HO_6 BK318 BK329 HB hx330_0 hx330_1 hx330_2 hx330_3 hHeld ⊢
       refine pure_ (i := 0) (N := some 33) (v := ?_) (a' := ?_) #[true,false,false,false,false,false,false,false,false,false,false,false,false,false,false,false,false,false,false,false,false,false] rfl rfl (q0r HT_.out (by kernel_rfl)) (fun _ _ _ h => h) (Or.inl ⟨by rfl,?_⟩) ?_ ?_
       rotate_left
       ·intro w'
        go_simp
        with_reducible rfl
       rotate_left
       ·simp only [Act.put,zA,zB,zC,i64_w,i32_w]
        rfl
       refine pure_ (i := 1) (N := some 34) (v := ?_) (a' := ?_) #[true,true,false,false,false,false,false,false,false,false,false,false,false,false,false,false,false,false,false,false,false,false] rfl rfl (q0r HT_.out (by kernel_rfl)) (fun _ _ _ h => h) (Or.inl ⟨by rfl,?_⟩) ?_ ?_
       rotate_left
       ·intro w'
        go_simp
        with_reducible rfl
       rotate_left
       ·simp only [Act.put,zA,zB,zC,i64_w,i32_w]
        rfl
       refine pure_ (i := 2) (N := some 35) (v := ?_) (a' := ?_) #[true,true,true,false,false,false,false,false,false,false,false,false,false,false,false,false,false,false,false,false,false,false] rfl rfl (q0r HT_.out (by kernel_rfl)) (fun _ _ _ h => h) (Or.inl ⟨by rfl,?_⟩) ?_ ?_
       rotate_left
       ·intro w'
        go_simp
        with_reducible rfl
       rotate_left
       ·simp only [Act.put,zA,zB,zC,i64_w,i32_w]
        rfl
       refine pure_ (i := 3) (N := some 36) (v := ?_) (a' := ?_) #[true,true,true,true,false,false,false,false,false,false,false,false,false,false,false,false,false,false,false,false,false,false] rfl rfl (q0r HT_.out (by kernel_rfl)) (fun _ _ _ h => h) (Or.inl ⟨by rfl,?_⟩) ?_ ?_
       rotate_left
       ·intro w'
        go_simp
        with_reducible rfl
       rotate_left
       ·simp only [Act.put,zA,zB,zC,i64_w,i32_w]
        rfl
       refine pure_ (i := 5) (N := some 38) (v := ?_) (a' := ?_) #[true,true,true,true,false,true,false,false,false,false,false,false,false,false,false,false,false,false,false,false,false,false] rfl rfl (q0r HT_.out (by kernel_rfl)) (fun _ _ _ h => h) (Or.inl ⟨by rfl,?_⟩) ?_ ?_
       rotate_left
       ·intro w'
        go_simp
        with_reducible rfl
       rotate_left
       ·simp only [Act.put,zA,zB,zC,i64_w,i32_w]
        rfl
       refine pure_ (i := 6) (N := some 39) (v := ?_) (a' := ?_) #[true,true,true,true,false,true,true,false,false,false,false,false,false,false,false,false,false,false,false,false,false,false] rfl rfl (q0r HT_.out (by kernel_rfl)) (fun _ _ _ h => h) (Or.inl ⟨by rfl,?_⟩) ?_ ?_
       rotate_left
       ·intro w'
        go_simp
        with_reducible rfl
       rotate_left
       ·simp only [Act.put,zA,zB,zC,i64_w,i32_w]
        rfl
       refine pure_ (i := 7) (N := some 40) (v := ?_) (a' := ?_) #[true,true,true,true,false,true,true,true,false,false,false,false,false,false,false,false,false,false,false,false,false,false] rfl rfl (q0r HT_.out (by kernel_rfl)) (fun _ _ _ h => h) (Or.inl ⟨by rfl,?_⟩) ?_ ?_
       rotate_left
       ·intro w'
        go_simp
        with_reducible rfl
       rotate_left
       ·simp only [Act.put,zA,zB,zC,i64_w,i32_w]
        rfl
       refine pure_ (i := 8) (N := some 41) (v := ?_) (a' := ?_) #[true,true,true,true,false,true,true,true,true,false,false,false,false,false,false,false,false,false,false,false,false,false] rfl rfl (q0r HT_.out (by kernel_rfl)) (fun _ _ _ h => h) (Or.inl ⟨by rfl,?_⟩) ?_ ?_
       rotate_left
       ·intro w'
        go_simp
        with_reducible rfl
       rotate_left
       ·simp only [Act.put,zA,zB,zC,i64_w,i32_w]
        rfl
       refine take_ (i := 4) (N := some 37) (v := ?_) (a' := ?_) #[true,true,true,true,true,true,true,true,true,false,false,false,false,false,false,false,false,false,false,false,false,false] rfl rfl (take_ofW HT_.out HW_.out (by kernel_rfl)) (fun _ _ _ h => h) (Or.inl ⟨by rfl,?_⟩) hHeld ?_ ?_
       rotate_left
       ·rintro w' ⟨s0,s1,s2,s3,s4,s5,s6,s7⟩
        go_simp
        with_reducible rfl
       rotate_left
       ·simp only [Act.put,zA,zB,zC,i64_w,i32_w]
        rfl
       refine take_ (i := 9) (N := some 42) (v := ?_) (a' := ?_) #[true,true,true,true,true,true,true,true,true,true,false,false,false,false,false,false,false,false,false,false,false,false] rfl rfl (take_ofW HT_.out HW_.out (by kernel_rfl)) (fun _ _ _ h => h) (Or.inl ⟨by rfl,?_⟩) hHeld ?_ ?_
       rotate_left
       ·rintro w' ⟨s0,s1,s2,s3,s4,s5,s6,s7⟩
        go_simp
        with_reducible rfl
       rotate_left
       ·simp only [Act.put,zA,zB,zC,i64_w,i32_w]
        rfl
       refine pure_ (i := 10) (N := some 43) (v := ?_) (a' := ?_) #[true,true,true,true,true,true,true,true,true,true,true,false,false,false,false,false,false,false,false,false,false,false] rfl rfl (q0r HT_.out (by kernel_rfl)) (fun _ _ _ h => h) (Or.inl ⟨by rfl,?_⟩) ?_ ?_
       rotate_left
       ·intro w'
        go_simp
        with_reducible rfl
       rotate_left
       ·simp only [Act.put,zA,zB,zC,i64_w,i32_w]
        rfl
       refine pure_ (i := 11) (N := some 44) (v := ?_) (a' := ?_) #[true,true,true,true,true,true,true,true,true,true,true,true,false,false,false,false,false,false,false,false,false,false] rfl rfl (q0r HT_.out (by kernel_rfl)) (fun _ _ _ h => h) (Or.inl ⟨by rfl,?_⟩) ?_ ?_
       rotate_left
       ·intro w'
        go_simp
        with_reducible rfl
       rotate_left
       ·simp only [Act.put,zA,zB,zC,i64_w,i32_w]
        rfl
       refine pure_ (i := 12) (N := some 45) (v := ?_) (a' := ?_) #[true,true,true,true,true,true,true,true,true,true,true,true,true,false,false,false,false,false,false,false,false,false] rfl rfl (q0r HT_.out (by kernel_rfl)) (fun _ _ _ h => h) (Or.inl ⟨by rfl,?_⟩) ?_ ?_
       rotate_left
       ·intro w'
        go_simp
        with_reducible rfl
       rotate_left
       ·simp only [Act.put,zA,zB,zC,i64_w,i32_w]
        rfl
       refine pure_ (i := 13) (N := some 46) (v := undef) (a' := ?_) #[true,true,true,true,true,true,true,true,true,true,true,true,true,true,false,false,false,false,false,false,false,false] rfl rfl (q0r HT_.out (by kernel_rfl)) (fun _ _ _ h => h) (Or.inr ⟨by rfl,rfl⟩) ?_ ?_
       rotate_left
       ·simp only [Act.put,zA,zB,zC,i64_w,i32_w]
        rfl
       refine pure_ (i := 14) (N := some 47) (v := undef) (a' := ?_) #[true,true,true,true,true,true,true,true,true,true,true,true,true,true,true,false,false,false,false,false,false,false] rfl rfl (q0r HT_.out (by kernel_rfl)) (fun _ _ _ h => h) (Or.inr ⟨by rfl,rfl⟩) ?_ ?_
       rotate_left
       ·simp only [Act.put,zA,zB,zC,i64_w,i32_w]
        rfl
       refine pure_ (i := 15) (N := some 48) (v := undef) (a' := ?_) #[true,true,true,true,true,true,true,true,true,true,true,true,true,true,true,true,false,false,false,false,false,false] rfl rfl (q0r HT_.out (by kernel_rfl)) (fun _ _ _ h => h) (Or.inr ⟨by rfl,rfl⟩) ?_ ?_
       rotate_left
       ·simp only [Act.put,zA,zB,zC,i64_w,i32_w]
        rfl
       refine pure_ (i := 16) (N := some 49) (v := undef) (a' := ?_) #[true,true,true,true,true,true,true,true,true,true,true,true,true,true,true,true,true,false,false,false,false,false] rfl rfl (q0r HT_.out (by kernel_rfl)) (fun _ _ _ h => h) (Or.inr ⟨by rfl,rfl⟩) ?_ ?_
       rotate_left
       ·simp only [Act.put,zA,zB,zC,i64_w,i32_w]
        rfl
       refine pure_ (i := 17) (N := some 50) (v := undef) (a' := ?_) #[true,true,true,true,true,true,true,true,true,true,true,true,true,true,true,true,true,true,false,false,false,false] rfl rfl (q0r HT_.out (by kernel_rfl)) (fun _ _ _ h => h) (Or.inr ⟨by rfl,rfl⟩) ?_ ?_
       rotate_left
       ·simp only [Act.put,zA,zB,zC,i64_w,i32_w]
        rfl
       refine pure_ (i := 18) (N := some 51) (v := undef) (a' := ?_) #[true,true,true,true,true,true,true,true,true,true,true,true,true,true,true,true,true,true,true,false,false,false] rfl rfl (q0r HT_.out (by kernel_rfl)) (fun _ _ _ h => h) (Or.inr ⟨by rfl,rfl⟩) ?_ ?_
       rotate_left
       ·simp only [Act.put,zA,zB,zC,i64_w,i32_w]
        rfl
       refine pure_ (i := 19) (N := some 52) (v := undef) (a' := ?_) #[true,true,true,true,true,true,true,true,true,true,true,true,true,true,true,true,true,true,true,true,false,false] rfl rfl (q0r HT_.out (by kernel_rfl)) (fun _ _ _ h => h) (Or.inr ⟨by rfl,rfl⟩) ?_ ?_
       rotate_left
       ·simp only [Act.put,zA,zB,zC,i64_w,i32_w]
        rfl
       refine pure_ (i := 20) (N := some 53) (v := undef) (a' := ?_) #[true,true,true,true,true,true,true,true,true,true,true,true,true,true,true,true,true,true,true,true,true,false] rfl rfl (q0r HT_.out (by kernel_rfl)) (fun _ _ _ h => h) (Or.inr ⟨by rfl,rfl⟩) ?_ ?_
       rotate_left
       ·simp only [Act.put,zA,zB,zC,i64_w,i32_w]
        rfl
       refine pure_ (i := 21) (N := some 54) (v := ?_) (a' := ?_) #[true,true,true,true,true,true,true,true,true,true,true,true,true,true,true,true,true,true,true,true,true,true] rfl rfl (q0r HT_.out (by kernel_rfl)) (fun _ _ _ h => h) (Or.inl ⟨by rfl,?_⟩) ?_ ?_
       rotate_left
       ·intro w'
        go_simp
        with_reducible rfl
       rotate_left
       ·simp only [Act.put,zA,zB,zC,i64_w,i32_w]
        rfl
       refine done_ (done_of HT_.out (by kernel_rfl)) ?_
       have p331 : 0 ≤ (x7_1 : Int) := of_decide_eq_true (by first | (with_reducible assumption) | assumption)
       have q331 : x7_1 < (t319.length : Int) := of_decide_eq_true (by first | (with_reducible assumption) | assumption)
       obtain ⟨ad331,e331,hx331_0,hx331_1,hx331_2,hx331_3⟩ := at_T45 (Kd.q02 HO_6.out).2.2 x7_1 p331 q331
       obtain rfl : ad322 = ad331 := (by injection e331)
       replace p331 := eq_true p331
       replace q331 := eq_true q331
       have hnb22 := NB318_329.out
       have hnc22 := NB329_318.out
       have hcz23_0 : w21.cell? ⟨gb318,0,none⟩ = some (.string x319000_1) := (q0i BK318.out 0).trans rfl
       have hcz23_1 : w21.cell? ⟨gb318,1,none⟩ = some (.string x319001_1) := (q0i BK318.out 1).trans rfl
       have hcz23_2 : w21.cell? ⟨gb318,2,none⟩ = some (.int .i64 x319002_1) := (q0i BK318.out 2).trans rfl
       have hcz23_3 : w21.cell? ⟨gb318,3,none⟩ = some (.int .i64 x319003_1) := (q0i BK318.out 3).trans rfl
       have hfz23_0 := q0k BK318.out 0
       have hfz23_1 := q0k BK318.out 1
       have hfz23_2 := q0k BK318.out 2
       have hfz23_3 := q0k BK318.out 3
       try go_wp2
       refine bodyPost_ret (results_ct rfl _ _ gb318 45 #[.string ((q0e t319 x7_1).f0),.string ((q0e t319 x7_1).f1),.int .i64 ((q0e t319 x7_1).f2),.int .i64 ((q0e t319 x7_1).f3)] (0,0) _ rfl (by (with_reducible repeat (first | refine q0b ?_ _ | refine q0c ?_ | refine q0a ?_ _));refine q0t (cs := #[.string ((q0e t319 x7_1).f0),.string ((q0e t319 x7_1).f1),.int .i64 ((q0e t319 x7_1).f2),.int .i64 x319003_1]) ?_ 3 _ rfl;(with_reducible repeat (first | refine q0b ?_ _ | refine q0c ?_ | refine q0a ?_ _));refine q0t (cs := #[.string ((q0e t319 x7_1).f0),.string ((q0e t319 x7_1).f1),.int .i64 x319002_1,.int .i64 x319003_1]) ?_ 2 _ rfl;(with_reducible repeat (first | refine q0b ?_ _ | refine q0c ?_ | refine q0a ?_ _));refine q0t (cs := #[.string ((q0e t319 x7_1).f0),.string x319001_1,.int .i64 x319002_1,.int .i64 x319003_1]) ?_ 1 _ rfl;(with_reducible repeat (first | refine q0b ?_ _ | refine q0c ?_ | refine q0a ?_ _));refine q0t (cs := #[.string x319000_1,.string x319001_1,.int .i64 x319002_1,.int .i64 x319003_1]) ?_ 0 _ rfl;(with_reducible repeat (first | refine q0b ?_ _ | refine q0c ?_ | refine q0a ?_ _));exact BK318.out) Try.underlying45 rfl (by kernel_rfl)) rfl ?_
       exact ⟨by first | rfl | (simp [q0w,q0x] <;> rfl) | (simp [*,q0w,q0x] <;> rfl),by repeat (first | (with_reducible first | exact HB.out | apply q0h | apply q0d | apply q0f | refine q0g ?_ GE318.out | refine q0g ?_ GE329.out) | exact HB.out)⟩
      ·rw [if_neg c10] at H
       have c10b0 : decide (t326 ≤ ((q0e t319 x7_1).f3)) = false := decide_eq_false c10
       clear c10
       by_cases c24 : t326 < ((q0e t319 x7_1).f2)
       ·rw [if_pos c24] at H
        have c24b0 : decide (t326 < ((q0e t319 x7_1).f2)) = true := decide_eq_true c24
        clear c24
        simp only [Option.some.injEq,Prod.mk.injEq] at H
        obtain ⟨rfl,rfl,rfl,rfl,rfl⟩ := H
        obtain ⟨Ao25,co25,eo25⟩ := Kd.R_slice HO_6.out
        subst eo25
        try go_wp2
        have n0_ := Aside0.mk (Kd.q0o HO_6.out)
        have n1_ := Aside0.mk (q0c BK318.out)
        have n2_ := Aside0.mk (q0f HB.out)
        clear HO_6
        clear BK318
        clear HB
        have HO_6 := n0_
        have BK318 := n1_
        have HB := n2_
        clear n0_ n1_ n2_
        have p322 : 0 ≤ (x7_1 : Int) := of_decide_eq_true (by first | (with_reducible assumption) | assumption)
        have q322 : x7_1 < (t319.length : Int) := of_decide_eq_true (by first | (with_reducible assumption) | assumption)
        obtain ⟨ad322,e322,hx322_0,hx322_1,hx322_2,hx322_3⟩ := at_T45 (Kd.q02 HO_6.out).2.2 x7_1 p322 q322
        cases e322
        replace p322 := eq_true p322
        replace q322 := eq_true q322
        have p323 : 0 ≤ (x7_1 : Int) := of_decide_eq_true (by first | (with_reducible assumption) | assumption)
        have q323 : x7_1 < (t319.length : Int) := of_decide_eq_true (by first | (with_reducible assumption) | assumption)
        obtain ⟨ad323,e323,hx323_0,hx323_1,hx323_2,hx323_3⟩ := at_T45 (Kd.q02 HO_6.out).2.2 x7_1 p323 q323
        obtain rfl : ad322 = ad323 := (by injection e323)
        replace p323 := eq_true p323
        replace q323 := eq_true q323
        refine start_ (n := 18) (S := fun w' => w'.cell? (ad322.add ((x7_1).toNat * 4)) = some (.string ((q0e t319 x7_1).f0)) ∧ w'.cell? ⟨(ad322.add ((x7_1).toNat * 4)).block,(ad322.add ((x7_1).toNat * 4)).off + 1,none⟩ = some (.string ((q0e t319 x7_1).f1)) ∧ w'.cell? ⟨(ad322.add ((x7_1).toNat * 4)).block,(ad322.add ((x7_1).toNat * 4)).off + 2,none⟩ = some (.int .i64 ((q0e t319 x7_1).f2)) ∧ w'.cell? ⟨(ad322.add ((x7_1).toNat * 4)).block,(ad322.add ((x7_1).toNat * 4)).off + 3,none⟩ = some (.int .i64 ((q0e t319 x7_1).f3)) ∧ w'.cell? (ad322.add ((x7_1).toNat * 4)) = some (.string ((q0e t319 x7_1).f0)) ∧ w'.cell? ⟨(ad322.add ((x7_1).toNat * 4)).block,(ad322.add ((x7_1).toNat * 4)).off + 1,none⟩ = some (.string ((q0e t319 x7_1).f1)) ∧ w'.cell? ⟨(ad322.add ((x7_1).toNat * 4)).block,(ad322.add ((x7_1).toNat * 4)).off + 2,none⟩ = some (.int .i64 ((q0e t319 x7_1).f2)) ∧ w'.cell? ⟨(ad322.add ((x7_1).toNat * 4)).block,(ad322.add ((x7_1).toNat * 4)).off + 3,none⟩ = some (.int .i64 ((q0e t319 x7_1).f3))) (ds := []) #[false,false,false,false,false,false,false,false,false,false,false,false,false,false,false,false,false,false] (by kernel_rfl) rfl rfl ⟨hx322_0,hx322_1,hx322_2,hx322_3,hx323_0,hx323_1,hx323_2,hx323_3⟩ (fun hHeld => ?_);refine with_tabW verdererref28_Judge.tab5 verdererref28_Judge.bits5 (fun HT_ HW_ => ?_)
        generalize wr.drew = w26 at HO_6 BK318 HB hx322_0 hx322_1 hx322_2 hx322_3 hx323_0 hx323_1 hx323_2 hx323_3 hHeld ⊢
        refine pure_ (i := 0) (N := some 19) (v := ?_) (a' := ?_) #[true,false,false,false,false,false,false,false,false,false,false,false,false,false,false,false,false,false] rfl rfl (q0r HT_.out (by kernel_rfl)) (fun _ _ _ h => h) (Or.inl ⟨by rfl,?_⟩) ?_ ?_
        rotate_left
        ·intro w'
         go_simp
         with_reducible rfl
        rotate_left
        ·simp only [Act.put,zA,zB,zC,i64_w,i32_w]
         rfl
        refine pure_ (i := 1) (N := some 20) (v := ?_) (a' := ?_) #[true,true,false,false,false,false,false,false,false,false,false,false,false,false,false,false,false,false] rfl rfl (q0r HT_.out (by kernel_rfl)) (fun _ _ _ h => h) (Or.inl ⟨by rfl,?_⟩) ?_ ?_
        rotate_left
        ·intro w'
         go_simp
         with_reducible rfl
        rotate_left
        ·simp only [Act.put,zA,zB,zC,i64_w,i32_w]
         rfl
        refine pure_ (i := 2) (N := some 21) (v := ?_) (a' := ?_) #[true,true,true,false,false,false,false,false,false,false,false,false,false,false,false,false,false,false] rfl rfl (q0r HT_.out (by kernel_rfl)) (fun _ _ _ h => h) (Or.inl ⟨by rfl,?_⟩) ?_ ?_
        rotate_left
        ·intro w'
         go_simp
         with_reducible rfl
        rotate_left
        ·simp only [Act.put,zA,zB,zC,i64_w,i32_w]
         rfl
        refine pure_ (i := 3) (N := some 22) (v := ?_) (a' := ?_) #[true,true,true,true,false,false,false,false,false,false,false,false,false,false,false,false,false,false] rfl rfl (q0r HT_.out (by kernel_rfl)) (fun _ _ _ h => h) (Or.inl ⟨by rfl,?_⟩) ?_ ?_
        rotate_left
        ·intro w'
         go_simp
         with_reducible rfl
        rotate_left
        ·simp only [Act.put,zA,zB,zC,i64_w,i32_w]
         rfl
        refine pure_ (i := 5) (N := some 24) (v := ?_) (a' := ?_) #[true,true,true,true,false,true,false,false,false,false,false,false,false,false,false,false,false,false] rfl rfl (q0r HT_.out (by kernel_rfl)) (fun _ _ _ h => h) (Or.inl ⟨by rfl,?_⟩) ?_ ?_
        rotate_left
        ·intro w'
         go_simp
         with_reducible rfl
        rotate_left
        ·simp only [Act.put,zA,zB,zC,i64_w,i32_w]
         rfl
        refine pure_ (i := 6) (N := some 25) (v := ?_) (a' := ?_) #[true,true,true,true,false,true,true,false,false,false,false,false,false,false,false,false,false,false] rfl rfl (q0r HT_.out (by kernel_rfl)) (fun _ _ _ h => h) (Or.inl ⟨by rfl,?_⟩) ?_ ?_
        rotate_left
        ·intro w'
         go_simp
         with_reducible rfl
        rotate_left
        ·simp only [Act.put,zA,zB,zC,i64_w,i32_w]
         rfl
        refine pure_ (i := 7) (N := some 26) (v := ?_) (a' := ?_) #[true,true,true,true,false,true,true,true,false,false,false,false,false,false,false,false,false,false] rfl rfl (q0r HT_.out (by kernel_rfl)) (fun _ _ _ h => h) (Or.inl ⟨by rfl,?_⟩) ?_ ?_
        rotate_left
        ·intro w'
         go_simp
         with_reducible rfl
        rotate_left
        ·simp only [Act.put,zA,zB,zC,i64_w,i32_w]
         rfl
        refine pure_ (i := 8) (N := some 27) (v := ?_) (a' := ?_) #[true,true,true,true,false,true,true,true,true,false,false,false,false,false,false,false,false,false] rfl rfl (q0r HT_.out (by kernel_rfl)) (fun _ _ _ h => h) (Or.inl ⟨by rfl,?_⟩) ?_ ?_
        rotate_left
        ·intro w'
         go_simp
         with_reducible rfl
        rotate_left
        ·simp only [Act.put,zA,zB,zC,i64_w,i32_w]
         rfl
        refine pure_ (i := 10) (N := some 29) (v := ?_) (a' := ?_) #[true,true,true,true,false,true,true,true,true,false,true,false,false,false,false,false,false,false] rfl rfl (q0r HT_.out (by kernel_rfl)) (fun _ _ _ h => h) (Or.inl ⟨by rfl,?_⟩) ?_ ?_
        rotate_left
        ·intro w'
         go_simp
         with_reducible rfl
        rotate_left
        ·simp only [Act.put,zA,zB,zC,i64_w,i32_w]
         rfl
        refine take_ (i := 4) (N := some 23) (v := ?_) (a' := ?_) #[true,true,true,true,true,true,true,true,true,false,true,false,false,false,false,false,false,false] rfl rfl (take_ofW HT_.out HW_.out (by kernel_rfl)) (fun _ _ _ h => h) (Or.inl ⟨by rfl,?_⟩) hHeld ?_ ?_
        rotate_left
        ·rintro w' ⟨s0,s1,s2,s3,s4,s5,s6,s7⟩
         go_simp
         with_reducible rfl
        rotate_left
        ·simp only [Act.put,zA,zB,zC,i64_w,i32_w]
         rfl
        refine take_ (i := 9) (N := some 28) (v := ?_) (a' := ?_) #[true,true,true,true,true,true,true,true,true,true,true,false,false,false,false,false,false,false] rfl rfl (take_ofW HT_.out HW_.out (by kernel_rfl)) (fun _ _ _ h => h) (Or.inl ⟨by rfl,?_⟩) hHeld ?_ ?_
        rotate_left
        ·rintro w' ⟨s0,s1,s2,s3,s4,s5,s6,s7⟩
         go_simp
         with_reducible rfl
        rotate_left
        ·simp only [Act.put,zA,zB,zC,i64_w,i32_w]
         rfl
        refine join_ (σ := Nat) 2 #[true,true,true,true,true,true,true,true,true,true,true,true,true,true,true,true,false,false] (fun s_ => [(30,.tuple #[.agg #[.string t324,.string t325,.int .i64 t326,.int .i64 t327],.bool true]),(8,.pointer (some ⟨s_,0,none⟩)),(18,.tuple #[.agg #[.string t324,.string t325,.int .i64 t326,.int .i64 t327],.bool true]),(31,.agg #[.string t324,.string t325,.int .i64 t326,.int .i64 t327]),(32,.bool true)]) (fun s_ w' => (w'.cell? (ad322.add ((x7_1).toNat * 4)) = some (.string ((q0e t319 x7_1).f0)) ∧ w'.cell? ⟨(ad322.add ((x7_1).toNat * 4)).block,(ad322.add ((x7_1).toNat * 4)).off + 1,none⟩ = some (.string ((q0e t319 x7_1).f1)) ∧ w'.cell? ⟨(ad322.add ((x7_1).toNat * 4)).block,(ad322.add ((x7_1).toNat * 4)).off + 2,none⟩ = some (.int .i64 ((q0e t319 x7_1).f2)) ∧ w'.cell? ⟨(ad322.add ((x7_1).toNat * 4)).block,(ad322.add ((x7_1).toNat * 4)).off + 3,none⟩ = some (.int .i64 ((q0e t319 x7_1).f3)) ∧ w'.cell? (ad322.add ((x7_1).toNat * 4)) = some (.string ((q0e t319 x7_1).f0)) ∧ w'.cell? ⟨(ad322.add ((x7_1).toNat * 4)).block,(ad322.add ((x7_1).toNat * 4)).off + 1,none⟩ = some (.string ((q0e t319 x7_1).f1)) ∧ w'.cell? ⟨(ad322.add ((x7_1).toNat * 4)).block,(ad322.add ((x7_1).toNat * 4)).off + 2,none⟩ = some (.int .i64 ((q0e t319 x7_1).f2)) ∧ w'.cell? ⟨(ad322.add ((x7_1).toNat * 4)).block,(ad322.add ((x7_1).toNat * 4)).off + 3,none⟩ = some (.int .i64 ((q0e t319 x7_1).f3))) ∧ (Kd.R k45 45 w' w.heap.size (fun k_ => k_ ≠ gb318 ∧ k_ ≠ s_) (.slice (some ad322) t319.length co25) t319) ∧ (w'.heap[gb318]? = some (.cells #[.string x319000_1,.string x319001_1,.int .i64 x319002_1,.int .i64 x319003_1] 45 (0,0))) ∧ (w'.heap[s_]? = some (.cells #[.string (⟨#[]⟩ : ByteArray),.string (⟨#[]⟩ : ByteArray),.int .i64 0,.int .i64 0] 45 (0,0))) ∧ (w.heap.size ≤ s_) ∧ (w.heap.size ≤ s_) ∧ (gb318 ≠ s_) ∧ (s_ ≠ gb318) ∧ (Below w.heap.size w w')) ?_ ?_
        rotate_left
        ·intro hCont
         refine two_ (i := 11) (j := 15) (Ni := some 30) (Nj := some 8) #[true,true,true,true,true,true,true,true,true,true,true,true,false,false,false,false,false,false] #[true,true,true,true,true,true,true,true,true,true,true,false,false,false,false,true,false,false] rfl rfl rfl rfl (two_of HT_.out (by kernel_rfl)) (by decide) (by decide) (fun K hK => ?_) (fun K hK => ?_)
         ·skip
          refine goes_ Try.func53 (by kernel_rfl) rfl #[.string ((q0e t319 x7_1).f0),.string ((q0e t319 x7_1).f1),.slice A0 l0.length c0] (by rfl) rfl rfl (by (try simp only [List.map_toArray,List.map_cons,List.map_nil]);first | done | rfl | (simp only [List.length_drop,List.length_take];rfl)) ?_
          with_reducible refine (verdererref27_Find.calls k1 ((q0e t319 x7_1).f0) ((q0e t319 x7_1).f1) _ _ l0 t324 t325 t326 t327 true _ ?side1 ?side2 A8.out).mono ?_
          (case side1 => repeat (first | exact (Kd.C_below HR0.out HB.out) | (with_reducible refine Kd.C_alloc ?_ _) | (with_reducible refine Kd.C_drewN ?_ _) | (with_reducible refine Kd.C_drew ?_)))
          (case side2 => exact HC0.out)
          rintro e w27 ⟨rfl,hb⟩
          have HS0_ := (hb.cell (World.block_lt_of_cell? _ _ (hHeld.1))).trans (hHeld.1)
          have HS1_ := (hb.cell (World.block_lt_of_cell? _ _ (hHeld.2.1))).trans (hHeld.2.1)
          have HS2_ := (hb.cell (World.block_lt_of_cell? _ _ (hHeld.2.2.1))).trans (hHeld.2.2.1)
          have HS3_ := (hb.cell (World.block_lt_of_cell? _ _ (hHeld.2.2.2.1))).trans (hHeld.2.2.2.1)
          have HS4_ := (hb.cell (World.block_lt_of_cell? _ _ (hHeld.2.2.2.2.1))).trans (hHeld.2.2.2.2.1)
          have HS5_ := (hb.cell (World.block_lt_of_cell? _ _ (hHeld.2.2.2.2.2.1))).trans (hHeld.2.2.2.2.2.1)
          have HS6_ := (hb.cell (World.block_lt_of_cell? _ _ (hHeld.2.2.2.2.2.2.1))).trans (hHeld.2.2.2.2.2.2.1)
          have HS7_ := (hb.cell (World.block_lt_of_cell? _ _ (hHeld.2.2.2.2.2.2.2))).trans (hHeld.2.2.2.2.2.2.2)
          refine ⟨_,rfl,?_⟩
          have n0_ := Aside0.mk (Kd.q0v (by (with_reducible repeat (first | apply Kd.q0m | apply Kd.q0n | apply Kd.q0o));exact HO_6.out) hb)
          have n1_ := Aside0.mk (q0q (g := gb318) (o := .cells #[.string x319000_1,.string x319001_1,.int .i64 x319002_1,.int .i64 x319003_1] 45 (0,0)) (by (with_reducible repeat (first | refine q0b ?_ _ | refine q0c ?_ | refine q0a ?_ _));exact BK318.out) hb)
          have n2_ := Aside0.mk (q0s (by repeat (first | (with_reducible first | exact HB.out | apply q0h | apply q0d | apply q0f | refine q0g ?_ GE318.out) | exact HB.out)) hb)
          clear HO_6
          clear BK318
          clear HB
          have HO_6 := n0_
          have BK318 := n1_
          have HB := n2_
          clear n0_ n1_ n2_
          (try clear hb)
          (try clear hb2)
          (try clear hk)
          (try clear hi)
          refine hK.out _ _ ⟨HS0_,HS1_,HS2_,HS3_,HS4_,HS5_,HS6_,HS7_⟩ (fun hHeld => ?_)
          clear hK K
          refine norm_ (a' := ?_) ?_ ?_
          rotate_left
          ·show Act.put _ (some 30) _ = _
           simp only [Act.put,zA,zB,zC,i64_w,i32_w]
           rfl
          refine pure_ (i := 12) (N := some 18) (v := ?_) (a' := ?_) #[true,true,true,true,true,true,true,true,true,true,true,true,true,false,false,false,false,false] rfl rfl (q0r HT_.out (by kernel_rfl)) (fun _ _ _ h => h) (Or.inl ⟨by rfl,?_⟩) ?_ ?_
          rotate_left
          ·intro w'
           go_simp
           with_reducible rfl
          rotate_left
          ·simp only [Act.put,zA,zB,zC,i64_w,i32_w]
           rfl
          refine pure_ (i := 13) (N := some 31) (v := ?_) (a' := ?_) #[true,true,true,true,true,true,true,true,true,true,true,true,true,true,false,false,false,false] rfl rfl (q0r HT_.out (by kernel_rfl)) (fun _ _ _ h => h) (Or.inl ⟨by rfl,?_⟩) ?_ ?_
          rotate_left
          ·intro w'
           go_simp
           with_reducible rfl
          rotate_left
          ·simp only [Act.put,zA,zB,zC,i64_w,i32_w]
           rfl
          refine pure_ (i := 14) (N := some 32) (v := ?_) (a' := ?_) #[true,true,true,true,true,true,true,true,true,true,true,true,true,true,true,false,false,false] rfl rfl (q0r HT_.out (by kernel_rfl)) (fun _ _ _ h => h) (Or.inl ⟨by rfl,?_⟩) ?_ ?_
          rotate_left
          ·intro w'
           go_simp
           with_reducible rfl
          rotate_left
          ·simp only [Act.put,zA,zB,zC,i64_w,i32_w]
           rfl
          refine one_ (i := 15) (N := some 8) #[true,true,true,true,true,true,true,true,true,true,true,true,true,true,true,true,false,false] rfl rfl (one_of HT_.out (by kernel_rfl)) (by decide) (fun K hK => ?_)
          refine box_step ?hg (N := 8) ?hd (cs := #[.string (⟨#[]⟩ : ByteArray),.string (⟨#[]⟩ : ByteArray),.int .i64 0,.int .i64 0]) (t := 45) ?hr ?_;(case hd => rfl);(case hg => rfl);(case hr => first | (go_simp;done) | (go_simp;rfl))
          intro gb329 hg w28 hbox hb
          have HS0_ := (hb.cell (World.block_lt_of_cell? _ _ (hHeld.1))).trans (hHeld.1)
          have HS1_ := (hb.cell (World.block_lt_of_cell? _ _ (hHeld.2.1))).trans (hHeld.2.1)
          have HS2_ := (hb.cell (World.block_lt_of_cell? _ _ (hHeld.2.2.1))).trans (hHeld.2.2.1)
          have HS3_ := (hb.cell (World.block_lt_of_cell? _ _ (hHeld.2.2.2.1))).trans (hHeld.2.2.2.1)
          have HS4_ := (hb.cell (World.block_lt_of_cell? _ _ (hHeld.2.2.2.2.1))).trans (hHeld.2.2.2.2.1)
          have HS5_ := (hb.cell (World.block_lt_of_cell? _ _ (hHeld.2.2.2.2.2.1))).trans (hHeld.2.2.2.2.2.1)
          have HS6_ := (hb.cell (World.block_lt_of_cell? _ _ (hHeld.2.2.2.2.2.2.1))).trans (hHeld.2.2.2.2.2.2.1)
          have HS7_ := (hb.cell (World.block_lt_of_cell? _ _ (hHeld.2.2.2.2.2.2.2))).trans (hHeld.2.2.2.2.2.2.2)
          have n0_ := Aside0.mk (Kd.q0v (Kd.R_elderB (by (with_reducible repeat (first | apply Kd.q0m | apply Kd.q0n | apply Kd.q0o));exact HO_6.out) gb329 (Nat.le_of_eq hg.symm)) hb)
          have n1_ := Aside0.mk (q0q (g := gb318) (o := .cells #[.string x319000_1,.string x319001_1,.int .i64 x319002_1,.int .i64 x319003_1] 45 (0,0)) (by (with_reducible repeat (first | refine q0b ?_ _ | refine q0c ?_ | refine q0a ?_ _));exact BK318.out) hb)
          have n2_ := Aside0.mk (q0s (by repeat (first | (with_reducible first | exact HB.out | apply q0h | apply q0d | apply q0f | refine q0g ?_ GE318.out) | exact HB.out)) hb)
          have n3_ := Aside0.mk (hbox)
          have n4_ := Aside0.mk ((by rw [hg];exact (q0p (by repeat (first | (with_reducible first | exact HB.out | apply q0h | apply q0d | apply q0f | refine q0g ?_ GE318.out) | exact HB.out))) : w.heap.size ≤ gb329))
          have n5_ := Aside0.mk ((by rw [hg];exact (q0p (by repeat (first | (with_reducible first | exact HB.out | apply q0h | apply q0d | apply q0f | refine q0g ?_ GE318.out) | exact HB.out))) : w.heap.size ≤ gb329))
          have n6_ := Aside0.mk ((by rw [hg];exact Nat.ne_of_lt (q0y (g := gb318) (o := .cells #[.string x319000_1,.string x319001_1,.int .i64 x319002_1,.int .i64 x319003_1] 45 (0,0)) (by (with_reducible repeat (first | refine q0b ?_ _ | refine q0c ?_ | refine q0a ?_ _));exact BK318.out)) : gb318 ≠ gb329))
          have n7_ := Aside0.mk ((by rw [hg];exact Nat.ne_of_gt (q0y (g := gb318) (o := .cells #[.string x319000_1,.string x319001_1,.int .i64 x319002_1,.int .i64 x319003_1] 45 (0,0)) (by (with_reducible repeat (first | refine q0b ?_ _ | refine q0c ?_ | refine q0a ?_ _));exact BK318.out)) : gb329 ≠ gb318))
          clear HO_6
          clear BK318
          clear HB
          have HO_6 := n0_
          have BK318 := n1_
          have HB := n2_
          have BK329 := n3_
          have GW329 := n4_
          have GE329 := n5_
          have NB318_329 := n6_
          have NB329_318 := n7_
          clear n0_ n1_ n2_ n3_ n4_ n5_ n6_ n7_
          clear hb hbox hg
          refine hK.out _ _ ⟨HS0_,HS1_,HS2_,HS3_,HS4_,HS5_,HS6_,HS7_⟩ (fun hHeld => ?_)
          clear hK K
          refine norm_ (a' := ?_) ?_ ?_
          rotate_left
          ·show Act.put _ (some 8) _ = _
           simp only [Act.put,zA,zB,zC,i64_w,i32_w]
           rfl
          exact norm_ (by simp only [putAll,Act.put,zA,zB,zC]) (hCont (gb329) _ ⟨hHeld,(by (with_reducible repeat (first | apply Kd.q0m | apply Kd.q0n | apply Kd.q0o));exact HO_6.out),(by (with_reducible repeat (first | refine q0b ?_ _ | refine q0c ?_ | refine q0a ?_ _));exact BK318.out),(by (with_reducible repeat (first | refine q0b ?_ _ | refine q0c ?_ | refine q0a ?_ _));exact BK329.out),GW329.out,GE329.out,NB318_329.out,NB329_318.out,(by repeat (first | (with_reducible first | exact HB.out | apply q0h | apply q0d | apply q0f | refine q0g ?_ GE318.out | refine q0g ?_ GE329.out) | exact HB.out))⟩)
         ·skip
          refine box_step ?hg (N := 8) ?hd (cs := #[.string (⟨#[]⟩ : ByteArray),.string (⟨#[]⟩ : ByteArray),.int .i64 0,.int .i64 0]) (t := 45) ?hr ?_;(case hd => rfl);(case hg => rfl);(case hr => first | (go_simp;done) | (go_simp;rfl))
          intro gb329 hg w27 hbox hb
          have HS0_ := (hb.cell (World.block_lt_of_cell? _ _ (hHeld.1))).trans (hHeld.1)
          have HS1_ := (hb.cell (World.block_lt_of_cell? _ _ (hHeld.2.1))).trans (hHeld.2.1)
          have HS2_ := (hb.cell (World.block_lt_of_cell? _ _ (hHeld.2.2.1))).trans (hHeld.2.2.1)
          have HS3_ := (hb.cell (World.block_lt_of_cell? _ _ (hHeld.2.2.2.1))).trans (hHeld.2.2.2.1)
          have HS4_ := (hb.cell (World.block_lt_of_cell? _ _ (hHeld.2.2.2.2.1))).trans (hHeld.2.2.2.2.1)
          have HS5_ := (hb.cell (World.block_lt_of_cell? _ _ (hHeld.2.2.2.2.2.1))).trans (hHeld.2.2.2.2.2.1)
          have HS6_ := (hb.cell (World.block_lt_of_cell? _ _ (hHeld.2.2.2.2.2.2.1))).trans (hHeld.2.2.2.2.2.2.1)
          have HS7_ := (hb.cell (World.block_lt_of_cell? _ _ (hHeld.2.2.2.2.2.2.2))).trans (hHeld.2.2.2.2.2.2.2)
          have n0_ := Aside0.mk (Kd.q0v (Kd.R_elderB (by (with_reducible repeat (first | apply Kd.q0m | apply Kd.q0n | apply Kd.q0o));exact HO_6.out) gb329 (Nat.le_of_eq hg.symm)) hb)
          have n1_ := Aside0.mk (q0q (g := gb318) (o := .cells #[.string x319000_1,.string x319001_1,.int .i64 x319002_1,.int .i64 x319003_1] 45 (0,0)) (by (with_reducible repeat (first | refine q0b ?_ _ | refine q0c ?_ | refine q0a ?_ _));exact BK318.out) hb)
          have n2_ := Aside0.mk (q0s (by repeat (first | (with_reducible first | exact HB.out | apply q0h | apply q0d | apply q0f | refine q0g ?_ GE318.out) | exact HB.out)) hb)
          have n3_ := Aside0.mk (hbox)
          have n4_ := Aside0.mk ((by rw [hg];exact (q0p (by repeat (first | (with_reducible first | exact HB.out | apply q0h | apply q0d | apply q0f | refine q0g ?_ GE318.out) | exact HB.out))) : w.heap.size ≤ gb329))
          have n5_ := Aside0.mk ((by rw [hg];exact (q0p (by repeat (first | (with_reducible first | exact HB.out | apply q0h | apply q0d | apply q0f | refine q0g ?_ GE318.out) | exact HB.out))) : w.heap.size ≤ gb329))
          have n6_ := Aside0.mk ((by rw [hg];exact Nat.ne_of_lt (q0y (g := gb318) (o := .cells #[.string x319000_1,.string x319001_1,.int .i64 x319002_1,.int .i64 x319003_1] 45 (0,0)) (by (with_reducible repeat (first | refine q0b ?_ _ | refine q0c ?_ | refine q0a ?_ _));exact BK318.out)) : gb318 ≠ gb329))
          have n7_ := Aside0.mk ((by rw [hg];exact Nat.ne_of_gt (q0y (g := gb318) (o := .cells #[.string x319000_1,.string x319001_1,.int .i64 x319002_1,.int .i64 x319003_1] 45 (0,0)) (by (with_reducible repeat (first | refine q0b ?_ _ | refine q0c ?_ | refine q0a ?_ _));exact BK318.out)) : gb329 ≠ gb318))
          clear HO_6
          clear BK318
          clear HB
          have HO_6 := n0_
          have BK318 := n1_
          have HB := n2_
          have BK329 := n3_
          have GW329 := n4_
          have GE329 := n5_
          have NB318_329 := n6_
          have NB329_318 := n7_
          clear n0_ n1_ n2_ n3_ n4_ n5_ n6_ n7_
          clear hb hbox hg
          refine hK.out _ _ ⟨HS0_,HS1_,HS2_,HS3_,HS4_,HS5_,HS6_,HS7_⟩ (fun hHeld => ?_)
          clear hK K
          refine norm_ (a' := ?_) ?_ ?_
          rotate_left
          ·show Act.put _ (some 8) _ = _
           simp only [Act.put,zA,zB,zC,i64_w,i32_w]
           rfl
          refine one_ (i := 11) (N := some 30) #[true,true,true,true,true,true,true,true,true,true,true,true,false,false,false,true,false,false] rfl rfl (one_of HT_.out (by kernel_rfl)) (by decide) (fun K hK => ?_)
          refine goes_ Try.func53 (by kernel_rfl) rfl #[.string ((q0e t319 x7_1).f0),.string ((q0e t319 x7_1).f1),.slice A0 l0.length c0] (by rfl) rfl rfl (by (try simp only [List.map_toArray,List.map_cons,List.map_nil]);first | done | rfl | (simp only [List.length_drop,List.length_take];rfl)) ?_
          with_reducible refine (verdererref27_Find.calls k1 ((q0e t319 x7_1).f0) ((q0e t319 x7_1).f1) _ _ l0 t324 t325 t326 t327 true _ ?side1 ?side2 A8.out).mono ?_
          (case side1 => repeat (first | exact (Kd.C_below HR0.out HB.out) | (with_reducible refine Kd.C_alloc ?_ _) | (with_reducible refine Kd.C_drewN ?_ _) | (with_reducible refine Kd.C_drew ?_)))
          (case side2 => exact HC0.out)
          rintro e w28 ⟨rfl,hb⟩
          have HS0_ := (hb.cell (World.block_lt_of_cell? _ _ (hHeld.1))).trans (hHeld.1)
          have HS1_ := (hb.cell (World.block_lt_of_cell? _ _ (hHeld.2.1))).trans (hHeld.2.1)
          have HS2_ := (hb.cell (World.block_lt_of_cell? _ _ (hHeld.2.2.1))).trans (hHeld.2.2.1)
          have HS3_ := (hb.cell (World.block_lt_of_cell? _ _ (hHeld.2.2.2.1))).trans (hHeld.2.2.2.1)
          have HS4_ := (hb.cell (World.block_lt_of_cell? _ _ (hHeld.2.2.2.2.1))).trans (hHeld.2.2.2.2.1)
          have HS5_ := (hb.cell (World.block_lt_of_cell? _ _ (hHeld.2.2.2.2.2.1))).trans (hHeld.2.2.2.2.2.1)
          have HS6_ := (hb.cell (World.block_lt_of_cell? _ _ (hHeld.2.2.2.2.2.2.1))).trans (hHeld.2.2.2.2.2.2.1)
          have HS7_ := (hb.cell (World.block_lt_of_cell? _ _ (hHeld.2.2.2.2.2.2.2))).trans (hHeld.2.2.2.2.2.2.2)
          refine ⟨_,rfl,?_⟩
          have n0_ := Aside0.mk (Kd.q0v (by (with_reducible repeat (first | apply Kd.q0m | apply Kd.q0n | apply Kd.q0o));exact HO_6.out) hb)
          have n1_ := Aside0.mk (q0q (g := gb318) (o := .cells #[.string x319000_1,.string x319001_1,.int .i64 x319002_1,.int .i64 x319003_1] 45 (0,0)) (by (with_reducible repeat (first | refine q0b ?_ _ | refine q0c ?_ | refine q0a ?_ _));exact BK318.out) hb)
          have n2_ := Aside0.mk (q0q (g := gb329) (o := .cells #[.string (⟨#[]⟩ : ByteArray),.string (⟨#[]⟩ : ByteArray),.int .i64 0,.int .i64 0] 45 (0,0)) (by (with_reducible repeat (first | refine q0b ?_ _ | refine q0c ?_ | refine q0a ?_ _));exact BK329.out) hb)
          have n3_ := Aside0.mk (q0s (by repeat (first | (with_reducible first | exact HB.out | apply q0h | apply q0d | apply q0f | refine q0g ?_ GE318.out | refine q0g ?_ GE329.out) | exact HB.out)) hb)
          clear HO_6
          clear BK318
          clear BK329
          clear HB
          have HO_6 := n0_
          have BK318 := n1_
          have BK329 := n2_
          have HB := n3_
          clear n0_ n1_ n2_ n3_
          (try clear hb)
          (try clear hb2)
          (try clear hk)
          (try clear hi)
          refine hK.out _ _ ⟨HS0_,HS1_,HS2_,HS3_,HS4_,HS5_,HS6_,HS7_⟩ (fun hHeld => ?_)
          clear hK K
          refine norm_ (a' := ?_) ?_ ?_
          rotate_left
          ·show Act.put _ (some 30) _ = _
           simp only [Act.put,zA,zB,zC,i64_w,i32_w]
           rfl
          refine pure_ (i := 12) (N := some 18) (v := ?_) (a' := ?_) #[true,true,true,true,true,true,true,true,true,true,true,true,true,false,false,true,false,false] rfl rfl (q0r HT_.out (by kernel_rfl)) (fun _ _ _ h => h) (Or.inl ⟨by rfl,?_⟩) ?_ ?_
          rotate_left
          ·intro w'
           go_simp
           with_reducible rfl
          rotate_left
          ·simp only [Act.put,zA,zB,zC,i64_w,i32_w]
           rfl
          refine pure_ (i := 13) (N := some 31) (v := ?_) (a' := ?_) #[true,true,true,true,true,true,true,true,true,true,true,true,true,true,false,true,false,false] rfl rfl (q0r HT_.out (by kernel_rfl)) (fun _ _ _ h => h) (Or.inl ⟨by rfl,?_⟩) ?_ ?_
          rotate_left
          ·intro w'
           go_simp
           with_reducible rfl
          rotate_left
          ·simp only [Act.put,zA,zB,zC,i64_w,i32_w]
           rfl
          refine pure_ (i := 14) (N := some 32) (v := ?_) (a' := ?_) #[true,true,true,true,true,true,true,true,true,true,true,true,true,true,true,true,false,false] rfl rfl (q0r HT_.out (by kernel_rfl)) (fun _ _ _ h => h) (Or.inl ⟨by rfl,?_⟩) ?_ ?_
          rotate_left
          ·intro w'
           go_simp
           with_reducible rfl
          rotate_left
          ·simp only [Act.put,zA,zB,zC,i64_w,i32_w]
           rfl
          exact norm_ (by simp only [putAll,Act.put,zA,zB,zC]) (hCont (gb329) _ ⟨hHeld,(by (with_reducible repeat (first | apply Kd.q0m | apply Kd.q0n | apply Kd.q0o));exact HO_6.out),(by (with_reducible repeat (first | refine q0b ?_ _ | refine q0c ?_ | refine q0a ?_ _));exact BK318.out),(by (with_reducible repeat (first | refine q0b ?_ _ | refine q0c ?_ | refine q0a ?_ _));exact BK329.out),GW329.out,GE329.out,NB318_329.out,NB329_318.out,(by repeat (first | (with_reducible first | exact HB.out | apply q0h | apply q0d | apply q0f | refine q0g ?_ GE318.out | refine q0g ?_ GE329.out) | exact HB.out))⟩)
        rintro gb329 w29 ⟨hS_,h0_,h1_,h2_,h3_,h4_,h5_,h6_,h7_⟩
        have n0_ : Aside0 (Kd.R k45 45 w29 w.heap.size (fun k_ => k_ ≠ gb318 ∧ k_ ≠ gb329) (.slice (some ad322) t319.length co25) t319) := ⟨h0_⟩
        have n1_ : Aside0 (w29.heap[gb318]? = some (.cells #[.string x319000_1,.string x319001_1,.int .i64 x319002_1,.int .i64 x319003_1] 45 (0,0))) := ⟨h1_⟩
        have n2_ : Aside0 (w29.heap[gb329]? = some (.cells #[.string (⟨#[]⟩ : ByteArray),.string (⟨#[]⟩ : ByteArray),.int .i64 0,.int .i64 0] 45 (0,0))) := ⟨h2_⟩
        have n3_ : Aside0 (w.heap.size ≤ gb329) := ⟨h3_⟩
        have n4_ : Aside0 (w.heap.size ≤ gb329) := ⟨h4_⟩
        have n5_ : Aside0 (gb318 ≠ gb329) := ⟨h5_⟩
        have n6_ : Aside0 (gb329 ≠ gb318) := ⟨h6_⟩
        have n7_ : Aside0 (Below w.heap.size w w29) := ⟨h7_⟩
        clear HO_6
        clear BK318
        clear HB
        clear h0_ h1_ h2_ h3_ h4_ h5_ h6_ h7_
        have HO_6 := n0_
        have BK318 := n1_
        have BK329 := n2_
        have GW329 := n3_
        have GE329 := n4_
        have NB318_329 := n5_
        have NB329_318 := n6_
        have HB := n7_
        clear n0_ n1_ n2_ n3_ n4_ n5_ n6_ n7_
        have hHeld : w29.cell? (ad322.add ((x7_1).toNat * 4)) = some (.string ((q0e t319 x7_1).f0)) ∧ w29.cell? ⟨(ad322.add ((x7_1).toNat * 4)).block,(ad322.add ((x7_1).toNat * 4)).off + 1,none⟩ = some (.string ((q0e t319 x7_1).f1)) ∧ w29.cell? ⟨(ad322.add ((x7_1).toNat * 4)).block,(ad322.add ((x7_1).toNat * 4)).off + 2,none⟩ = some (.int .i64 ((q0e t319 x7_1).f2)) ∧ w29.cell? ⟨(ad322.add ((x7_1).toNat * 4)).block,(ad322.add ((x7_1).toNat * 4)).off + 3,none⟩ = some (.int .i64 ((q0e t319 x7_1).f3)) ∧ w29.cell? (ad322.add ((x7_1).toNat * 4)) = some (.string ((q0e t319 x7_1).f0)) ∧ w29.cell? ⟨(ad322.add ((x7_1).toNat * 4)).block,(ad322.add ((x7_1).toNat * 4)).off + 1,none⟩ = some (.string ((q0e t319 x7_1).f1)) ∧ w29.cell? ⟨(ad322.add ((x7_1).toNat * 4)).block,(ad322.add ((x7_1).toNat * 4)).off + 2,none⟩ = some (.int .i64 ((q0e t319 x7_1).f2)) ∧ w29.cell? ⟨(ad322.add ((x7_1).toNat * 4)).block,(ad322.add ((x7_1).toNat * 4)).off + 3,none⟩ = some (.int .i64 ((q0e t319 x7_1).f3)) := hS_
        refine norm_ (a' := ?_) ?_ ?_
        rotate_left
        ·simp only [putAll,Act.put,zA,zB,zC]
         rfl
        refine one_ (i := 16) (N := none) #[true,true,true,true,true,true,true,true,true,true,true,true,true,true,true,true,true,false] rfl rfl (one_of HT_.out (by kernel_rfl)) (by decide) (fun K hK => ?_)
        have hs30 : w29.cell? ⟨gb329,0,none⟩ = some (.string (⟨#[]⟩ : ByteArray)) := (q0i BK329.out 0).trans rfl
        have hfs30 := q0k BK329.out 0
        have hns30_0 := NB318_329.out
        have hms30_0 := NB329_318.out
        have hs31 : w29.cell? ⟨gb329,1,none⟩ = some (.string (⟨#[]⟩ : ByteArray)) := (q0i BK329.out 1).trans rfl
        have hfs31 := q0k BK329.out 1
        have hns31_0 := NB318_329.out
        have hms31_0 := NB329_318.out
        have hs32 : w29.cell? ⟨gb329,2,none⟩ = some (.int .i64 0) := (q0i BK329.out 2).trans rfl
        have hfs32 := q0k BK329.out 2
        have hns32_0 := NB318_329.out
        have hms32_0 := NB329_318.out
        have hs33 : w29.cell? ⟨gb329,3,none⟩ = some (.int .i64 0) := (q0i BK329.out 3).trans rfl
        have hfs33 := q0k BK329.out 3
        have hns33_0 := NB318_329.out
        have hms33_0 := NB329_318.out
        refine skip_ (w1 := ?_) (by rfl) rfl ?_ ?_
        rotate_left
        ·go_simp
         rfl
        refine hK.out _ _ ⟨((cell_far (p := ⟨gb329,_,none⟩) (by first | exact Kd.q0j (Kd.q0l HO_6.out (fun _ hk => hk.2)) | (rw [add_block];exact Kd.q0j (Kd.q0l HO_6.out (fun _ hk => hk.2))) | (show (Addr.add _ _).block ≠ _;rw [add_block];exact Kd.q0j (Kd.q0l HO_6.out (fun _ hk => hk.2))) | (dsimp only;exact Kd.q0j (Kd.q0l HO_6.out (fun _ hk => hk.2)))) _).trans (((cell_far (p := ⟨gb329,_,none⟩) (by first | exact Kd.q0j (Kd.q0l HO_6.out (fun _ hk => hk.2)) | (rw [add_block];exact Kd.q0j (Kd.q0l HO_6.out (fun _ hk => hk.2))) | (show (Addr.add _ _).block ≠ _;rw [add_block];exact Kd.q0j (Kd.q0l HO_6.out (fun _ hk => hk.2))) | (dsimp only;exact Kd.q0j (Kd.q0l HO_6.out (fun _ hk => hk.2)))) _).trans (((cell_far (p := ⟨gb329,_,none⟩) (by first | exact Kd.q0j (Kd.q0l HO_6.out (fun _ hk => hk.2)) | (rw [add_block];exact Kd.q0j (Kd.q0l HO_6.out (fun _ hk => hk.2))) | (show (Addr.add _ _).block ≠ _;rw [add_block];exact Kd.q0j (Kd.q0l HO_6.out (fun _ hk => hk.2))) | (dsimp only;exact Kd.q0j (Kd.q0l HO_6.out (fun _ hk => hk.2)))) _).trans (((cell_far (p := ⟨gb329,_,none⟩) (by first | exact Kd.q0j (Kd.q0l HO_6.out (fun _ hk => hk.2)) | (rw [add_block];exact Kd.q0j (Kd.q0l HO_6.out (fun _ hk => hk.2))) | (show (Addr.add _ _).block ≠ _;rw [add_block];exact Kd.q0j (Kd.q0l HO_6.out (fun _ hk => hk.2))) | (dsimp only;exact Kd.q0j (Kd.q0l HO_6.out (fun _ hk => hk.2)))) _).trans (hHeld.1)))))))),((cell_far (p := ⟨gb329,_,none⟩) (by first | exact Kd.q0j (Kd.q0l HO_6.out (fun _ hk => hk.2)) | (rw [add_block];exact Kd.q0j (Kd.q0l HO_6.out (fun _ hk => hk.2))) | (show (Addr.add _ _).block ≠ _;rw [add_block];exact Kd.q0j (Kd.q0l HO_6.out (fun _ hk => hk.2))) | (dsimp only;exact Kd.q0j (Kd.q0l HO_6.out (fun _ hk => hk.2)))) _).trans (((cell_far (p := ⟨gb329,_,none⟩) (by first | exact Kd.q0j (Kd.q0l HO_6.out (fun _ hk => hk.2)) | (rw [add_block];exact Kd.q0j (Kd.q0l HO_6.out (fun _ hk => hk.2))) | (show (Addr.add _ _).block ≠ _;rw [add_block];exact Kd.q0j (Kd.q0l HO_6.out (fun _ hk => hk.2))) | (dsimp only;exact Kd.q0j (Kd.q0l HO_6.out (fun _ hk => hk.2)))) _).trans (((cell_far (p := ⟨gb329,_,none⟩) (by first | exact Kd.q0j (Kd.q0l HO_6.out (fun _ hk => hk.2)) | (rw [add_block];exact Kd.q0j (Kd.q0l HO_6.out (fun _ hk => hk.2))) | (show (Addr.add _ _).block ≠ _;rw [add_block];exact Kd.q0j (Kd.q0l HO_6.out (fun _ hk => hk.2))) | (dsimp only;exact Kd.q0j (Kd.q0l HO_6.out (fun _ hk => hk.2)))) _).trans (((cell_far (p := ⟨gb329,_,none⟩) (by first | exact Kd.q0j (Kd.q0l HO_6.out (fun _ hk => hk.2)) | (rw [add_block];exact Kd.q0j (Kd.q0l HO_6.out (fun _ hk => hk.2))) | (show (Addr.add _ _).block ≠ _;rw [add_block];exact Kd.q0j (Kd.q0l HO_6.out (fun _ hk => hk.2))) | (dsimp only;exact Kd.q0j (Kd.q0l HO_6.out (fun _ hk => hk.2)))) _).trans (hHeld.2.1)))))))),((cell_far (p := ⟨gb329,_,none⟩) (by first | exact Kd.q0j (Kd.q0l HO_6.out (fun _ hk => hk.2)) | (rw [add_block];exact Kd.q0j (Kd.q0l HO_6.out (fun _ hk => hk.2))) | (show (Addr.add _ _).block ≠ _;rw [add_block];exact Kd.q0j (Kd.q0l HO_6.out (fun _ hk => hk.2))) | (dsimp only;exact Kd.q0j (Kd.q0l HO_6.out (fun _ hk => hk.2)))) _).trans (((cell_far (p := ⟨gb329,_,none⟩) (by first | exact Kd.q0j (Kd.q0l HO_6.out (fun _ hk => hk.2)) | (rw [add_block];exact Kd.q0j (Kd.q0l HO_6.out (fun _ hk => hk.2))) | (show (Addr.add _ _).block ≠ _;rw [add_block];exact Kd.q0j (Kd.q0l HO_6.out (fun _ hk => hk.2))) | (dsimp only;exact Kd.q0j (Kd.q0l HO_6.out (fun _ hk => hk.2)))) _).trans (((cell_far (p := ⟨gb329,_,none⟩) (by first | exact Kd.q0j (Kd.q0l HO_6.out (fun _ hk => hk.2)) | (rw [add_block];exact Kd.q0j (Kd.q0l HO_6.out (fun _ hk => hk.2))) | (show (Addr.add _ _).block ≠ _;rw [add_block];exact Kd.q0j (Kd.q0l HO_6.out (fun _ hk => hk.2))) | (dsimp only;exact Kd.q0j (Kd.q0l HO_6.out (fun _ hk => hk.2)))) _).trans (((cell_far (p := ⟨gb329,_,none⟩) (by first | exact Kd.q0j (Kd.q0l HO_6.out (fun _ hk => hk.2)) | (rw [add_block];exact Kd.q0j (Kd.q0l HO_6.out (fun _ hk => hk.2))) | (show (Addr.add _ _).block ≠ _;rw [add_block];exact Kd.q0j (Kd.q0l HO_6.out (fun _ hk => hk.2))) | (dsimp only;exact Kd.q0j (Kd.q0l HO_6.out (fun _ hk => hk.2)))) _).trans (hHeld.2.2.1)))))))),((cell_far (p := ⟨gb329,_,none⟩) (by first | exact Kd.q0j (Kd.q0l HO_6.out (fun _ hk => hk.2)) | (rw [add_block];exact Kd.q0j (Kd.q0l HO_6.out (fun _ hk => hk.2))) | (show (Addr.add _ _).block ≠ _;rw [add_block];exact Kd.q0j (Kd.q0l HO_6.out (fun _ hk => hk.2))) | (dsimp only;exact Kd.q0j (Kd.q0l HO_6.out (fun _ hk => hk.2)))) _).trans (((cell_far (p := ⟨gb329,_,none⟩) (by first | exact Kd.q0j (Kd.q0l HO_6.out (fun _ hk => hk.2)) | (rw [add_block];exact Kd.q0j (Kd.q0l HO_6.out (fun _ hk => hk.2))) | (show (Addr.add _ _).block ≠ _;rw [add_block];exact Kd.q0j (Kd.q0l HO_6.out (fun _ hk => hk.2))) | (dsimp only;exact Kd.q0j (Kd.q0l HO_6.out (fun _ hk => hk.2)))) _).trans (((cell_far (p := ⟨gb329,_,none⟩) (by first | exact Kd.q0j (Kd.q0l HO_6.out (fun _ hk => hk.2)) | (rw [add_block];exact Kd.q0j (Kd.q0l HO_6.out (fun _ hk => hk.2))) | (show (Addr.add _ _).block ≠ _;rw [add_block];exact Kd.q0j (Kd.q0l HO_6.out (fun _ hk => hk.2))) | (dsimp only;exact Kd.q0j (Kd.q0l HO_6.out (fun _ hk => hk.2)))) _).trans (((cell_far (p := ⟨gb329,_,none⟩) (by first | exact Kd.q0j (Kd.q0l HO_6.out (fun _ hk => hk.2)) | (rw [add_block];exact Kd.q0j (Kd.q0l HO_6.out (fun _ hk => hk.2))) | (show (Addr.add _ _).block ≠ _;rw [add_block];exact Kd.q0j (Kd.q0l HO_6.out (fun _ hk => hk.2))) | (dsimp only;exact Kd.q0j (Kd.q0l HO_6.out (fun _ hk => hk.2)))) _).trans (hHeld.2.2.2.1)))))))),((cell_far (p := ⟨gb329,_,none⟩) (by first | exact Kd.q0j (Kd.q0l HO_6.out (fun _ hk => hk.2)) | (rw [add_block];exact Kd.q0j (Kd.q0l HO_6.out (fun _ hk => hk.2))) | (show (Addr.add _ _).block ≠ _;rw [add_block];exact Kd.q0j (Kd.q0l HO_6.out (fun _ hk => hk.2))) | (dsimp only;exact Kd.q0j (Kd.q0l HO_6.out (fun _ hk => hk.2)))) _).trans (((cell_far (p := ⟨gb329,_,none⟩) (by first | exact Kd.q0j (Kd.q0l HO_6.out (fun _ hk => hk.2)) | (rw [add_block];exact Kd.q0j (Kd.q0l HO_6.out (fun _ hk => hk.2))) | (show (Addr.add _ _).block ≠ _;rw [add_block];exact Kd.q0j (Kd.q0l HO_6.out (fun _ hk => hk.2))) | (dsimp only;exact Kd.q0j (Kd.q0l HO_6.out (fun _ hk => hk.2)))) _).trans (((cell_far (p := ⟨gb329,_,none⟩) (by first | exact Kd.q0j (Kd.q0l HO_6.out (fun _ hk => hk.2)) | (rw [add_block];exact Kd.q0j (Kd.q0l HO_6.out (fun _ hk => hk.2))) | (show (Addr.add _ _).block ≠ _;rw [add_block];exact Kd.q0j (Kd.q0l HO_6.out (fun _ hk => hk.2))) | (dsimp only;exact Kd.q0j (Kd.q0l HO_6.out (fun _ hk => hk.2)))) _).trans (((cell_far (p := ⟨gb329,_,none⟩) (by first | exact Kd.q0j (Kd.q0l HO_6.out (fun _ hk => hk.2)) | (rw [add_block];exact Kd.q0j (Kd.q0l HO_6.out (fun _ hk => hk.2))) | (show (Addr.add _ _).block ≠ _;rw [add_block];exact Kd.q0j (Kd.q0l HO_6.out (fun _ hk => hk.2))) | (dsimp only;exact Kd.q0j (Kd.q0l HO_6.out (fun _ hk => hk.2)))) _).trans (hHeld.2.2.2.2.1)))))))),((cell_far (p := ⟨gb329,_,none⟩) (by first | exact Kd.q0j (Kd.q0l HO_6.out (fun _ hk => hk.2)) | (rw [add_block];exact Kd.q0j (Kd.q0l HO_6.out (fun _ hk => hk.2))) | (show (Addr.add _ _).block ≠ _;rw [add_block];exact Kd.q0j (Kd.q0l HO_6.out (fun _ hk => hk.2))) | (dsimp only;exact Kd.q0j (Kd.q0l HO_6.out (fun _ hk => hk.2)))) _).trans (((cell_far (p := ⟨gb329,_,none⟩) (by first | exact Kd.q0j (Kd.q0l HO_6.out (fun _ hk => hk.2)) | (rw [add_block];exact Kd.q0j (Kd.q0l HO_6.out (fun _ hk => hk.2))) | (show (Addr.add _ _).block ≠ _;rw [add_block];exact Kd.q0j (Kd.q0l HO_6.out (fun _ hk => hk.2))) | (dsimp only;exact Kd.q0j (Kd.q0l HO_6.out (fun _ hk => hk.2)))) _).trans (((cell_far (p := ⟨gb329,_,none⟩) (by first | exact Kd.q0j (Kd.q0l HO_6.out (fun _ hk => hk.2)) | (rw [add_block];exact Kd.q0j (Kd.q0l HO_6.out (fun _ hk => hk.2))) | (show (Addr.add _ _).block ≠ _;rw [add_block];exact Kd.q0j (Kd.q0l HO_6.out (fun _ hk => hk.2))) | (dsimp only;exact Kd.q0j (Kd.q0l HO_6.out (fun _ hk => hk.2)))) _).trans (((cell_far (p := ⟨gb329,_,none⟩) (by first | exact Kd.q0j (Kd.q0l HO_6.out (fun _ hk => hk.2)) | (rw [add_block];exact Kd.q0j (Kd.q0l HO_6.out (fun _ hk => hk.2))) | (show (Addr.add _ _).block ≠ _;rw [add_block];exact Kd.q0j (Kd.q0l HO_6.out (fun _ hk => hk.2))) | (dsimp only;exact Kd.q0j (Kd.q0l HO_6.out (fun _ hk => hk.2)))) _).trans (hHeld.2.2.2.2.2.1)))))))),((cell_far (p := ⟨gb329,_,none⟩) (by first | exact Kd.q0j (Kd.q0l HO_6.out (fun _ hk => hk.2)) | (rw [add_block];exact Kd.q0j (Kd.q0l HO_6.out (fun _ hk => hk.2))) | (show (Addr.add _ _).block ≠ _;rw [add_block];exact Kd.q0j (Kd.q0l HO_6.out (fun _ hk => hk.2))) | (dsimp only;exact Kd.q0j (Kd.q0l HO_6.out (fun _ hk => hk.2)))) _).trans (((cell_far (p := ⟨gb329,_,none⟩) (by first | exact Kd.q0j (Kd.q0l HO_6.out (fun _ hk => hk.2)) | (rw [add_block];exact Kd.q0j (Kd.q0l HO_6.out (fun _ hk => hk.2))) | (show (Addr.add _ _).block ≠ _;rw [add_block];exact Kd.q0j (Kd.q0l HO_6.out (fun _ hk => hk.2))) | (dsimp only;exact Kd.q0j (Kd.q0l HO_6.out (fun _ hk => hk.2)))) _).trans (((cell_far (p := ⟨gb329,_,none⟩) (by first | exact Kd.q0j (Kd.q0l HO_6.out (fun _ hk => hk.2)) | (rw [add_block];exact Kd.q0j (Kd.q0l HO_6.out (fun _ hk => hk.2))) | (show (Addr.add _ _).block ≠ _;rw [add_block];exact Kd.q0j (Kd.q0l HO_6.out (fun _ hk => hk.2))) | (dsimp only;exact Kd.q0j (Kd.q0l HO_6.out (fun _ hk => hk.2)))) _).trans (((cell_far (p := ⟨gb329,_,none⟩) (by first | exact Kd.q0j (Kd.q0l HO_6.out (fun _ hk => hk.2)) | (rw [add_block];exact Kd.q0j (Kd.q0l HO_6.out (fun _ hk => hk.2))) | (show (Addr.add _ _).block ≠ _;rw [add_block];exact Kd.q0j (Kd.q0l HO_6.out (fun _ hk => hk.2))) | (dsimp only;exact Kd.q0j (Kd.q0l HO_6.out (fun _ hk => hk.2)))) _).trans (hHeld.2.2.2.2.2.2.1)))))))),((cell_far (p := ⟨gb329,_,none⟩) (by first | exact Kd.q0j (Kd.q0l HO_6.out (fun _ hk => hk.2)) | (rw [add_block];exact Kd.q0j (Kd.q0l HO_6.out (fun _ hk => hk.2))) | (show (Addr.add _ _).block ≠ _;rw [add_block];exact Kd.q0j (Kd.q0l HO_6.out (fun _ hk => hk.2))) | (dsimp only;exact Kd.q0j (Kd.q0l HO_6.out (fun _ hk => hk.2)))) _).trans (((cell_far (p := ⟨gb329,_,none⟩) (by first | exact Kd.q0j (Kd.q0l HO_6.out (fun _ hk => hk.2)) | (rw [add_block];exact Kd.q0j (Kd.q0l HO_6.out (fun _ hk => hk.2))) | (show (Addr.add _ _).block ≠ _;rw [add_block];exact Kd.q0j (Kd.q0l HO_6.out (fun _ hk => hk.2))) | (dsimp only;exact Kd.q0j (Kd.q0l HO_6.out (fun _ hk => hk.2)))) _).trans (((cell_far (p := ⟨gb329,_,none⟩) (by first | exact Kd.q0j (Kd.q0l HO_6.out (fun _ hk => hk.2)) | (rw [add_block];exact Kd.q0j (Kd.q0l HO_6.out (fun _ hk => hk.2))) | (show (Addr.add _ _).block ≠ _;rw [add_block];exact Kd.q0j (Kd.q0l HO_6.out (fun _ hk => hk.2))) | (dsimp only;exact Kd.q0j (Kd.q0l HO_6.out (fun _ hk => hk.2)))) _).trans (((cell_far (p := ⟨gb329,_,none⟩) (by first | exact Kd.q0j (Kd.q0l HO_6.out (fun _ hk => hk.2)) | (rw [add_block];exact Kd.q0j (Kd.q0l HO_6.out (fun _ hk => hk.2))) | (show (Addr.add _ _).block ≠ _;rw [add_block];exact Kd.q0j (Kd.q0l HO_6.out (fun _ hk => hk.2))) | (dsimp only;exact Kd.q0j (Kd.q0l HO_6.out (fun _ hk => hk.2)))) _).trans (hHeld.2.2.2.2.2.2.2))))))))⟩ (fun hHeld => ?_)
        clear hK K
        refine pure_ (i := 17) (N := some 9) (v := ?_) (a' := ?_) #[true,true,true,true,true,true,true,true,true,true,true,true,true,true,true,true,true,true] rfl rfl (q0r HT_.out (by kernel_rfl)) (fun _ _ _ h => h) (Or.inl ⟨by rfl,?_⟩) ?_ ?_
        rotate_left
        ·intro w'
         go_simp
         with_reducible rfl
        rotate_left
        ·simp only [Act.put,zA,zB,zC,i64_w,i32_w]
         rfl
        refine done_ (done_of HT_.out (by kernel_rfl)) ?_
        try go_wp2
        have n0_ : Aside0 (Kd.R k45 45 ((((w29.setCell ⟨gb329,0,none⟩ (.string t324)).setCell ⟨gb329,1,none⟩ (.string t325)).setCell ⟨gb329,2,none⟩ (.int .i64 t326)).setCell ⟨gb329,3,none⟩ (.int .i64 t327)) w.heap.size (fun k_ => k_ ≠ gb318 ∧ k_ ≠ gb329) (.slice (some ad322) t319.length co25) t319) := ⟨by (with_reducible repeat (first | apply Kd.q0m | apply Kd.q0n | apply Kd.q0o));exact Kd.R_mono (Kd.R_far (p := ⟨gb329,3,none⟩) (Kd.R_far (p := ⟨gb329,2,none⟩) (Kd.R_far (p := ⟨gb329,1,none⟩) (Kd.R_far (p := ⟨gb329,0,none⟩) (Kd.R_mono HO_6.out (fun k_ hk => (⟨hk,hk.2⟩ : _ ∧ k_ ≠ gb329))) (fun _ hk => hk.2) (.string t324)) (fun _ hk => hk.2) (.string t325)) (fun _ hk => hk.2) (.int .i64 t326)) (fun _ hk => hk.2) (.int .i64 t327)) (fun _ hk => ⟨hk.1.1,hk.1.2⟩)⟩
        have n1_ : Aside0 (((((w29.setCell ⟨gb329,0,none⟩ (.string t324)).setCell ⟨gb329,1,none⟩ (.string t325)).setCell ⟨gb329,2,none⟩ (.int .i64 t326)).setCell ⟨gb329,3,none⟩ (.int .i64 t327)).heap[gb318]? = some (.cells #[.string x319000_1,.string x319001_1,.int .i64 x319002_1,.int .i64 x319003_1] 45 (0,0))) := ⟨by (with_reducible repeat (first | refine q0b ?_ _ | refine q0c ?_ | refine q0a ?_ _));refine q0u ?_ NB318_329.out _;(with_reducible repeat (first | refine q0b ?_ _ | refine q0c ?_ | refine q0a ?_ _));refine q0u ?_ NB318_329.out _;(with_reducible repeat (first | refine q0b ?_ _ | refine q0c ?_ | refine q0a ?_ _));refine q0u ?_ NB318_329.out _;(with_reducible repeat (first | refine q0b ?_ _ | refine q0c ?_ | refine q0a ?_ _));refine q0u ?_ NB318_329.out _;(with_reducible repeat (first | refine q0b ?_ _ | refine q0c ?_ | refine q0a ?_ _));exact BK318.out⟩
        have n2_ : Aside0 (((((w29.setCell ⟨gb329,0,none⟩ (.string t324)).setCell ⟨gb329,1,none⟩ (.string t325)).setCell ⟨gb329,2,none⟩ (.int .i64 t326)).setCell ⟨gb329,3,none⟩ (.int .i64 t327)).heap[gb329]? = some (.cells #[.string t324,.string t325,.int .i64 t326,.int .i64 t327] 45 (0,0))) := ⟨by (with_reducible repeat (first | refine q0b ?_ _ | refine q0c ?_ | refine q0a ?_ _));refine q0t (cs := #[.string t324,.string t325,.int .i64 t326,.int .i64 0]) ?_ 3 _ rfl;(with_reducible repeat (first | refine q0b ?_ _ | refine q0c ?_ | refine q0a ?_ _));refine q0t (cs := #[.string t324,.string t325,.int .i64 0,.int .i64 0]) ?_ 2 _ rfl;(with_reducible repeat (first | refine q0b ?_ _ | refine q0c ?_ | refine q0a ?_ _));refine q0t (cs := #[.string t324,.string (⟨#[]⟩ : ByteArray),.int .i64 0,.int .i64 0]) ?_ 1 _ rfl;(with_reducible repeat (first | refine q0b ?_ _ | refine q0c ?_ | refine q0a ?_ _));refine q0t (cs := #[.string (⟨#[]⟩ : ByteArray),.string (⟨#[]⟩ : ByteArray),.int .i64 0,.int .i64 0]) ?_ 0 _ rfl;(with_reducible repeat (first | refine q0b ?_ _ | refine q0c ?_ | refine q0a ?_ _));exact BK329.out⟩
        have n3_ : Aside0 (Below w.heap.size w ((((w29.setCell ⟨gb329,0,none⟩ (.string t324)).setCell ⟨gb329,1,none⟩ (.string t325)).setCell ⟨gb329,2,none⟩ (.int .i64 t326)).setCell ⟨gb329,3,none⟩ (.int .i64 t327))) := ⟨by repeat (first | (with_reducible first | exact HB.out | apply q0h | apply q0d | apply q0f | refine q0g ?_ GE318.out | refine q0g ?_ GE329.out) | exact HB.out)⟩
        (try clear HO_6)
        (try clear BK318)
        (try clear BK329)
        (try clear HB)
        generalize ((((w29.setCell ⟨gb329,0,none⟩ (.string t324)).setCell ⟨gb329,1,none⟩ (.string t325)).setCell ⟨gb329,2,none⟩ (.int .i64 t326)).setCell ⟨gb329,3,none⟩ (.int .i64 t327)) = w34 at n0_ n1_ n2_ n3_ ⊢
        have HO_6 := n0_
        have BK318 := n1_
        have BK329 := n2_
        have HB := n3_
        clear n0_ n1_ n2_ n3_
        have n0_ := Aside0.mk (Kd.q0o HO_6.out)
        have n1_ := Aside0.mk (q0c BK318.out)
        have n2_ := Aside0.mk (q0c BK329.out)
        have n3_ := Aside0.mk (q0f HB.out)
        clear HO_6
        clear BK318
        clear BK329
        clear HB
        have HO_6 := n0_
        have BK318 := n1_
        have BK329 := n2_
        have HB := n3_
        clear n0_ n1_ n2_ n3_
        have p330 : 0 ≤ (x7_1 : Int) := of_decide_eq_true (by first | (with_reducible assumption) | assumption)
        have q330 : x7_1 < (t319.length : Int) := of_decide_eq_true (by first | (with_reducible assumption) | assumption)
        obtain ⟨ad330,e330,hx330_0,hx330_1,hx330_2,hx330_3⟩ := at_T45 (Kd.q02 HO_6.out).2.2 x7_1 p330 q330
        obtain rfl : ad322 = ad330 := (by injection e330)
        replace p330 := eq_true p330
        replace q330 := eq_true q330
        have p332 : 0 ≤ (x7_1 : Int) := of_decide_eq_true (by first | (with_reducible assumption) | assumption)
        have q332 : x7_1 < (t319.length : Int) := of_decide_eq_true (by first | (with_reducible assumption) | assumption)
        obtain ⟨ad332,e332,hx332_0,hx332_1,hx332_2,hx332_3⟩ := at_T45 (Kd.q02 HO_6.out).2.2 x7_1 p332 q332
        obtain rfl : ad322 = ad332 := (by injection e332)
        replace p332 := eq_true p332
        replace q332 := eq_true q332
        refine start_ (n := 22) (S := fun w' => w'.cell? ⟨gb329,0,none⟩ = some (.string t324) ∧ w'.cell? ⟨gb329,1,none⟩ = some (.string t325) ∧ w'.cell? ⟨gb329,2,none⟩ = some (.int .i64 t326) ∧ w'.cell? ⟨gb329,3,none⟩ = some (.int .i64 t327) ∧ w'.cell? (ad322.add ((x7_1).toNat * 4)) = some (.string ((q0e t319 x7_1).f0)) ∧ w'.cell? ⟨(ad322.add ((x7_1).toNat * 4)).block,(ad322.add ((x7_1).toNat * 4)).off + 1,none⟩ = some (.string ((q0e t319 x7_1).f1)) ∧ w'.cell? ⟨(ad322.add ((x7_1).toNat * 4)).block,(ad322.add ((x7_1).toNat * 4)).off + 2,none⟩ = some (.int .i64 ((q0e t319 x7_1).f2)) ∧ w'.cell? ⟨(ad322.add ((x7_1).toNat * 4)).block,(ad322.add ((x7_1).toNat * 4)).off + 3,none⟩ = some (.int .i64 ((q0e t319 x7_1).f3)) ∧ w'.cell? (ad322.add ((x7_1).toNat * 4)) = some (.string ((q0e t319 x7_1).f0)) ∧ w'.cell? ⟨(ad322.add ((x7_1).toNat * 4)).block,(ad322.add ((x7_1).toNat * 4)).off + 1,none⟩ = some (.string ((q0e t319 x7_1).f1)) ∧ w'.cell? ⟨(ad322.add ((x7_1).toNat * 4)).block,(ad322.add ((x7_1).toNat * 4)).off + 2,none⟩ = some (.int .i64 ((q0e t319 x7_1).f2)) ∧ w'.cell? ⟨(ad322.add ((x7_1).toNat * 4)).block,(ad322.add ((x7_1).toNat * 4)).off + 3,none⟩ = some (.int .i64 ((q0e t319 x7_1).f3))) (ds := []) #[false,false,false,false,false,false,false,false,false,false,false,false,false,false,false,false,false,false,false,false,false,false] (by kernel_rfl) rfl rfl ⟨(q0i BK329.out 0).trans rfl,(q0i BK329.out 1).trans rfl,(q0i BK329.out 2).trans rfl,(q0i BK329.out 3).trans rfl,hx330_0,hx330_1,hx330_2,hx330_3,hx332_0,hx332_1,hx332_2,hx332_3⟩ (fun hHeld => ?_);refine with_tabW verdererref28_Judge.tab6 verdererref28_Judge.bits6 (fun HT_ HW_ => ?_)
        generalize w34.drew = w35 at HO_6 BK318 BK329 HB hx330_0 hx330_1 hx330_2 hx330_3 hx332_0 hx332_1 hx332_2 hx332_3 hHeld ⊢
        refine pure_ (i := 0) (N := some 33) (v := ?_) (a' := ?_) #[true,false,false,false,false,false,false,false,false,false,false,false,false,false,false,false,false,false,false,false,false,false] rfl rfl (q0r HT_.out (by kernel_rfl)) (fun _ _ _ h => h) (Or.inl ⟨by rfl,?_⟩) ?_ ?_
        rotate_left
        ·intro w'
         go_simp
         with_reducible rfl
        rotate_left
        ·simp only [Act.put,zA,zB,zC,i64_w,i32_w]
         rfl
        refine pure_ (i := 1) (N := some 34) (v := ?_) (a' := ?_) #[true,true,false,false,false,false,false,false,false,false,false,false,false,false,false,false,false,false,false,false,false,false] rfl rfl (q0r HT_.out (by kernel_rfl)) (fun _ _ _ h => h) (Or.inl ⟨by rfl,?_⟩) ?_ ?_
        rotate_left
        ·intro w'
         go_simp
         with_reducible rfl
        rotate_left
        ·simp only [Act.put,zA,zB,zC,i64_w,i32_w]
         rfl
        refine pure_ (i := 2) (N := some 35) (v := ?_) (a' := ?_) #[true,true,true,false,false,false,false,false,false,false,false,false,false,false,false,false,false,false,false,false,false,false] rfl rfl (q0r HT_.out (by kernel_rfl)) (fun _ _ _ h => h) (Or.inl ⟨by rfl,?_⟩) ?_ ?_
        rotate_left
        ·intro w'
         go_simp
         with_reducible rfl
        rotate_left
        ·simp only [Act.put,zA,zB,zC,i64_w,i32_w]
         rfl
        refine pure_ (i := 3) (N := some 36) (v := ?_) (a' := ?_) #[true,true,true,true,false,false,false,false,false,false,false,false,false,false,false,false,false,false,false,false,false,false] rfl rfl (q0r HT_.out (by kernel_rfl)) (fun _ _ _ h => h) (Or.inl ⟨by rfl,?_⟩) ?_ ?_
        rotate_left
        ·intro w'
         go_simp
         with_reducible rfl
        rotate_left
        ·simp only [Act.put,zA,zB,zC,i64_w,i32_w]
         rfl
        refine pure_ (i := 5) (N := some 38) (v := ?_) (a' := ?_) #[true,true,true,true,false,true,false,false,false,false,false,false,false,false,false,false,false,false,false,false,false,false] rfl rfl (q0r HT_.out (by kernel_rfl)) (fun _ _ _ h => h) (Or.inl ⟨by rfl,?_⟩) ?_ ?_
        rotate_left
        ·intro w'
         go_simp
         with_reducible rfl
        rotate_left
        ·simp only [Act.put,zA,zB,zC,i64_w,i32_w]
         rfl
        refine pure_ (i := 6) (N := some 39) (v := ?_) (a' := ?_) #[true,true,true,true,false,true,true,false,false,false,false,false,false,false,false,false,false,false,false,false,false,false] rfl rfl (q0r HT_.out (by kernel_rfl)) (fun _ _ _ h => h) (Or.inl ⟨by rfl,?_⟩) ?_ ?_
        rotate_left
        ·intro w'
         go_simp
         with_reducible rfl
        rotate_left
        ·simp only [Act.put,zA,zB,zC,i64_w,i32_w]
         rfl
        refine pure_ (i := 7) (N := some 40) (v := ?_) (a' := ?_) #[true,true,true,true,false,true,true,true,false,false,false,false,false,false,false,false,false,false,false,false,false,false] rfl rfl (q0r HT_.out (by kernel_rfl)) (fun _ _ _ h => h) (Or.inl ⟨by rfl,?_⟩) ?_ ?_
        rotate_left
        ·intro w'
         go_simp
         with_reducible rfl
        rotate_left
        ·simp only [Act.put,zA,zB,zC,i64_w,i32_w]
         rfl
        refine pure_ (i := 8) (N := some 41) (v := ?_) (a' := ?_) #[true,true,true,true,false,true,true,true,true,false,false,false,false,false,false,false,false,false,false,false,false,false] rfl rfl (q0r HT_.out (by kernel_rfl)) (fun _ _ _ h => h) (Or.inl ⟨by rfl,?_⟩) ?_ ?_
        rotate_left
        ·intro w'
         go_simp
         with_reducible rfl
        rotate_left
        ·simp only [Act.put,zA,zB,zC,i64_w,i32_w]
         rfl
        refine take_ (i := 4) (N := some 37) (v := ?_) (a' := ?_) #[true,true,true,true,true,true,true,true,true,false,false,false,false,false,false,false,false,false,false,false,false,false] rfl rfl (take_ofW HT_.out HW_.out (by kernel_rfl)) (fun _ _ _ h => h) (Or.inl ⟨by rfl,?_⟩) hHeld ?_ ?_
        rotate_left
        ·rintro w' ⟨s0,s1,s2,s3,s4,s5,s6,s7,s8,s9,s10,s11⟩
         go_simp
         with_reducible rfl
        rotate_left
        ·simp only [Act.put,zA,zB,zC,i64_w,i32_w]
         rfl
        refine take_ (i := 9) (N := some 42) (v := ?_) (a' := ?_) #[true,true,true,true,true,true,true,true,true,true,false,false,false,false,false,false,false,false,false,false,false,false] rfl rfl (take_ofW HT_.out HW_.out (by kernel_rfl)) (fun _ _ _ h => h) (Or.inl ⟨by rfl,?_⟩) hHeld ?_ ?_
        rotate_left
        ·rintro w' ⟨s0,s1,s2,s3,s4,s5,s6,s7,s8,s9,s10,s11⟩
         go_simp
         with_reducible rfl
        rotate_left
        ·simp only [Act.put,zA,zB,zC,i64_w,i32_w]
         rfl
        refine pure_ (i := 10) (N := some 43) (v := ?_) (a' := ?_) #[true,true,true,true,true,true,true,true,true,true,true,false,false,false,false,false,false,false,false,false,false,false] rfl rfl (q0r HT_.out (by kernel_rfl)) (fun _ _ _ h => h) (Or.inl ⟨by rfl,?_⟩) ?_ ?_
        rotate_left
        ·intro w'
         go_simp
         with_reducible rfl
        rotate_left
        ·simp only [Act.put,zA,zB,zC,i64_w,i32_w]
         rfl
        refine pure_ (i := 11) (N := some 44) (v := ?_) (a' := ?_) #[true,true,true,true,true,true,true,true,true,true,true,true,false,false,false,false,false,false,false,false,false,false] rfl rfl (q0r HT_.out (by kernel_rfl)) (fun _ _ _ h => h) (Or.inl ⟨by rfl,?_⟩) ?_ ?_
        rotate_left
        ·intro w'
         go_simp
         with_reducible rfl
        rotate_left
        ·simp only [Act.put,zA,zB,zC,i64_w,i32_w]
         rfl
        refine pure_ (i := 12) (N := some 45) (v := ?_) (a' := ?_) #[true,true,true,true,true,true,true,true,true,true,true,true,true,false,false,false,false,false,false,false,false,false] rfl rfl (q0r HT_.out (by kernel_rfl)) (fun _ _ _ h => h) (Or.inl ⟨by rfl,?_⟩) ?_ ?_
        rotate_left
        ·intro w'
         go_simp
         with_reducible rfl
        rotate_left
        ·simp only [Act.put,zA,zB,zC,i64_w,i32_w]
         rfl
        refine pure_ (i := 13) (N := some 46) (v := ?_) (a' := ?_) #[true,true,true,true,true,true,true,true,true,true,true,true,true,true,false,false,false,false,false,false,false,false] rfl rfl (q0r HT_.out (by kernel_rfl)) (fun _ _ _ h => h) (Or.inl ⟨by rfl,?_⟩) ?_ ?_
        rotate_left
        ·intro w'
         go_simp
         with_reducible rfl
        rotate_left
        ·simp only [Act.put,zA,zB,zC,i64_w,i32_w]
         rfl
        refine pure_ (i := 15) (N := some 48) (v := ?_) (a' := ?_) #[true,true,true,true,true,true,true,true,true,true,true,true,true,true,false,true,false,false,false,false,false,false] rfl rfl (q0r HT_.out (by kernel_rfl)) (fun _ _ _ h => h) (Or.inl ⟨by rfl,?_⟩) ?_ ?_
        rotate_left
        ·intro w'
         go_simp
         with_reducible rfl
        rotate_left
        ·simp only [Act.put,zA,zB,zC,i64_w,i32_w]
         rfl
        refine pure_ (i := 16) (N := some 49) (v := ?_) (a' := ?_) #[true,true,true,true,true,true,true,true,true,true,true,true,true,true,false,true,true,false,false,false,false,false] rfl rfl (q0r HT_.out (by kernel_rfl)) (fun _ _ _ h => h) (Or.inl ⟨by rfl,?_⟩) ?_ ?_
        rotate_left
        ·intro w'
         go_simp
         with_reducible rfl
        rotate_left
        ·simp only [Act.put,zA,zB,zC,i64_w,i32_w]
         rfl
        refine pure_ (i := 17) (N := some 50) (v := ?_) (a' := ?_) #[true,true,true,true,true,true,true,true,true,true,true,true,true,true,false,true,true,true,false,false,false,false] rfl rfl (q0r HT_.out (by kernel_rfl)) (fun _ _ _ h => h) (Or.inl ⟨by rfl,?_⟩) ?_ ?_
        rotate_left
        ·intro w'
         go_simp
         with_reducible rfl
        rotate_left
        ·simp only [Act.put,zA,zB,zC,i64_w,i32_w]
         rfl
        refine pure_ (i := 18) (N := some 51) (v := ?_) (a' := ?_) #[true,true,true,true,true,true,true,true,true,true,true,true,true,true,false,true,true,true,true,false,false,false] rfl rfl (q0r HT_.out (by kernel_rfl)) (fun _ _ _ h => h) (Or.inl ⟨by rfl,?_⟩) ?_ ?_
        rotate_left
        ·intro w'
         go_simp
         with_reducible rfl
        rotate_left
        ·simp only [Act.put,zA,zB,zC,i64_w,i32_w]
         rfl
        refine take_ (i := 14) (N := some 47) (v := ?_) (a' := ?_) #[true,true,true,true,true,true,true,true,true,true,true,true,true,true,true,true,true,true,true,false,false,false] rfl rfl (take_ofW HT_.out HW_.out (by kernel_rfl)) (fun _ _ _ h => h) (Or.inl ⟨by rfl,?_⟩) hHeld ?_ ?_
        rotate_left
        ·rintro w' ⟨s0,s1,s2,s3,s4,s5,s6,s7,s8,s9,s10,s11⟩
         go_simp
         with_reducible rfl
        rotate_left
        ·simp only [Act.put,zA,zB,zC,i64_w,i32_w]
         rfl
        refine take_ (i := 19) (N := some 52) (v := ?_) (a' := ?_) #[true,true,true,true,true,true,true,true,true,true,true,true,true,true,true,true,true,true,true,true,false,false] rfl rfl (take_ofW HT_.out HW_.out (by kernel_rfl)) (fun _ _ _ h => h) (Or.inl ⟨by rfl,?_⟩) hHeld ?_ ?_
        rotate_left
        ·rintro w' ⟨s0,s1,s2,s3,s4,s5,s6,s7,s8,s9,s10,s11⟩
         go_simp
         with_reducible rfl
        rotate_left
        ·simp only [Act.put,zA,zB,zC,i64_w,i32_w]
         rfl
        refine pure_ (i := 20) (N := some 53) (v := ?_) (a' := ?_) #[true,true,true,true,true,true,true,true,true,true,true,true,true,true,true,true,true,true,true,true,true,false] rfl rfl (q0r HT_.out (by kernel_rfl)) (fun _ _ _ h => h) (Or.inl ⟨by rfl,?_⟩) ?_ ?_
        rotate_left
        ·intro w'
         go_simp
         with_reducible rfl
        rotate_left
        ·simp only [Act.put,zA,zB,zC,i64_w,i32_w]
         rfl
        refine pure_ (i := 21) (N := some 54) (v := ?_) (a' := ?_) #[true,true,true,true,true,true,true,true,true,true,true,true,true,true,true,true,true,true,true,true,true,true] rfl rfl (q0r HT_.out (by kernel_rfl)) (fun _ _ _ h => h) (Or.inl ⟨by rfl,?_⟩) ?_ ?_
        rotate_left
        ·intro w'
         go_simp
         with_reducible rfl
        rotate_left
        ·simp only [Act.put,zA,zB,zC,i64_w,i32_w]
         rfl
        refine done_ (done_of HT_.out (by kernel_rfl)) ?_
        have p333 : 0 ≤ (x7_1 : Int) := of_decide_eq_true (by first | (with_reducible assumption) | assumption)
        have q333 : x7_1 < (t319.length : Int) := of_decide_eq_true (by first | (with_reducible assumption) | assumption)
        obtain ⟨ad333,e333,hx333_0,hx333_1,hx333_2,hx333_3⟩ := at_T45 (Kd.q02 HO_6.out).2.2 x7_1 p333 q333
        obtain rfl : ad322 = ad333 := (by injection e333)
        replace p333 := eq_true p333
        replace q333 := eq_true q333
        have hnb36 := NB318_329.out
        have hnc36 := NB329_318.out
        have hcz37_0 : w35.cell? ⟨gb318,0,none⟩ = some (.string x319000_1) := (q0i BK318.out 0).trans rfl
        have hcz37_1 : w35.cell? ⟨gb318,1,none⟩ = some (.string x319001_1) := (q0i BK318.out 1).trans rfl
        have hcz37_2 : w35.cell? ⟨gb318,2,none⟩ = some (.int .i64 x319002_1) := (q0i BK318.out 2).trans rfl
        have hcz37_3 : w35.cell? ⟨gb318,3,none⟩ = some (.int .i64 x319003_1) := (q0i BK318.out 3).trans rfl
        have hfz37_0 := q0k BK318.out 0
        have hfz37_1 := q0k BK318.out 1
        have hfz37_2 := q0k BK318.out 2
        have hfz37_3 := q0k BK318.out 3
        try go_wp2
        refine bodyPost_ret (results_ct rfl _ _ gb318 45 #[.string ((q0e t319 x7_1).f0),.string ((q0e t319 x7_1).f1),.int .i64 ((q0e t319 x7_1).f2),.int .i64 ((q0e t319 x7_1).f3)] (0,0) _ rfl (by (with_reducible repeat (first | refine q0b ?_ _ | refine q0c ?_ | refine q0a ?_ _));refine q0t (cs := #[.string ((q0e t319 x7_1).f0),.string ((q0e t319 x7_1).f1),.int .i64 ((q0e t319 x7_1).f2),.int .i64 x319003_1]) ?_ 3 _ rfl;(with_reducible repeat (first | refine q0b ?_ _ | refine q0c ?_ | refine q0a ?_ _));refine q0t (cs := #[.string ((q0e t319 x7_1).f0),.string ((q0e t319 x7_1).f1),.int .i64 x319002_1,.int .i64 x319003_1]) ?_ 2 _ rfl;(with_reducible repeat (first | refine q0b ?_ _ | refine q0c ?_ | refine q0a ?_ _));refine q0t (cs := #[.string ((q0e t319 x7_1).f0),.string x319001_1,.int .i64 x319002_1,.int .i64 x319003_1]) ?_ 1 _ rfl;(with_reducible repeat (first | refine q0b ?_ _ | refine q0c ?_ | refine q0a ?_ _));refine q0t (cs := #[.string x319000_1,.string x319001_1,.int .i64 x319002_1,.int .i64 x319003_1]) ?_ 0 _ rfl;(with_reducible repeat (first | refine q0b ?_ _ | refine q0c ?_ | refine q0a ?_ _));exact BK318.out) Try.underlying45 rfl (by kernel_rfl)) rfl ?_
        exact ⟨by first | rfl | (simp [q0w,q0x] <;> rfl) | (simp [*,q0w,q0x] <;> rfl),by repeat (first | (with_reducible first | exact HB.out | apply q0h | apply q0d | apply q0f | refine q0g ?_ GE318.out | refine q0g ?_ GE329.out) | exact HB.out)⟩
       ·rw [if_neg c24] at H
        have c24b0 : decide (t326 < ((q0e t319 x7_1).f2)) = false := decide_eq_false c24
        clear c24
        have H' := Aside0.mk H
        clear H
        obtain ⟨Ao38,co38,eo38⟩ := Kd.R_slice HO_6.out
        subst eo38
        try go_wp2
        have n0_ := Aside0.mk (Kd.q0o HO_6.out)
        have n1_ := Aside0.mk (q0c BK318.out)
        have n2_ := Aside0.mk (q0f HB.out)
        clear HO_6
        clear BK318
        clear HB
        have HO_6 := n0_
        have BK318 := n1_
        have HB := n2_
        clear n0_ n1_ n2_
        have p322 : 0 ≤ (x7_1 : Int) := of_decide_eq_true (by first | (with_reducible assumption) | assumption)
        have q322 : x7_1 < (t319.length : Int) := of_decide_eq_true (by first | (with_reducible assumption) | assumption)
        obtain ⟨ad322,e322,hx322_0,hx322_1,hx322_2,hx322_3⟩ := at_T45 (Kd.q02 HO_6.out).2.2 x7_1 p322 q322
        cases e322
        replace p322 := eq_true p322
        replace q322 := eq_true q322
        have p323 : 0 ≤ (x7_1 : Int) := of_decide_eq_true (by first | (with_reducible assumption) | assumption)
        have q323 : x7_1 < (t319.length : Int) := of_decide_eq_true (by first | (with_reducible assumption) | assumption)
        obtain ⟨ad323,e323,hx323_0,hx323_1,hx323_2,hx323_3⟩ := at_T45 (Kd.q02 HO_6.out).2.2 x7_1 p323 q323
        obtain rfl : ad322 = ad323 := (by injection e323)
        replace p323 := eq_true p323
        replace q323 := eq_true q323
        refine start_ (n := 18) (S := fun w' => w'.cell? (ad322.add ((x7_1).toNat * 4)) = some (.string ((q0e t319 x7_1).f0)) ∧ w'.cell? ⟨(ad322.add ((x7_1).toNat * 4)).block,(ad322.add ((x7_1).toNat * 4)).off + 1,none⟩ = some (.string ((q0e t319 x7_1).f1)) ∧ w'.cell? ⟨(ad322.add ((x7_1).toNat * 4)).block,(ad322.add ((x7_1).toNat * 4)).off + 2,none⟩ = some (.int .i64 ((q0e t319 x7_1).f2)) ∧ w'.cell? ⟨(ad322.add ((x7_1).toNat * 4)).block,(ad322.add ((x7_1).toNat * 4)).off + 3,none⟩ = some (.int .i64 ((q0e t319 x7_1).f3)) ∧ w'.cell? (ad322.add ((x7_1).toNat * 4)) = some (.string ((q0e t319 x7_1).f0)) ∧ w'.cell? ⟨(ad322.add ((x7_1).toNat * 4)).block,(ad322.add ((x7_1).toNat * 4)).off + 1,none⟩ = some (.string ((q0e t319 x7_1).f1)) ∧ w'.cell? ⟨(ad322.add ((x7_1).toNat * 4)).block,(ad322.add ((x7_1).toNat * 4)).off + 2,none⟩ = some (.int .i64 ((q0e t319 x7_1).f2)) ∧ w'.cell? ⟨(ad322.add ((x7_1).toNat * 4)).block,(ad322.add ((x7_1).toNat * 4)).off + 3,none⟩ = some (.int .i64 ((q0e t319 x7_1).f3))) (ds := []) #[false,false,false,false,false,false,false,false,false,false,false,false,false,false,false,false,false,false] (by kernel_rfl) rfl rfl ⟨hx322_0,hx322_1,hx322_2,hx322_3,hx323_0,hx323_1,hx323_2,hx323_3⟩ (fun hHeld => ?_);refine with_tabW verdererref28_Judge.tab5 verdererref28_Judge.bits5 (fun HT_ HW_ => ?_)
        generalize wr.drew = w39 at HO_6 BK318 HB hx322_0 hx322_1 hx322_2 hx322_3 hx323_0 hx323_1 hx323_2 hx323_3 hHeld ⊢
        refine pure_ (i := 0) (N := some 19) (v := ?_) (a' := ?_) #[true,false,false,false,false,false,false,false,false,false,false,false,false,false,false,false,false,false] rfl rfl (q0r HT_.out (by kernel_rfl)) (fun _ _ _ h => h) (Or.inl ⟨by rfl,?_⟩) ?_ ?_
        rotate_left
        ·intro w'
         go_simp
         with_reducible rfl
        rotate_left
        ·simp only [Act.put,zA,zB,zC,i64_w,i32_w]
         rfl
        refine pure_ (i := 1) (N := some 20) (v := ?_) (a' := ?_) #[true,true,false,false,false,false,false,false,false,false,false,false,false,false,false,false,false,false] rfl rfl (q0r HT_.out (by kernel_rfl)) (fun _ _ _ h => h) (Or.inl ⟨by rfl,?_⟩) ?_ ?_
        rotate_left
        ·intro w'
         go_simp
         with_reducible rfl
        rotate_left
        ·simp only [Act.put,zA,zB,zC,i64_w,i32_w]
         rfl
        refine pure_ (i := 2) (N := some 21) (v := ?_) (a' := ?_) #[true,true,true,false,false,false,false,false,false,false,false,false,false,false,false,false,false,false] rfl rfl (q0r HT_.out (by kernel_rfl)) (fun _ _ _ h => h) (Or.inl ⟨by rfl,?_⟩) ?_ ?_
        rotate_left
        ·intro w'
         go_simp
         with_reducible rfl
        rotate_left
        ·simp only [Act.put,zA,zB,zC,i64_w,i32_w]
         rfl
        refine pure_ (i := 3) (N := some 22) (v := ?_) (a' := ?_) #[true,true,true,true,false,false,false,false,false,false,false,false,false,false,false,false,false,false] rfl rfl (q0r HT_.out (by kernel_rfl)) (fun _ _ _ h => h) (Or.inl ⟨by rfl,?_⟩) ?_ ?_
        rotate_left
        ·intro w'
         go_simp
         with_reducible rfl
        rotate_left
        ·simp only [Act.put,zA,zB,zC,i64_w,i32_w]
         rfl
        refine pure_ (i := 5) (N := some 24) (v := ?_) (a' := ?_) #[true,true,true,true,false,true,false,false,false,false,false,false,false,false,false,false,false,false] rfl rfl (q0r HT_.out (by kernel_rfl)) (fun _ _ _ h => h) (Or.inl ⟨by rfl,?_⟩) ?_ ?_
        rotate_left
        ·intro w'
         go_simp
         with_reducible rfl
        rotate_left
        ·simp only [Act.put,zA,zB,zC,i64_w,i32_w]
         rfl
        refine pure_ (i := 6) (N := some 25) (v := ?_) (a' := ?_) #[true,true,true,true,false,true,true,false,false,false,false,false,false,false,false,false,false,false] rfl rfl (q0r HT_.out (by kernel_rfl)) (fun _ _ _ h => h) (Or.inl ⟨by rfl,?_⟩) ?_ ?_
        rotate_left
        ·intro w'
         go_simp
         with_reducible rfl
        rotate_left
        ·simp only [Act.put,zA,zB,zC,i64_w,i32_w]
         rfl
        refine pure_ (i := 7) (N := some 26) (v := ?_) (a' := ?_) #[true,true,true,true,false,true,true,true,false,false,false,false,false,false,false,false,false,false] rfl rfl (q0r HT_.out (by kernel_rfl)) (fun _ _ _ h => h) (Or.inl ⟨by rfl,?_⟩) ?_ ?_
        rotate_left
        ·intro w'
         go_simp
         with_reducible rfl
        rotate_left
        ·simp only [Act.put,zA,zB,zC,i64_w,i32_w]
         rfl
        refine pure_ (i := 8) (N := some 27) (v := ?_) (a' := ?_) #[true,true,true,true,false,true,true,true,true,false,false,false,false,false,false,false,false,false] rfl rfl (q0r HT_.out (by kernel_rfl)) (fun _ _ _ h => h) (Or.inl ⟨by rfl,?_⟩) ?_ ?_
        rotate_left
        ·intro w'
         go_simp
         with_reducible rfl
        rotate_left
        ·simp only [Act.put,zA,zB,zC,i64_w,i32_w]
         rfl
        refine pure_ (i := 10) (N := some 29) (v := ?_) (a' := ?_) #[true,true,true,true,false,true,true,true,true,false,true,false,false,false,false,false,false,false] rfl rfl (q0r HT_.out (by kernel_rfl)) (fun _ _ _ h => h) (Or.inl ⟨by rfl,?_⟩) ?_ ?_
        rotate_left
        ·intro w'
         go_simp
         with_reducible rfl
        rotate_left
        ·simp only [Act.put,zA,zB,zC,i64_w,i32_w]
         rfl
        refine take_ (i := 4) (N := some 23) (v := ?_) (a' := ?_) #[true,true,true,true,true,true,true,true,true,false,true,false,false,false,false,false,false,false] rfl rfl (take_ofW HT_.out HW_.out (by kernel_rfl)) (fun _ _ _ h => h) (Or.inl ⟨by rfl,?_⟩) hHeld ?_ ?_
        rotate_left
        ·rintro w' ⟨s0,s1,s2,s3,s4,s5,s6,s7⟩
         go_simp
         with_reducible rfl
        rotate_left
        ·simp only [Act.put,zA,zB,zC,i64_w,i32_w]
         rfl
        refine take_ (i := 9) (N := some 28) (v := ?_) (a' := ?_) #[true,true,true,true,true,true,true,true,true,true,true,false,false,false,false,false,false,false] rfl rfl (take_ofW HT_.out HW_.out (by kernel_rfl)) (fun _ _ _ h => h) (Or.inl ⟨by rfl,?_⟩) hHeld ?_ ?_
        rotate_left
        ·rintro w' ⟨s0,s1,s2,s3,s4,s5,s6,s7⟩
         go_simp
         with_reducible rfl
        rotate_left
        ·simp only [Act.put,zA,zB,zC,i64_w,i32_w]
         rfl
        refine join_ (σ := Nat) 2 #[true,true,true,true,true,true,true,true,true,true,true,true,true,true,true,true,false,false] (fun s_ => [(30,.tuple #[.agg #[.string t324,.string t325,.int .i64 t326,.int .i64 t327],.bool true]),(8,.pointer (some ⟨s_,0,none⟩)),(18,.tuple #[.agg #[.string t324,.string t325,.int .i64 t326,.int .i64 t327],.bool true]),(31,.agg #[.string t324,.string t325,.int .i64 t326,.int .i64 t327]),(32,.bool true)]) (fun s_ w' => (w'.cell? (ad322.add ((x7_1).toNat * 4)) = some (.string ((q0e t319 x7_1).f0)) ∧ w'.cell? ⟨(ad322.add ((x7_1).toNat * 4)).block,(ad322.add ((x7_1).toNat * 4)).off + 1,none⟩ = some (.string ((q0e t319 x7_1).f1)) ∧ w'.cell? ⟨(ad322.add ((x7_1).toNat * 4)).block,(ad322.add ((x7_1).toNat * 4)).off + 2,none⟩ = some (.int .i64 ((q0e t319 x7_1).f2)) ∧ w'.cell? ⟨(ad322.add ((x7_1).toNat * 4)).block,(ad322.add ((x7_1).toNat * 4)).off + 3,none⟩ = some (.int .i64 ((q0e t319 x7_1).f3)) ∧ w'.cell? (ad322.add ((x7_1).toNat * 4)) = some (.string ((q0e t319 x7_1).f0)) ∧ w'.cell? ⟨(ad322.add ((x7_1).toNat * 4)).block,(ad322.add ((x7_1).toNat * 4)).off + 1,none⟩ = some (.string ((q0e t319 x7_1).f1)) ∧ w'.cell? ⟨(ad322.add ((x7_1).toNat * 4)).block,(ad322.add ((x7_1).toNat * 4)).off + 2,none⟩ = some (.int .i64 ((q0e t319 x7_1).f2)) ∧ w'.cell? ⟨(ad322.add ((x7_1).toNat * 4)).block,(ad322.add ((x7_1).toNat * 4)).off + 3,none⟩ = some (.int .i64 ((q0e t319 x7_1).f3))) ∧ (Kd.R k45 45 w' w.heap.size (fun k_ => k_ ≠ gb318 ∧ k_ ≠ s_) (.slice (some ad322) t319.length co38) t319) ∧ (w'.heap[gb318]? = some (.cells #[.string x319000_1,.string x319001_1,.int .i64 x319002_1,.int .i64 x319003_1] 45 (0,0))) ∧ (w'.heap[s_]? = some (.cells #[.string (⟨#[]⟩ : ByteArray),.string (⟨#[]⟩ : ByteArray),.int .i64 0,.int .i64 0] 45 (0,0))) ∧ (w.heap.size ≤ s_) ∧ (w.heap.size ≤ s_) ∧ (gb318 ≠ s_) ∧ (s_ ≠ gb318) ∧ (Below w.heap.size w w')) ?_ ?_
        rotate_left
        ·intro hCont
         refine two_ (i := 11) (j := 15) (Ni := some 30) (Nj := some 8) #[true,true,true,true,true,true,true,true,true,true,true,true,false,false,false,false,false,false] #[true,true,true,true,true,true,true,true,true,true,true,false,false,false,false,true,false,false] rfl rfl rfl rfl (two_of HT_.out (by kernel_rfl)) (by decide) (by decide) (fun K hK => ?_) (fun K hK => ?_)
         ·skip
          refine goes_ Try.func53 (by kernel_rfl) rfl #[.string ((q0e t319 x7_1).f0),.string ((q0e t319 x7_1).f1),.slice A0 l0.length c0] (by rfl) rfl rfl (by (try simp only [List.map_toArray,List.map_cons,List.map_nil]);first | done | rfl | (simp only [List.length_drop,List.length_take];rfl)) ?_
          with_reducible refine (verdererref27_Find.calls k1 ((q0e t319 x7_1).f0) ((q0e t319 x7_1).f1) _ _ l0 t324 t325 t326 t327 true _ ?side1 ?side2 A8.out).mono ?_
          (case side1 => repeat (first | exact (Kd.C_below HR0.out HB.out) | (with_reducible refine Kd.C_alloc ?_ _) | (with_reducible refine Kd.C_drewN ?_ _) | (with_reducible refine Kd.C_drew ?_)))
          (case side2 => exact HC0.out)
          rintro e w40 ⟨rfl,hb⟩
          have HS0_ := (hb.cell (World.block_lt_of_cell? _ _ (hHeld.1))).trans (hHeld.1)
          have HS1_ := (hb.cell (World.block_lt_of_cell? _ _ (hHeld.2.1))).trans (hHeld.2.1)
          have HS2_ := (hb.cell (World.block_lt_of_cell? _ _ (hHeld.2.2.1))).trans (hHeld.2.2.1)
          have HS3_ := (hb.cell (World.block_lt_of_cell? _ _ (hHeld.2.2.2.1))).trans (hHeld.2.2.2.1)
          have HS4_ := (hb.cell (World.block_lt_of_cell? _ _ (hHeld.2.2.2.2.1))).trans (hHeld.2.2.2.2.1)
          have HS5_ := (hb.cell (World.block_lt_of_cell? _ _ (hHeld.2.2.2.2.2.1))).trans (hHeld.2.2.2.2.2.1)
          have HS6_ := (hb.cell (World.block_lt_of_cell? _ _ (hHeld.2.2.2.2.2.2.1))).trans (hHeld.2.2.2.2.2.2.1)
          have HS7_ := (hb.cell (World.block_lt_of_cell? _ _ (hHeld.2.2.2.2.2.2.2))).trans (hHeld.2.2.2.2.2.2.2)
          refine ⟨_,rfl,?_⟩
          have n0_ := Aside0.mk (Kd.q0v (by (with_reducible repeat (first | apply Kd.q0m | apply Kd.q0n | apply Kd.q0o));exact HO_6.out) hb)
          have n1_ := Aside0.mk (q0q (g := gb318) (o := .cells #[.string x319000_1,.string x319001_1,.int .i64 x319002_1,.int .i64 x319003_1] 45 (0,0)) (by (with_reducible repeat (first | refine q0b ?_ _ | refine q0c ?_ | refine q0a ?_ _));exact BK318.out) hb)
          have n2_ := Aside0.mk (q0s (by repeat (first | (with_reducible first | exact HB.out | apply q0h | apply q0d | apply q0f | refine q0g ?_ GE318.out) | exact HB.out)) hb)
          clear HO_6
          clear BK318
          clear HB
          have HO_6 := n0_
          have BK318 := n1_
          have HB := n2_
          clear n0_ n1_ n2_
          (try clear hb)
          (try clear hb2)
          (try clear hk)
          (try clear hi)
          refine hK.out _ _ ⟨HS0_,HS1_,HS2_,HS3_,HS4_,HS5_,HS6_,HS7_⟩ (fun hHeld => ?_)
          clear hK K
          refine norm_ (a' := ?_) ?_ ?_
          rotate_left
          ·show Act.put _ (some 30) _ = _
           simp only [Act.put,zA,zB,zC,i64_w,i32_w]
           rfl
          refine pure_ (i := 12) (N := some 18) (v := ?_) (a' := ?_) #[true,true,true,true,true,true,true,true,true,true,true,true,true,false,false,false,false,false] rfl rfl (q0r HT_.out (by kernel_rfl)) (fun _ _ _ h => h) (Or.inl ⟨by rfl,?_⟩) ?_ ?_
          rotate_left
          ·intro w'
           go_simp
           with_reducible rfl
          rotate_left
          ·simp only [Act.put,zA,zB,zC,i64_w,i32_w]
           rfl
          refine pure_ (i := 13) (N := some 31) (v := ?_) (a' := ?_) #[true,true,true,true,true,true,true,true,true,true,true,true,true,true,false,false,false,false] rfl rfl (q0r HT_.out (by kernel_rfl)) (fun _ _ _ h => h) (Or.inl ⟨by rfl,?_⟩) ?_ ?_
          rotate_left
          ·intro w'
           go_simp
           with_reducible rfl
          rotate_left
          ·simp only [Act.put,zA,zB,zC,i64_w,i32_w]
           rfl
          refine pure_ (i := 14) (N := some 32) (v := ?_) (a' := ?_) #[true,true,true,true,true,true,true,true,true,true,true,true,true,true,true,false,false,false] rfl rfl (q0r HT_.out (by kernel_rfl)) (fun _ _ _ h => h) (Or.inl ⟨by rfl,?_⟩) ?_ ?_
          rotate_left
          ·intro w'
           go_simp
           with_reducible rfl
          rotate_left
          ·simp only [Act.put,zA,zB,zC,i64_w,i32_w]
           rfl
          refine one_ (i := 15) (N := some 8) #[true,true,true,true,true,true,true,true,true,true,true,true,true,true,true,true,false,false] rfl rfl (one_of HT_.out (by kernel_rfl)) (by decide) (fun K hK => ?_)
          refine box_step ?hg (N := 8) ?hd (cs := #[.string (⟨#[]⟩ : ByteArray),.string (⟨#[]⟩ : ByteArray),.int .i64 0,.int .i64 0]) (t := 45) ?hr ?_;(case hd => rfl);(case hg => rfl);(case hr => first | (go_simp;done) | (go_simp;rfl))
          intro gb329 hg w41 hbox hb
          have HS0_ := (hb.cell (World.block_lt_of_cell? _ _ (hHeld.1))).trans (hHeld.1)
          have HS1_ := (hb.cell (World.block_lt_of_cell? _ _ (hHeld.2.1))).trans (hHeld.2.1)
          have HS2_ := (hb.cell (World.block_lt_of_cell? _ _ (hHeld.2.2.1))).trans (hHeld.2.2.1)
          have HS3_ := (hb.cell (World.block_lt_of_cell? _ _ (hHeld.2.2.2.1))).trans (hHeld.2.2.2.1)
          have HS4_ := (hb.cell (World.block_lt_of_cell? _ _ (hHeld.2.2.2.2.1))).trans (hHeld.2.2.2.2.1)
          have HS5_ := (hb.cell (World.block_lt_of_cell? _ _ (hHeld.2.2.2.2.2.1))).trans (hHeld.2.2.2.2.2.1)
          have HS6_ := (hb.cell (World.block_lt_of_cell? _ _ (hHeld.2.2.2.2.2.2.1))).trans (hHeld.2.2.2.2.2.2.1)
          have HS7_ := (hb.cell (World.block_lt_of_cell? _ _ (hHeld.2.2.2.2.2.2.2))).trans (hHeld.2.2.2.2.2.2.2)
          have n0_ := Aside0.mk (Kd.q0v (Kd.R_elderB (by (with_reducible repeat (first | apply Kd.q0m | apply Kd.q0n | apply Kd.q0o));exact HO_6.out) gb329 (Nat.le_of_eq hg.symm)) hb)
          have n1_ := Aside0.mk (q0q (g := gb318) (o := .cells #[.string x319000_1,.string x319001_1,.int .i64 x319002_1,.int .i64 x319003_1] 45 (0,0)) (by (with_reducible repeat (first | refine q0b ?_ _ | refine q0c ?_ | refine q0a ?_ _));exact BK318.out) hb)
          have n2_ := Aside0.mk (q0s (by repeat (first | (with_reducible first | exact HB.out | apply q0h | apply q0d | apply q0f | refine q0g ?_ GE318.out) | exact HB.out)) hb)
          have n3_ := Aside0.mk (hbox)
          have n4_ := Aside0.mk ((by rw [hg];exact (q0p (by repeat (first | (with_reducible first | exact HB.out | apply q0h | apply q0d | apply q0f | refine q0g ?_ GE318.out) | exact HB.out))) : w.heap.size ≤ gb329))
          have n5_ := Aside0.mk ((by rw [hg];exact (q0p (by repeat (first | (with_reducible first | exact HB.out | apply q0h | apply q0d | apply q0f | refine q0g ?_ GE318.out) | exact HB.out))) : w.heap.size ≤ gb329))
          have n6_ := Aside0.mk ((by rw [hg];exact Nat.ne_of_lt (q0y (g := gb318) (o := .cells #[.string x319000_1,.string x319001_1,.int .i64 x319002_1,.int .i64 x319003_1] 45 (0,0)) (by (with_reducible repeat (first | refine q0b ?_ _ | refine q0c ?_ | refine q0a ?_ _));exact BK318.out)) : gb318 ≠ gb329))
          have n7_ := Aside0.mk ((by rw [hg];exact Nat.ne_of_gt (q0y (g := gb318) (o := .cells #[.string x319000_1,.string x319001_1,.int .i64 x319002_1,.int .i64 x319003_1] 45 (0,0)) (by (with_reducible repeat (first | refine q0b ?_ _ | refine q0c ?_ | refine q0a ?_ _));exact BK318.out)) : gb329 ≠ gb318))
          clear HO_6
          clear BK318
          clear HB
          have HO_6 := n0_
          have BK318 := n1_
          have HB := n2_
          have BK329 := n3_
          have GW329 := n4_
          have GE329 := n5_
          have NB318_329 := n6_
          have NB329_318 := n7_
          clear n0_ n1_ n2_ n3_ n4_ n5_ n6_ n7_
          clear hb hbox hg
          refine hK.out _ _ ⟨HS0_,HS1_,HS2_,HS3_,HS4_,HS5_,HS6_,HS7_⟩ (fun hHeld => ?_)
          clear hK K
          refine norm_ (a' := ?_) ?_ ?_
          rotate_left
          ·show Act.put _ (some 8) _ = _
           simp only [Act.put,zA,zB,zC,i64_w,i32_w]
           rfl
          exact norm_ (by simp only [putAll,Act.put,zA,zB,zC]) (hCont (gb329) _ ⟨hHeld,(by (with_reducible repeat (first | apply Kd.q0m | apply Kd.q0n | apply Kd.q0o));exact HO_6.out),(by (with_reducible repeat (first | refine q0b ?_ _ | refine q0c ?_ | refine q0a ?_ _));exact BK318.out),(by (with_reducible repeat (first | refine q0b ?_ _ | refine q0c ?_ | refine q0a ?_ _));exact BK329.out),GW329.out,GE329.out,NB318_329.out,NB329_318.out,(by repeat (first | (with_reducible first | exact HB.out | apply q0h | apply q0d | apply q0f | refine q0g ?_ GE318.out | refine q0g ?_ GE329.out) | exact HB.out))⟩)
         ·skip
          refine box_step ?hg (N := 8) ?hd (cs := #[.string (⟨#[]⟩ : ByteArray),.string (⟨#[]⟩ : ByteArray),.int .i64 0,.int .i64 0]) (t := 45) ?hr ?_;(case hd => rfl);(case hg => rfl);(case hr => first | (go_simp;done) | (go_simp;rfl))
          intro gb329 hg w40 hbox hb
          have HS0_ := (hb.cell (World.block_lt_of_cell? _ _ (hHeld.1))).trans (hHeld.1)
          have HS1_ := (hb.cell (World.block_lt_of_cell? _ _ (hHeld.2.1))).trans (hHeld.2.1)
          have HS2_ := (hb.cell (World.block_lt_of_cell? _ _ (hHeld.2.2.1))).trans (hHeld.2.2.1)
          have HS3_ := (hb.cell (World.block_lt_of_cell? _ _ (hHeld.2.2.2.1))).trans (hHeld.2.2.2.1)
          have HS4_ := (hb.cell (World.block_lt_of_cell? _ _ (hHeld.2.2.2.2.1))).trans (hHeld.2.2.2.2.1)
          have HS5_ := (hb.cell (World.block_lt_of_cell? _ _ (hHeld.2.2.2.2.2.1))).trans (hHeld.2.2.2.2.2.1)
          have HS6_ := (hb.cell (World.block_lt_of_cell? _ _ (hHeld.2.2.2.2.2.2.1))).trans (hHeld.2.2.2.2.2.2.1)
          have HS7_ := (hb.cell (World.block_lt_of_cell? _ _ (hHeld.2.2.2.2.2.2.2))).trans (hHeld.2.2.2.2.2.2.2)
          have n0_ := Aside0.mk (Kd.q0v (Kd.R_elderB (by (with_reducible repeat (first | apply Kd.q0m | apply Kd.q0n | apply Kd.q0o));exact HO_6.out) gb329 (Nat.le_of_eq hg.symm)) hb)
          have n1_ := Aside0.mk (q0q (g := gb318) (o := .cells #[.string x319000_1,.string x319001_1,.int .i64 x319002_1,.int .i64 x319003_1] 45 (0,0)) (by (with_reducible repeat (first | refine q0b ?_ _ | refine q0c ?_ | refine q0a ?_ _));exact BK318.out) hb)
          have n2_ := Aside0.mk (q0s (by repeat (first | (with_reducible first | exact HB.out | apply q0h | apply q0d | apply q0f | refine q0g ?_ GE318.out) | exact HB.out)) hb)
          have n3_ := Aside0.mk (hbox)
          have n4_ := Aside0.mk ((by rw [hg];exact (q0p (by repeat (first | (with_reducible first | exact HB.out | apply q0h | apply q0d | apply q0f | refine q0g ?_ GE318.out) | exact HB.out))) : w.heap.size ≤ gb329))
          have n5_ := Aside0.mk ((by rw [hg];exact (q0p (by repeat (first | (with_reducible first | exact HB.out | apply q0h | apply q0d | apply q0f | refine q0g ?_ GE318.out) | exact HB.out))) : w.heap.size ≤ gb329))
          have n6_ := Aside0.mk ((by rw [hg];exact Nat.ne_of_lt (q0y (g := gb318) (o := .cells #[.string x319000_1,.string x319001_1,.int .i64 x319002_1,.int .i64 x319003_1] 45 (0,0)) (by (with_reducible repeat (first | refine q0b ?_ _ | refine q0c ?_ | refine q0a ?_ _));exact BK318.out)) : gb318 ≠ gb329))
          have n7_ := Aside0.mk ((by rw [hg];exact Nat.ne_of_gt (q0y (g := gb318) (o := .cells #[.string x319000_1,.string x319001_1,.int .i64 x319002_1,.int .i64 x319003_1] 45 (0,0)) (by (with_reducible repeat (first | refine q0b ?_ _ | refine q0c ?_ | refine q0a ?_ _));exact BK318.out)) : gb329 ≠ gb318))
          clear HO_6
          clear BK318
          clear HB
          have HO_6 := n0_
          have BK318 := n1_
          have HB := n2_
          have BK329 := n3_
          have GW329 := n4_
          have GE329 := n5_
          have NB318_329 := n6_
          have NB329_318 := n7_
          clear n0_ n1_ n2_ n3_ n4_ n5_ n6_ n7_
          clear hb hbox hg
          refine hK.out _ _ ⟨HS0_,HS1_,HS2_,HS3_,HS4_,HS5_,HS6_,HS7_⟩ (fun hHeld => ?_)
          clear hK K
          refine norm_ (a' := ?_) ?_ ?_
          rotate_left
          ·show Act.put _ (some 8) _ = _
           simp only [Act.put,zA,zB,zC,i64_w,i32_w]
           rfl
          refine one_ (i := 11) (N := some 30) #[true,true,true,true,true,true,true,true,true,true,true,true,false,false,false,true,false,false] rfl rfl (one_of HT_.out (by kernel_rfl)) (by decide) (fun K hK => ?_)
          refine goes_ Try.func53 (by kernel_rfl) rfl #[.string ((q0e t319 x7_1).f0),.string ((q0e t319 x7_1).f1),.slice A0 l0.length c0] (by rfl) rfl rfl (by (try simp only [List.map_toArray,List.map_cons,List.map_nil]);first | done | rfl | (simp only [List.length_drop,List.length_take];rfl)) ?_
          with_reducible refine (verdererref27_Find.calls k1 ((q0e t319 x7_1).f0) ((q0e t319 x7_1).f1) _ _ l0 t324 t325 t326 t327 true _ ?side1 ?side2 A8.out).mono ?_
          (case side1 => repeat (first | exact (Kd.C_below HR0.out HB.out) | (with_reducible refine Kd.C_alloc ?_ _) | (with_reducible refine Kd.C_drewN ?_ _) | (with_reducible refine Kd.C_drew ?_)))
          (case side2 => exact HC0.out)
          rintro e w41 ⟨rfl,hb⟩
          have HS0_ := (hb.cell (World.block_lt_of_cell? _ _ (hHeld.1))).trans (hHeld.1)
          have HS1_ := (hb.cell (World.block_lt_of_cell? _ _ (hHeld.2.1))).trans (hHeld.2.1)
          have HS2_ := (hb.cell (World.block_lt_of_cell? _ _ (hHeld.2.2.1))).trans (hHeld.2.2.1)
          have HS3_ := (hb.cell (World.block_lt_of_cell? _ _ (hHeld.2.2.2.1))).trans (hHeld.2.2.2.1)
          have HS4_ := (hb.cell (World.block_lt_of_cell? _ _ (hHeld.2.2.2.2.1))).trans (hHeld.2.2.2.2.1)
          have HS5_ := (hb.cell (World.block_lt_of_cell? _ _ (hHeld.2.2.2.2.2.1))).trans (hHeld.2.2.2.2.2.1)
          have HS6_ := (hb.cell (World.block_lt_of_cell? _ _ (hHeld.2.2.2.2.2.2.1))).trans (hHeld.2.2.2.2.2.2.1)
          have HS7_ := (hb.cell (World.block_lt_of_cell? _ _ (hHeld.2.2.2.2.2.2.2))).trans (hHeld.2.2.2.2.2.2.2)
          refine ⟨_,rfl,?_⟩
          have n0_ := Aside0.mk (Kd.q0v (by (with_reducible repeat (first | apply Kd.q0m | apply Kd.q0n | apply Kd.q0o));exact HO_6.out) hb)
          have n1_ := Aside0.mk (q0q (g := gb318) (o := .cells #[.string x319000_1,.string x319001_1,.int .i64 x319002_1,.int .i64 x319003_1] 45 (0,0)) (by (with_reducible repeat (first | refine q0b ?_ _ | refine q0c ?_ | refine q0a ?_ _));exact BK318.out) hb)
          have n2_ := Aside0.mk (q0q (g := gb329) (o := .cells #[.string (⟨#[]⟩ : ByteArray),.string (⟨#[]⟩ : ByteArray),.int .i64 0,.int .i64 0] 45 (0,0)) (by (with_reducible repeat (first | refine q0b ?_ _ | refine q0c ?_ | refine q0a ?_ _));exact BK329.out) hb)
          have n3_ := Aside0.mk (q0s (by repeat (first | (with_reducible first | exact HB.out | apply q0h | apply q0d | apply q0f | refine q0g ?_ GE318.out | refine q0g ?_ GE329.out) | exact HB.out)) hb)
          clear HO_6
          clear BK318
          clear BK329
          clear HB
          have HO_6 := n0_
          have BK318 := n1_
          have BK329 := n2_
          have HB := n3_
          clear n0_ n1_ n2_ n3_
          (try clear hb)
          (try clear hb2)
          (try clear hk)
          (try clear hi)
          refine hK.out _ _ ⟨HS0_,HS1_,HS2_,HS3_,HS4_,HS5_,HS6_,HS7_⟩ (fun hHeld => ?_)
          clear hK K
          refine norm_ (a' := ?_) ?_ ?_
          rotate_left
          ·show Act.put _ (some 30) _ = _
           simp only [Act.put,zA,zB,zC,i64_w,i32_w]
           rfl
          refine pure_ (i := 12) (N := some 18) (v := ?_) (a' := ?_) #[true,true,true,true,true,true,true,true,true,true,true,true,true,false,false,true,false,false] rfl rfl (q0r HT_.out (by kernel_rfl)) (fun _ _ _ h => h) (Or.inl ⟨by rfl,?_⟩) ?_ ?_
          rotate_left
          ·intro w'
           go_simp
           with_reducible rfl
          rotate_left
          ·simp only [Act.put,zA,zB,zC,i64_w,i32_w]
           rfl
          refine pure_ (i := 13) (N := some 31) (v := ?_) (a' := ?_) #[true,true,true,true,true,true,true,true,true,true,true,true,true,true,false,true,false,false] rfl rfl (q0r HT_.out (by kernel_rfl)) (fun _ _ _ h => h) (Or.inl ⟨by rfl,?_⟩) ?_ ?_
          rotate_left
          ·intro w'
           go_simp
           with_reducible rfl
          rotate_left
          ·simp only [Act.put,zA,zB,zC,i64_w,i32_w]
           rfl
          refine pure_ (i := 14) (N := some 32) (v := ?_) (a' := ?_) #[true,true,true,true,true,true,true,true,true,true,true,true,true,true,true,true,false,false] rfl rfl (q0r HT_.out (by kernel_rfl)) (fun _ _ _ h => h) (Or.inl ⟨by rfl,?_⟩) ?_ ?_
          rotate_left
          ·intro w'
           go_simp
           with_reducible rfl
          rotate_left
          ·simp only [Act.put,zA,zB,zC,i64_w,i32_w]
           rfl
          exact norm_ (by simp only [putAll,Act.put,zA,zB,zC]) (hCont (gb329) _ ⟨hHeld,(by (with_reducible repeat (first | apply Kd.q0m | apply Kd.q0n | apply Kd.q0o));exact HO_6.out),(by (with_reducible repeat (first | refine q0b ?_ _ | refine q0c ?_ | refine q0a ?_ _));exact BK318.out),(by (with_reducible repeat (first | refine q0b ?_ _ | refine q0c ?_ | refine q0a ?_ _));exact BK329.out),GW329.out,GE329.out,NB318_329.out,NB329_318.out,(by repeat (first | (with_reducible first | exact HB.out | apply q0h | apply q0d | apply q0f | refine q0g ?_ GE318.out | refine q0g ?_ GE329.out) | exact HB.out))⟩)
        rintro gb329 w42 ⟨hS_,h0_,h1_,h2_,h3_,h4_,h5_,h6_,h7_⟩
        have n0_ : Aside0 (Kd.R k45 45 w42 w.heap.size (fun k_ => k_ ≠ gb318 ∧ k_ ≠ gb329) (.slice (some ad322) t319.length co38) t319) := ⟨h0_⟩
        have n1_ : Aside0 (w42.heap[gb318]? = some (.cells #[.string x319000_1,.string x319001_1,.int .i64 x319002_1,.int .i64 x319003_1] 45 (0,0))) := ⟨h1_⟩
        have n2_ : Aside0 (w42.heap[gb329]? = some (.cells #[.string (⟨#[]⟩ : ByteArray),.string (⟨#[]⟩ : ByteArray),.int .i64 0,.int .i64 0] 45 (0,0))) := ⟨h2_⟩
        have n3_ : Aside0 (w.heap.size ≤ gb329) := ⟨h3_⟩
        have n4_ : Aside0 (w.heap.size ≤ gb329) := ⟨h4_⟩
        have n5_ : Aside0 (gb318 ≠ gb329) := ⟨h5_⟩
        have n6_ : Aside0 (gb329 ≠ gb318) := ⟨h6_⟩
        have n7_ : Aside0 (Below w.heap.size w w42) := ⟨h7_⟩
        clear HO_6
        clear BK318
        clear HB
        clear h0_ h1_ h2_ h3_ h4_ h5_ h6_ h7_
        have HO_6 := n0_
        have BK318 := n1_
        have BK329 := n2_
        have GW329 := n3_
        have GE329 := n4_
        have NB318_329 := n5_
        have NB329_318 := n6_
        have HB := n7_
        clear n0_ n1_ n2_ n3_ n4_ n5_ n6_ n7_
        have hHeld : w42.cell? (ad322.add ((x7_1).toNat * 4)) = some (.string ((q0e t319 x7_1).f0)) ∧ w42.cell? ⟨(ad322.add ((x7_1).toNat * 4)).block,(ad322.add ((x7_1).toNat * 4)).off + 1,none⟩ = some (.string ((q0e t319 x7_1).f1)) ∧ w42.cell? ⟨(ad322.add ((x7_1).toNat * 4)).block,(ad322.add ((x7_1).toNat * 4)).off + 2,none⟩ = some (.int .i64 ((q0e t319 x7_1).f2)) ∧ w42.cell? ⟨(ad322.add ((x7_1).toNat * 4)).block,(ad322.add ((x7_1).toNat * 4)).off + 3,none⟩ = some (.int .i64 ((q0e t319 x7_1).f3)) ∧ w42.cell? (ad322.add ((x7_1).toNat * 4)) = some (.string ((q0e t319 x7_1).f0)) ∧ w42.cell? ⟨(ad322.add ((x7_1).toNat * 4)).block,(ad322.add ((x7_1).toNat * 4)).off + 1,none⟩ = some (.string ((q0e t319 x7_1).f1)) ∧ w42.cell? ⟨(ad322.add ((x7_1).toNat * 4)).block,(ad322.add ((x7_1).toNat * 4)).off + 2,none⟩ = some (.int .i64 ((q0e t319 x7_1).f2)) ∧ w42.cell? ⟨(ad322.add ((x7_1).toNat * 4)).block,(ad322.add ((x7_1).toNat * 4)).off + 3,none⟩ = some (.int .i64 ((q0e t319 x7_1).f3)) := hS_
        refine norm_ (a' := ?_) ?_ ?_
        rotate_left
        ·simp only [putAll,Act.put,zA,zB,zC]
         rfl
        refine one_ (i := 16) (N := none) #[true,true,true,true,true,true,true,true,true,true,true,true,true,true,true,true,true,false] rfl rfl (one_of HT_.out (by kernel_rfl)) (by decide) (fun K hK => ?_)
        have hs43 : w42.cell? ⟨gb329,0,none⟩ = some (.string (⟨#[]⟩ : ByteArray)) := (q0i BK329.out 0).trans rfl
        have hfs43 := q0k BK329.out 0
        have hns43_0 := NB318_329.out
        have hms43_0 := NB329_318.out
        have hs44 : w42.cell? ⟨gb329,1,none⟩ = some (.string (⟨#[]⟩ : ByteArray)) := (q0i BK329.out 1).trans rfl
        have hfs44 := q0k BK329.out 1
        have hns44_0 := NB318_329.out
        have hms44_0 := NB329_318.out
        have hs45 : w42.cell? ⟨gb329,2,none⟩ = some (.int .i64 0) := (q0i BK329.out 2).trans rfl
        have hfs45 := q0k BK329.out 2
        have hns45_0 := NB318_329.out
        have hms45_0 := NB329_318.out
        have hs46 : w42.cell? ⟨gb329,3,none⟩ = some (.int .i64 0) := (q0i BK329.out 3).trans rfl
        have hfs46 := q0k BK329.out 3
        have hns46_0 := NB318_329.out
        have hms46_0 := NB329_318.out
        refine skip_ (w1 := ?_) (by rfl) rfl ?_ ?_
        rotate_left
        ·go_simp
         rfl
        refine hK.out _ _ ⟨((cell_far (p := ⟨gb329,_,none⟩) (by first | exact Kd.q0j (Kd.q0l HO_6.out (fun _ hk => hk.2)) | (rw [add_block];exact Kd.q0j (Kd.q0l HO_6.out (fun _ hk => hk.2))) | (show (Addr.add _ _).block ≠ _;rw [add_block];exact Kd.q0j (Kd.q0l HO_6.out (fun _ hk => hk.2))) | (dsimp only;exact Kd.q0j (Kd.q0l HO_6.out (fun _ hk => hk.2)))) _).trans (((cell_far (p := ⟨gb329,_,none⟩) (by first | exact Kd.q0j (Kd.q0l HO_6.out (fun _ hk => hk.2)) | (rw [add_block];exact Kd.q0j (Kd.q0l HO_6.out (fun _ hk => hk.2))) | (show (Addr.add _ _).block ≠ _;rw [add_block];exact Kd.q0j (Kd.q0l HO_6.out (fun _ hk => hk.2))) | (dsimp only;exact Kd.q0j (Kd.q0l HO_6.out (fun _ hk => hk.2)))) _).trans (((cell_far (p := ⟨gb329,_,none⟩) (by first | exact Kd.q0j (Kd.q0l HO_6.out (fun _ hk => hk.2)) | (rw [add_block];exact Kd.q0j (Kd.q0l HO_6.out (fun _ hk => hk.2))) | (show (Addr.add _ _).block ≠ _;rw [add_block];exact Kd.q0j (Kd.q0l HO_6.out (fun _ hk => hk.2))) | (dsimp only;exact Kd.q0j (Kd.q0l HO_6.out (fun _ hk => hk.2)))) _).trans (((cell_far (p := ⟨gb329,_,none⟩) (by first | exact Kd.q0j (Kd.q0l HO_6.out (fun _ hk => hk.2)) | (rw [add_block];exact Kd.q0j (Kd.q0l HO_6.out (fun _ hk => hk.2))) | (show (Addr.add _ _).block ≠ _;rw [add_block];exact Kd.q0j (Kd.q0l HO_6.out (fun _ hk => hk.2))) | (dsimp only;exact Kd.q0j (Kd.q0l HO_6.out (fun _ hk => hk.2)))) _).trans (hHeld.1)))))))),((cell_far (p := ⟨gb329,_,none⟩) (by first | exact Kd.q0j (Kd.q0l HO_6.out (fun _ hk => hk.2)) | (rw [add_block];exact Kd.q0j (Kd.q0l HO_6.out (fun _ hk => hk.2))) | (show (Addr.add _ _).block ≠ _;rw [add_block];exact Kd.q0j (Kd.q0l HO_6.out (fun _ hk => hk.2))) | (dsimp only;exact Kd.q0j (Kd.q0l HO_6.out (fun _ hk => hk.2)))) _).trans (((cell_far (p := ⟨gb329,_,none⟩) (by first | exact Kd.q0j (Kd.q0l HO_6.out (fun _ hk => hk.2)) | (rw [add_block];exact Kd.q0j (Kd.q0l HO_6.out (fun _ hk => hk.2))) | (show (Addr.add _ _).block ≠ _;rw [add_block];exact Kd.q0j (Kd.q0l HO_6.out (fun _ hk => hk.2))) | (dsimp only;exact Kd.q0j (Kd.q0l HO_6.out (fun _ hk => hk.2)))) _).trans (((cell_far (p := ⟨gb329,_,none⟩) (by first | exact Kd.q0j (Kd.q0l HO_6.out (fun _ hk => hk.2)) | (rw [add_block];exact Kd.q0j (Kd.q0l HO_6.out (fun _ hk => hk.2))) | (show (Addr.add _ _).block ≠ _;rw [add_block];exact Kd.q0j (Kd.q0l HO_6.out (fun _ hk => hk.2))) | (dsimp only;exact Kd.q0j (Kd.q0l HO_6.out (fun _ hk => hk.2)))) _).trans (((cell_far (p := ⟨gb329,_,none⟩) (by first | exact Kd.q0j (Kd.q0l HO_6.out (fun _ hk => hk.2)) | (rw [add_block];exact Kd.q0j (Kd.q0l HO_6.out (fun _ hk => hk.2))) | (show (Addr.add _ _).block ≠ _;rw [add_block];exact Kd.q0j (Kd.q0l HO_6.out (fun _ hk => hk.2))) | (dsimp only;exact Kd.q0j (Kd.q0l HO_6.out (fun _ hk => hk.2)))) _).trans (hHeld.2.1)))))))),((cell_far (p := ⟨gb329,_,none⟩) (by first | exact Kd.q0j (Kd.q0l HO_6.out (fun _ hk => hk.2)) | (rw [add_block];exact Kd.q0j (Kd.q0l HO_6.out (fun _ hk => hk.2))) | (show (Addr.add _ _).block ≠ _;rw [add_block];exact Kd.q0j (Kd.q0l HO_6.out (fun _ hk => hk.2))) | (dsimp only;exact Kd.q0j (Kd.q0l HO_6.out (fun _ hk => hk.2)))) _).trans (((cell_far (p := ⟨gb329,_,none⟩) (by first | exact Kd.q0j (Kd.q0l HO_6.out (fun _ hk => hk.2)) | (rw [add_block];exact Kd.q0j (Kd.q0l HO_6.out (fun _ hk => hk.2))) | (show (Addr.add _ _).block ≠ _;rw [add_block];exact Kd.q0j (Kd.q0l HO_6.out (fun _ hk => hk.2))) | (dsimp only;exact Kd.q0j (Kd.q0l HO_6.out (fun _ hk => hk.2)))) _).trans (((cell_far (p := ⟨gb329,_,none⟩) (by first | exact Kd.q0j (Kd.q0l HO_6.out (fun _ hk => hk.2)) | (rw [add_block];exact Kd.q0j (Kd.q0l HO_6.out (fun _ hk => hk.2))) | (show (Addr.add _ _).block ≠ _;rw [add_block];exact Kd.q0j (Kd.q0l HO_6.out (fun _ hk => hk.2))) | (dsimp only;exact Kd.q0j (Kd.q0l HO_6.out (fun _ hk => hk.2)))) _).trans (((cell_far (p := ⟨gb329,_,none⟩) (by first | exact Kd.q0j (Kd.q0l HO_6.out (fun _ hk => hk.2)) | (rw [add_block];exact Kd.q0j (Kd.q0l HO_6.out (fun _ hk => hk.2))) | (show (Addr.add _ _).block ≠ _;rw [add_block];exact Kd.q0j (Kd.q0l HO_6.out (fun _ hk => hk.2))) | (dsimp only;exact Kd.q0j (Kd.q0l HO_6.out (fun _ hk => hk.2)))) _).trans (hHeld.2.2.1)))))))),((cell_far (p := ⟨gb329,_,none⟩) (by first | exact Kd.q0j (Kd.q0l HO_6.out (fun _ hk => hk.2)) | (rw [add_block];exact Kd.q0j (Kd.q0l HO_6.out (fun _ hk => hk.2))) | (show (Addr.add _ _).block ≠ _;rw [add_block];exact Kd.q0j (Kd.q0l HO_6.out (fun _ hk => hk.2))) | (dsimp only;exact Kd.q0j (Kd.q0l HO_6.out (fun _ hk => hk.2)))) _).trans (((cell_far (p := ⟨gb329,_,none⟩) (by first | exact Kd.q0j (Kd.q0l HO_6.out (fun _ hk => hk.2)) | (rw [add_block];exact Kd.q0j (Kd.q0l HO_6.out (fun _ hk => hk.2))) | (show (Addr.add _ _).block ≠ _;rw [add_block];exact Kd.q0j (Kd.q0l HO_6.out (fun _ hk => hk.2))) | (dsimp only;exact Kd.q0j (Kd.q0l HO_6.out (fun _ hk => hk.2)))) _).trans (((cell_far (p := ⟨gb329,_,none⟩) (by first | exact Kd.q0j (Kd.q0l HO_6.out (fun _ hk => hk.2)) | (rw [add_block];exact Kd.q0j (Kd.q0l HO_6.out (fun _ hk => hk.2))) | (show (Addr.add _ _).block ≠ _;rw [add_block];exact Kd.q0j (Kd.q0l HO_6.out (fun _ hk => hk.2))) | (dsimp only;exact Kd.q0j (Kd.q0l HO_6.out (fun _ hk => hk.2)))) _).trans (((cell_far (p := ⟨gb329,_,none⟩) (by first | exact Kd.q0j (Kd.q0l HO_6.out (fun _ hk => hk.2)) | (rw [add_block];exact Kd.q0j (Kd.q0l HO_6.out (fun _ hk => hk.2))) | (show (Addr.add _ _).block ≠ _;rw [add_block];exact Kd.q0j (Kd.q0l HO_6.out (fun _ hk => hk.2))) | (dsimp only;exact Kd.q0j (Kd.q0l HO_6.out (fun _ hk => hk.2)))) _).trans (hHeld.2.2.2.1)))))))),((cell_far (p := ⟨gb329,_,none⟩) (by first | exact Kd.q0j (Kd.q0l HO_6.out (fun _ hk => hk.2)) | (rw [add_block];exact Kd.q0j (Kd.q0l HO_6.out (fun _ hk => hk.2))) | (show (Addr.add _ _).block ≠ _;rw [add_block];exact Kd.q0j (Kd.q0l HO_6.out (fun _ hk => hk.2))) | (dsimp only;exact Kd.q0j (Kd.q0l HO_6.out (fun _ hk => hk.2)))) _).trans (((cell_far (p := ⟨gb329,_,none⟩) (by first | exact Kd.q0j (Kd.q0l HO_6.out (fun _ hk => hk.2)) | (rw [add_block];exact Kd.q0j (Kd.q0l HO_6.out (fun _ hk => hk.2))) | (show (Addr.add _ _).block ≠ _;rw [add_block];exact Kd.q0j (Kd.q0l HO_6.out (fun _ hk => hk.2))) | (dsimp only;exact Kd.q0j (Kd.q0l HO_6.out (fun _ hk => hk.2)))) _).trans (((cell_far (p := ⟨gb329,_,none⟩) (by first | exact Kd.q0j (Kd.q0l HO_6.out (fun _ hk => hk.2)) | (rw [add_block];exact Kd.q0j (Kd.q0l HO_6.out (fun _ hk => hk.2))) | (show (Addr.add _ _).block ≠ _;rw [add_block];exact Kd.q0j (Kd.q0l HO_6.out (fun _ hk => hk.2))) | (dsimp only;exact Kd.q0j (Kd.q0l HO_6.out (fun _ hk => hk.2)))) _).trans (((cell_far (p := ⟨gb329,_,none⟩) (by first | exact Kd.q0j (Kd.q0l HO_6.out (fun _ hk => hk.2)) | (rw [add_block];exact Kd.q0j (Kd.q0l HO_6.out (fun _ hk => hk.2))) | (show (Addr.add _ _).block ≠ _;rw [add_block];exact Kd.q0j (Kd.q0l HO_6.out (fun _ hk => hk.2))) | (dsimp only;exact Kd.q0j (Kd.q0l HO_6.out (fun _ hk => hk.2)))) _).trans (hHeld.2.2.2.2.1)))))))),((cell_far (p := ⟨gb329,_,none⟩) (by first | exact Kd.q0j (Kd.q0l HO_6.out (fun _ hk => hk.2)) | (rw [add_block];exact Kd.q0j (Kd.q0l HO_6.out (fun _ hk => hk.2))) | (show (Addr.add _ _).block ≠ _;rw [add_block];exact Kd.q0j (Kd.q0l HO_6.out (fun _ hk => hk.2))) | (dsimp only;exact Kd.q0j (Kd.q0l HO_6.out (fun _ hk => hk.2)))) _).trans (((cell_far (p := ⟨gb329,_,none⟩) (by first | exact Kd.q0j (Kd.q0l HO_6.out (fun _ hk => hk.2)) | (rw [add_block];exact Kd.q0j (Kd.q0l HO_6.out (fun _ hk => hk.2))) | (show (Addr.add _ _).block ≠ _;rw [add_block];exact Kd.q0j (Kd.q0l HO_6.out (fun _ hk => hk.2))) | (dsimp only;exact Kd.q0j (Kd.q0l HO_6.out (fun _ hk => hk.2)))) _).trans (((cell_far (p := ⟨gb329,_,none⟩) (by first | exact Kd.q0j (Kd.q0l HO_6.out (fun _ hk => hk.2)) | (rw [add_block];exact Kd.q0j (Kd.q0l HO_6.out (fun _ hk => hk.2))) | (show (Addr.add _ _).block ≠ _;rw [add_block];exact Kd.q0j (Kd.q0l HO_6.out (fun _ hk => hk.2))) | (dsimp only;exact Kd.q0j (Kd.q0l HO_6.out (fun _ hk => hk.2)))) _).trans (((cell_far (p := ⟨gb329,_,none⟩) (by first | exact Kd.q0j (Kd.q0l HO_6.out (fun _ hk => hk.2)) | (rw [add_block];exact Kd.q0j (Kd.q0l HO_6.out (fun _ hk => hk.2))) | (show (Addr.add _ _).block ≠ _;rw [add_block];exact Kd.q0j (Kd.q0l HO_6.out (fun _ hk => hk.2))) | (dsimp only;exact Kd.q0j (Kd.q0l HO_6.out (fun _ hk => hk.2)))) _).trans (hHeld.2.2.2.2.2.1)))))))),((cell_far (p := ⟨gb329,_,none⟩) (by first | exact Kd.q0j (Kd.q0l HO_6.out (fun _ hk => hk.2)) | (rw [add_block];exact Kd.q0j (Kd.q0l HO_6.out (fun _ hk => hk.2))) | (show (Addr.add _ _).block ≠ _;rw [add_block];exact Kd.q0j (Kd.q0l HO_6.out (fun _ hk => hk.2))) | (dsimp only;exact Kd.q0j (Kd.q0l HO_6.out (fun _ hk => hk.2)))) _).trans (((cell_far (p := ⟨gb329,_,none⟩) (by first | exact Kd.q0j (Kd.q0l HO_6.out (fun _ hk => hk.2)) | (rw [add_block];exact Kd.q0j (Kd.q0l HO_6.out (fun _ hk => hk.2))) | (show (Addr.add _ _).block ≠ _;rw [add_block];exact Kd.q0j (Kd.q0l HO_6.out (fun _ hk => hk.2))) | (dsimp only;exact Kd.q0j (Kd.q0l HO_6.out (fun _ hk => hk.2)))) _).trans (((cell_far (p := ⟨gb329,_,none⟩) (by first | exact Kd.q0j (Kd.q0l HO_6.out (fun _ hk => hk.2)) | (rw [add_block];exact Kd.q0j (Kd.q0l HO_6.out (fun _ hk => hk.2))) | (show (Addr.add _ _).block ≠ _;rw [add_block];exact Kd.q0j (Kd.q0l HO_6.out (fun _ hk => hk.2))) | (dsimp only;exact Kd.q0j (Kd.q0l HO_6.out (fun _ hk => hk.2)))) _).trans (((cell_far (p := ⟨gb329,_,none⟩) (by first | exact Kd.q0j (Kd.q0l HO_6.out (fun _ hk => hk.2)) | (rw [add_block];exact Kd.q0j (Kd.q0l HO_6.out (fun _ hk => hk.2))) | (show (Addr.add _ _).block ≠ _;rw [add_block];exact Kd.q0j (Kd.q0l HO_6.out (fun _ hk => hk.2))) | (dsimp only;exact Kd.q0j (Kd.q0l HO_6.out (fun _ hk => hk.2)))) _).trans (hHeld.2.2.2.2.2.2.1)))))))),((cell_far (p := ⟨gb329,_,none⟩) (by first | exact Kd.q0j (Kd.q0l HO_6.out (fun _ hk => hk.2)) | (rw [add_block];exact Kd.q0j (Kd.q0l HO_6.out (fun _ hk => hk.2))) | (show (Addr.add _ _).block ≠ _;rw [add_block];exact Kd.q0j (Kd.q0l HO_6.out (fun _ hk => hk.2))) | (dsimp only;exact Kd.q0j (Kd.q0l HO_6.out (fun _ hk => hk.2)))) _).trans (((cell_far (p := ⟨gb329,_,none⟩) (by first | exact Kd.q0j (Kd.q0l HO_6.out (fun _ hk => hk.2)) | (rw [add_block];exact Kd.q0j (Kd.q0l HO_6.out (fun _ hk => hk.2))) | (show (Addr.add _ _).block ≠ _;rw [add_block];exact Kd.q0j (Kd.q0l HO_6.out (fun _ hk => hk.2))) | (dsimp only;exact Kd.q0j (Kd.q0l HO_6.out (fun _ hk => hk.2)))) _).trans (((cell_far (p := ⟨gb329,_,none⟩) (by first | exact Kd.q0j (Kd.q0l HO_6.out (fun _ hk => hk.2)) | (rw [add_block];exact Kd.q0j (Kd.q0l HO_6.out (fun _ hk => hk.2))) | (show (Addr.add _ _).block ≠ _;rw [add_block];exact Kd.q0j (Kd.q0l HO_6.out (fun _ hk => hk.2))) | (dsimp only;exact Kd.q0j (Kd.q0l HO_6.out (fun _ hk => hk.2)))) _).trans (((cell_far (p := ⟨gb329,_,none⟩) (by first | exact Kd.q0j (Kd.q0l HO_6.out (fun _ hk => hk.2)) | (rw [add_block];exact Kd.q0j (Kd.q0l HO_6.out (fun _ hk => hk.2))) | (show (Addr.add _ _).block ≠ _;rw [add_block];exact Kd.q0j (Kd.q0l HO_6.out (fun _ hk => hk.2))) | (dsimp only;exact Kd.q0j (Kd.q0l HO_6.out (fun _ hk => hk.2)))) _).trans (hHeld.2.2.2.2.2.2.2))))))))⟩ (fun hHeld => ?_)
        clear hK K
        refine pure_ (i := 17) (N := some 9) (v := ?_) (a' := ?_) #[true,true,true,true,true,true,true,true,true,true,true,true,true,true,true,true,true,true] rfl rfl (q0r HT_.out (by kernel_rfl)) (fun _ _ _ h => h) (Or.inl ⟨by rfl,?_⟩) ?_ ?_
        rotate_left
        ·intro w'
         go_simp
         with_reducible rfl
        rotate_left
        ·simp only [Act.put,zA,zB,zC,i64_w,i32_w]
         rfl
        refine done_ (done_of HT_.out (by kernel_rfl)) ?_
        try go_wp2
        have n0_ : Aside0 (Kd.R k45 45 ((((w42.setCell ⟨gb329,0,none⟩ (.string t324)).setCell ⟨gb329,1,none⟩ (.string t325)).setCell ⟨gb329,2,none⟩ (.int .i64 t326)).setCell ⟨gb329,3,none⟩ (.int .i64 t327)) w.heap.size (fun k_ => k_ ≠ gb318 ∧ k_ ≠ gb329) (.slice (some ad322) t319.length co38) t319) := ⟨by (with_reducible repeat (first | apply Kd.q0m | apply Kd.q0n | apply Kd.q0o));exact Kd.R_mono (Kd.R_far (p := ⟨gb329,3,none⟩) (Kd.R_far (p := ⟨gb329,2,none⟩) (Kd.R_far (p := ⟨gb329,1,none⟩) (Kd.R_far (p := ⟨gb329,0,none⟩) (Kd.R_mono HO_6.out (fun k_ hk => (⟨hk,hk.2⟩ : _ ∧ k_ ≠ gb329))) (fun _ hk => hk.2) (.string t324)) (fun _ hk => hk.2) (.string t325)) (fun _ hk => hk.2) (.int .i64 t326)) (fun _ hk => hk.2) (.int .i64 t327)) (fun _ hk => ⟨hk.1.1,hk.1.2⟩)⟩
        have n1_ : Aside0 (((((w42.setCell ⟨gb329,0,none⟩ (.string t324)).setCell ⟨gb329,1,none⟩ (.string t325)).setCell ⟨gb329,2,none⟩ (.int .i64 t326)).setCell ⟨gb329,3,none⟩ (.int .i64 t327)).heap[gb318]? = some (.cells #[.string x319000_1,.string x319001_1,.int .i64 x319002_1,.int .i64 x319003_1] 45 (0,0))) := ⟨by (with_reducible repeat (first | refine q0b ?_ _ | refine q0c ?_ | refine q0a ?_ _));refine q0u ?_ NB318_329.out _;(with_reducible repeat (first | refine q0b ?_ _ | refine q0c ?_ | refine q0a ?_ _));refine q0u ?_ NB318_329.out _;(with_reducible repeat (first | refine q0b ?_ _ | refine q0c ?_ | refine q0a ?_ _));refine q0u ?_ NB318_329.out _;(with_reducible repeat (first | refine q0b ?_ _ | refine q0c ?_ | refine q0a ?_ _));refine q0u ?_ NB318_329.out _;(with_reducible repeat (first | refine q0b ?_ _ | refine q0c ?_ | refine q0a ?_ _));exact BK318.out⟩
        have n2_ : Aside0 (((((w42.setCell ⟨gb329,0,none⟩ (.string t324)).setCell ⟨gb329,1,none⟩ (.string t325)).setCell ⟨gb329,2,none⟩ (.int .i64 t326)).setCell ⟨gb329,3,none⟩ (.int .i64 t327)).heap[gb329]? = some (.cells #[.string t324,.string t325,.int .i64 t326,.int .i64 t327] 45 (0,0))) := ⟨by (with_reducible repeat (first | refine q0b ?_ _ | refine q0c ?_ | refine q0a ?_ _));refine q0t (cs := #[.string t324,.string t325,.int .i64 t326,.int .i64 0]) ?_ 3 _ rfl;(with_reducible repeat (first | refine q0b ?_ _ | refine q0c ?_ | refine q0a ?_ _));refine q0t (cs := #[.string t324,.string t325,.int .i64 0,.int .i64 0]) ?_ 2 _ rfl;(with_reducible repeat (first | refine q0b ?_ _ | refine q0c ?_ | refine q0a ?_ _));refine q0t (cs := #[.string t324,.string (⟨#[]⟩ : ByteArray),.int .i64 0,.int .i64 0]) ?_ 1 _ rfl;(with_reducible repeat (first | refine q0b ?_ _ | refine q0c ?_ | refine q0a ?_ _));refine q0t (cs := #[.string (⟨#[]⟩ : ByteArray),.string (⟨#[]⟩ : ByteArray),.int .i64 0,.int .i64 0]) ?_ 0 _ rfl;(with_reducible repeat (first | refine q0b ?_ _ | refine q0c ?_ | refine q0a ?_ _));exact BK329.out⟩
        have n3_ : Aside0 (Below w.heap.size w ((((w42.setCell ⟨gb329,0,none⟩ (.string t324)).setCell ⟨gb329,1,none⟩ (.string t325)).setCell ⟨gb329,2,none⟩ (.int .i64 t326)).setCell ⟨gb329,3,none⟩ (.int .i64 t327))) := ⟨by repeat (first | (with_reducible first | exact HB.out | apply q0h | apply q0d | apply q0f | refine q0g ?_ GE318.out | refine q0g ?_ GE329.out) | exact HB.out)⟩
        (try clear HO_6)
        (try clear BK318)
        (try clear BK329)
        (try clear HB)
        generalize ((((w42.setCell ⟨gb329,0,none⟩ (.string t324)).setCell ⟨gb329,1,none⟩ (.string t325)).setCell ⟨gb329,2,none⟩ (.int .i64 t326)).setCell ⟨gb329,3,none⟩ (.int .i64 t327)) = w47 at n0_ n1_ n2_ n3_ ⊢
        have HO_6 := n0_
        have BK318 := n1_
        have BK329 := n2_
        have HB := n3_
        clear n0_ n1_ n2_ n3_
        have n0_ := Aside0.mk (Kd.q0o HO_6.out)
        have n1_ := Aside0.mk (q0c BK318.out)
        have n2_ := Aside0.mk (q0c BK329.out)
        have n3_ := Aside0.mk (q0f HB.out)
        clear HO_6
        clear BK318
        clear BK329
        clear HB
        have HO_6 := n0_
        have BK318 := n1_
        have BK329 := n2_
        have HB := n3_
        clear n0_ n1_ n2_ n3_
        have p330 : 0 ≤ (x7_1 : Int) := of_decide_eq_true (by first | (with_reducible assumption) | assumption)
        have q330 : x7_1 < (t319.length : Int) := of_decide_eq_true (by first | (with_reducible assumption) | assumption)
        obtain ⟨ad330,e330,hx330_0,hx330_1,hx330_2,hx330_3⟩ := at_T45 (Kd.q02 HO_6.out).2.2 x7_1 p330 q330
        obtain rfl : ad322 = ad330 := (by injection e330)
        replace p330 := eq_true p330
        replace q330 := eq_true q330
        have p332 : 0 ≤ (x7_1 : Int) := of_decide_eq_true (by first | (with_reducible assumption) | assumption)
        have q332 : x7_1 < (t319.length : Int) := of_decide_eq_true (by first | (with_reducible assumption) | assumption)
        obtain ⟨ad332,e332,hx332_0,hx332_1,hx332_2,hx332_3⟩ := at_T45 (Kd.q02 HO_6.out).2.2 x7_1 p332 q332
        obtain rfl : ad322 = ad332 := (by injection e332)
        replace p332 := eq_true p332
        replace q332 := eq_true q332
        refine start_ (n := 22) (S := fun w' => w'.cell? ⟨gb329,0,none⟩ = some (.string t324) ∧ w'.cell? ⟨gb329,1,none⟩ = some (.string t325) ∧ w'.cell? ⟨gb329,2,none⟩ = some (.int .i64 t326) ∧ w'.cell? ⟨gb329,3,none⟩ = some (.int .i64 t327) ∧ w'.cell? (ad322.add ((x7_1).toNat * 4)) = some (.string ((q0e t319 x7_1).f0)) ∧ w'.cell? ⟨(ad322.add ((x7_1).toNat * 4)).block,(ad322.add ((x7_1).toNat * 4)).off + 1,none⟩ = some (.string ((q0e t319 x7_1).f1)) ∧ w'.cell? ⟨(ad322.add ((x7_1).toNat * 4)).block,(ad322.add ((x7_1).toNat * 4)).off + 2,none⟩ = some (.int .i64 ((q0e t319 x7_1).f2)) ∧ w'.cell? ⟨(ad322.add ((x7_1).toNat * 4)).block,(ad322.add ((x7_1).toNat * 4)).off + 3,none⟩ = some (.int .i64 ((q0e t319 x7_1).f3)) ∧ w'.cell? (ad322.add ((x7_1).toNat * 4)) = some (.string ((q0e t319 x7_1).f0)) ∧ w'.cell? ⟨(ad322.add ((x7_1).toNat * 4)).block,(ad322.add ((x7_1).toNat * 4)).off + 1,none⟩ = some (.string ((q0e t319 x7_1).f1)) ∧ w'.cell? ⟨(ad322.add ((x7_1).toNat * 4)).block,(ad322.add ((x7_1).toNat * 4)).off + 2,none⟩ = some (.int .i64 ((q0e t319 x7_1).f2)) ∧ w'.cell? ⟨(ad322.add ((x7_1).toNat * 4)).block,(ad322.add ((x7_1).toNat * 4)).off + 3,none⟩ = some (.int .i64 ((q0e t319 x7_1).f3))) (ds := []) #[false,false,false,false,false,false,false,false,false,false,false,false,false,false,false,false,false,false,false,false,false,false] (by kernel_rfl) rfl rfl ⟨(q0i BK329.out 0).trans rfl,(q0i BK329.out 1).trans rfl,(q0i BK329.out 2).trans rfl,(q0i BK329.out 3).trans rfl,hx330_0,hx330_1,hx330_2,hx330_3,hx332_0,hx332_1,hx332_2,hx332_3⟩ (fun hHeld => ?_);refine with_tabW verdererref28_Judge.tab6 verdererref28_Judge.bits6 (fun HT_ HW_ => ?_)
        generalize w47.drew = w48 at HO_6 BK318 BK329 HB hx330_0 hx330_1 hx330_2 hx330_3 hx332_0 hx332_1 hx332_2 hx332_3 hHeld ⊢
        refine pure_ (i := 0) (N := some 33) (v := ?_) (a' := ?_) #[true,false,false,false,false,false,false,false,false,false,false,false,false,false,false,false,false,false,false,false,false,false] rfl rfl (q0r HT_.out (by kernel_rfl)) (fun _ _ _ h => h) (Or.inl ⟨by rfl,?_⟩) ?_ ?_
        rotate_left
        ·intro w'
         go_simp
         with_reducible rfl
        rotate_left
        ·simp only [Act.put,zA,zB,zC,i64_w,i32_w]
         rfl
        refine pure_ (i := 1) (N := some 34) (v := ?_) (a' := ?_) #[true,true,false,false,false,false,false,false,false,false,false,false,false,false,false,false,false,false,false,false,false,false] rfl rfl (q0r HT_.out (by kernel_rfl)) (fun _ _ _ h => h) (Or.inl ⟨by rfl,?_⟩) ?_ ?_
        rotate_left
        ·intro w'
         go_simp
         with_reducible rfl
        rotate_left
        ·simp only [Act.put,zA,zB,zC,i64_w,i32_w]
         rfl
        refine pure_ (i := 2) (N := some 35) (v := ?_) (a' := ?_) #[true,true,true,false,false,false,false,false,false,false,false,false,false,false,false,false,false,false,false,false,false,false] rfl rfl (q0r HT_.out (by kernel_rfl)) (fun _ _ _ h => h) (Or.inl ⟨by rfl,?_⟩) ?_ ?_
        rotate_left
        ·intro w'
         go_simp
         with_reducible rfl
        rotate_left
        ·simp only [Act.put,zA,zB,zC,i64_w,i32_w]
         rfl
        refine pure_ (i := 3) (N := some 36) (v := ?_) (a' := ?_) #[true,true,true,true,false,false,false,false,false,false,false,false,false,false,false,false,false,false,false,false,false,false] rfl rfl (q0r HT_.out (by kernel_rfl)) (fun _ _ _ h => h) (Or.inl ⟨by rfl,?_⟩) ?_ ?_
        rotate_left
        ·intro w'
         go_simp
         with_reducible rfl
        rotate_left
        ·simp only [Act.put,zA,zB,zC,i64_w,i32_w]
         rfl
        refine pure_ (i := 5) (N := some 38) (v := ?_) (a' := ?_) #[true,true,true,true,false,true,false,false,false,false,false,false,false,false,false,false,false,false,false,false,false,false] rfl rfl (q0r HT_.out (by kernel_rfl)) (fun _ _ _ h => h) (Or.inl ⟨by rfl,?_⟩) ?_ ?_
        rotate_left
        ·intro w'
         go_simp
         with_reducible rfl
        rotate_left
        ·simp only [Act.put,zA,zB,zC,i64_w,i32_w]
         rfl
        refine pure_ (i := 6) (N := some 39) (v := ?_) (a' := ?_) #[true,true,true,true,false,true,true,false,false,false,false,false,false,false,false,false,false,false,false,false,false,false] rfl rfl (q0r HT_.out (by kernel_rfl)) (fun _ _ _ h => h) (Or.inl ⟨by rfl,?_⟩) ?_ ?_
        rotate_left
        ·intro w'
         go_simp
         with_reducible rfl
        rotate_left
        ·simp only [Act.put,zA,zB,zC,i64_w,i32_w]
         rfl
        refine pure_ (i := 7) (N := some 40) (v := ?_) (a' := ?_) #[true,true,true,true,false,true,true,true,false,false,false,false,false,false,false,false,false,false,false,false,false,false] rfl rfl (q0r HT_.out (by kernel_rfl)) (fun _ _ _ h => h) (Or.inl ⟨by rfl,?_⟩) ?_ ?_
        rotate_left
        ·intro w'
         go_simp
         with_reducible rfl
        rotate_left
        ·simp only [Act.put,zA,zB,zC,i64_w,i32_w]
         rfl
        refine pure_ (i := 8) (N := some 41) (v := ?_) (a' := ?_) #[true,true,true,true,false,true,true,true,true,false,false,false,false,false,false,false,false,false,false,false,false,false] rfl rfl (q0r HT_.out (by kernel_rfl)) (fun _ _ _ h => h) (Or.inl ⟨by rfl,?_⟩) ?_ ?_
        rotate_left
        ·intro w'
         go_simp
         with_reducible rfl
        rotate_left
        ·simp only [Act.put,zA,zB,zC,i64_w,i32_w]
         rfl
        refine take_ (i := 4) (N := some 37) (v := ?_) (a' := ?_) #[true,true,true,true,true,true,true,true,true,false,false,false,false,false,false,false,false,false,false,false,false,false] rfl rfl (take_ofW HT_.out HW_.out (by kernel_rfl)) (fun _ _ _ h => h) (Or.inl ⟨by rfl,?_⟩) hHeld ?_ ?_
        rotate_left
        ·rintro w' ⟨s0,s1,s2,s3,s4,s5,s6,s7,s8,s9,s10,s11⟩
         go_simp
         with_reducible rfl
        rotate_left
        ·simp only [Act.put,zA,zB,zC,i64_w,i32_w]
         rfl
        refine take_ (i := 9) (N := some 42) (v := ?_) (a' := ?_) #[true,true,true,true,true,true,true,true,true,true,false,false,false,false,false,false,false,false,false,false,false,false] rfl rfl (take_ofW HT_.out HW_.out (by kernel_rfl)) (fun _ _ _ h => h) (Or.inl ⟨by rfl,?_⟩) hHeld ?_ ?_
        rotate_left
        ·rintro w' ⟨s0,s1,s2,s3,s4,s5,s6,s7,s8,s9,s10,s11⟩
         go_simp
         with_reducible rfl
        rotate_left
        ·simp only [Act.put,zA,zB,zC,i64_w,i32_w]
         rfl
        refine pure_ (i := 10) (N := some 43) (v := ?_) (a' := ?_) #[true,true,true,true,true,true,true,true,true,true,true,false,false,false,false,false,false,false,false,false,false,false] rfl rfl (q0r HT_.out (by kernel_rfl)) (fun _ _ _ h => h) (Or.inl ⟨by rfl,?_⟩) ?_ ?_
        rotate_left
        ·intro w'
         go_simp
         with_reducible rfl
        rotate_left
        ·simp only [Act.put,zA,zB,zC,i64_w,i32_w]
         rfl
        refine pure_ (i := 11) (N := some 44) (v := ?_) (a' := ?_) #[true,true,true,true,true,true,true,true,true,true,true,true,false,false,false,false,false,false,false,false,false,false] rfl rfl (q0r HT_.out (by kernel_rfl)) (fun _ _ _ h => h) (Or.inl ⟨by rfl,?_⟩) ?_ ?_
        rotate_left
        ·intro w'
         go_simp
         with_reducible rfl
        rotate_left
        ·simp only [Act.put,zA,zB,zC,i64_w,i32_w]
         rfl
        refine pure_ (i := 12) (N := some 45) (v := ?_) (a' := ?_) #[true,true,true,true,true,true,true,true,true,true,true,true,true,false,false,false,false,false,false,false,false,false] rfl rfl (q0r HT_.out (by kernel_rfl)) (fun _ _ _ h => h) (Or.inl ⟨by rfl,?_⟩) ?_ ?_
        rotate_left
        ·intro w'
         go_simp
         with_reducible rfl
        rotate_left
        ·simp only [Act.put,zA,zB,zC,i64_w,i32_w]
         rfl
        refine pure_ (i := 13) (N := some 46) (v := ?_) (a' := ?_) #[true,true,true,true,true,true,true,true,true,true,true,true,true,true,false,false,false,false,false,false,false,false] rfl rfl (q0r HT_.out (by kernel_rfl)) (fun _ _ _ h => h) (Or.inl ⟨by rfl,?_⟩) ?_ ?_
        rotate_left
        ·intro w'
         go_simp
         with_reducible rfl
        rotate_left
        ·simp only [Act.put,zA,zB,zC,i64_w,i32_w]
         rfl
        refine pure_ (i := 15) (N := some 48) (v := ?_) (a' := ?_) #[true,true,true,true,true,true,true,true,true,true,true,true,true,true,false,true,false,false,false,false,false,false] rfl rfl (q0r HT_.out (by kernel_rfl)) (fun _ _ _ h => h) (Or.inl ⟨by rfl,?_⟩) ?_ ?_
        rotate_left
        ·intro w'
         go_simp
         with_reducible rfl
        rotate_left
        ·simp only [Act.put,zA,zB,zC,i64_w,i32_w]
         rfl
        refine pure_ (i := 16) (N := some 49) (v := ?_) (a' := ?_) #[true,true,true,true,true,true,true,true,true,true,true,true,true,true,false,true,true,false,false,false,false,false] rfl rfl (q0r HT_.out (by kernel_rfl)) (fun _ _ _ h => h) (Or.inl ⟨by rfl,?_⟩) ?_ ?_
        rotate_left
        ·intro w'
         go_simp
         with_reducible rfl
        rotate_left
        ·simp only [Act.put,zA,zB,zC,i64_w,i32_w]
         rfl
        refine pure_ (i := 17) (N := some 50) (v := ?_) (a' := ?_) #[true,true,true,true,true,true,true,true,true,true,true,true,true,true,false,true,true,true,false,false,false,false] rfl rfl (q0r HT_.out (by kernel_rfl)) (fun _ _ _ h => h) (Or.inl ⟨by rfl,?_⟩) ?_ ?_
        rotate_left
        ·intro w'
         go_simp
         with_reducible rfl
        rotate_left
        ·simp only [Act.put,zA,zB,zC,i64_w,i32_w]
         rfl
        refine pure_ (i := 18) (N := some 51) (v := ?_) (a' := ?_) #[true,true,true,true,true,true,true,true,true,true,true,true,true,true,false,true,true,true,true,false,false,false] rfl rfl (q0r HT_.out (by kernel_rfl)) (fun _ _ _ h => h) (Or.inl ⟨by rfl,?_⟩) ?_ ?_
        rotate_left
        ·intro w'
         go_simp
         with_reducible rfl
        rotate_left
        ·simp only [Act.put,zA,zB,zC,i64_w,i32_w]
         rfl
        refine take_ (i := 14) (N := some 47) (v := ?_) (a' := ?_) #[true,true,true,true,true,true,true,true,true,true,true,true,true,true,true,true,true,true,true,false,false,false] rfl rfl (take_ofW HT_.out HW_.out (by kernel_rfl)) (fun _ _ _ h => h) (Or.inl ⟨by rfl,?_⟩) hHeld ?_ ?_
        rotate_left
        ·rintro w' ⟨s0,s1,s2,s3,s4,s5,s6,s7,s8,s9,s10,s11⟩
         go_simp
         with_reducible rfl
        rotate_left
        ·simp only [Act.put,zA,zB,zC,i64_w,i32_w]
         rfl
        refine take_ (i := 19) (N := some 52) (v := ?_) (a' := ?_) #[true,true,true,true,true,true,true,true,true,true,true,true,true,true,true,true,true,true,true,true,false,false] rfl rfl (take_ofW HT_.out HW_.out (by kernel_rfl)) (fun _ _ _ h => h) (Or.inl ⟨by rfl,?_⟩) hHeld ?_ ?_
        rotate_left
        ·rintro w' ⟨s0,s1,s2,s3,s4,s5,s6,s7,s8,s9,s10,s11⟩
         go_simp
         with_reducible rfl
        rotate_left
        ·simp only [Act.put,zA,zB,zC,i64_w,i32_w]
         rfl
        refine pure_ (i := 20) (N := some 53) (v := ?_) (a' := ?_) #[true,true,true,true,true,true,true,true,true,true,true,true,true,true,true,true,true,true,true,true,true,false] rfl rfl (q0r HT_.out (by kernel_rfl)) (fun _ _ _ h => h) (Or.inl ⟨by rfl,?_⟩) ?_ ?_
        rotate_left
        ·intro w'
         go_simp
         with_reducible rfl
        rotate_left
        ·simp only [Act.put,zA,zB,zC,i64_w,i32_w]
         rfl
        refine pure_ (i := 21) (N := some 54) (v := ?_) (a' := ?_) #[true,true,true,true,true,true,true,true,true,true,true,true,true,true,true,true,true,true,true,true,true,true] rfl rfl (q0r HT_.out (by kernel_rfl)) (fun _ _ _ h => h) (Or.inl ⟨by rfl,?_⟩) ?_ ?_
        rotate_left
        ·intro w'
         go_simp
         with_reducible rfl
        rotate_left
        ·simp only [Act.put,zA,zB,zC,i64_w,i32_w]
         rfl
        refine done_ (done_of HT_.out (by kernel_rfl)) ?_
        try go_wp2
        go_roundg k1
        case measure => have := HK1.out;omega
        case rel => exact ⟨(wrap64 (x7_1 + 1)),(x319000_1),(x319001_1),(x319002_1),(x319003_1),(by first | rfl | (simp;done) | (simp [*];done)),H',⟨by have := HK1.out;omega⟩,⟨by (with_reducible repeat (first | apply Kd.q0m | apply Kd.q0n | apply Kd.q0o));exact Kd.R_mono HO_6.out (fun _ hk => hk.1)⟩,⟨by (with_reducible repeat (first | refine q0b ?_ _ | refine q0c ?_ | refine q0a ?_ _));exact BK318.out⟩,⟨by repeat (first | (with_reducible first | exact HB.out | apply q0h | apply q0d | apply q0f | refine q0g ?_ GE318.out | refine q0g ?_ GE329.out) | exact HB.out)⟩⟩
     ·replace c9 := Bool.eq_false_iff.mpr c9
      subst c9
      have H1 : (some ((q0e t319 x7_1).f0,(q0e t319 x7_1).f1,(q0e t319 x7_1).f2,(q0e t319 x7_1).f3,16)) = some (r1,r2,r3,r4,r5) := by rw [if_neg (show ¬ (false = true) by decide)] at H;exact H
      clear H
      have H := H1
      clear H1
      simp only [Option.some.injEq,Prod.mk.injEq] at H
      obtain ⟨rfl,rfl,rfl,rfl,rfl⟩ := H
      obtain ⟨Ao49,co49,eo49⟩ := Kd.R_slice HO_6.out
      subst eo49
      try go_wp2
      have n0_ := Aside0.mk (Kd.q0o HO_6.out)
      have n1_ := Aside0.mk (q0c BK318.out)
      have n2_ := Aside0.mk (q0f HB.out)
      clear HO_6
      clear BK318
      clear HB
      have HO_6 := n0_
      have BK318 := n1_
      have HB := n2_
      clear n0_ n1_ n2_
      have p322 : 0 ≤ (x7_1 : Int) := of_decide_eq_true (by first | (with_reducible assumption) | assumption)
      have q322 : x7_1 < (t319.length : Int) := of_decide_eq_true (by first | (with_reducible assumption) | assumption)
      obtain ⟨ad322,e322,hx322_0,hx322_1,hx322_2,hx322_3⟩ := at_T45 (Kd.q02 HO_6.out).2.2 x7_1 p322 q322
      cases e322
      replace p322 := eq_true p322
      replace q322 := eq_true q322
      have p323 : 0 ≤ (x7_1 : Int) := of_decide_eq_true (by first | (with_reducible assumption) | assumption)
      have q323 : x7_1 < (t319.length : Int) := of_decide_eq_true (by first | (with_reducible assumption) | assumption)
      obtain ⟨ad323,e323,hx323_0,hx323_1,hx323_2,hx323_3⟩ := at_T45 (Kd.q02 HO_6.out).2.2 x7_1 p323 q323
      obtain rfl : ad322 = ad323 := (by injection e323)
      replace p323 := eq_true p323
      replace q323 := eq_true q323
      refine start_ (n := 18) (S := fun w' => w'.cell? (ad322.add ((x7_1).toNat * 4)) = some (.string ((q0e t319 x7_1).f0)) ∧ w'.cell? ⟨(ad322.add ((x7_1).toNat * 4)).block,(ad322.add ((x7_1).toNat * 4)).off + 1,none⟩ = some (.string ((q0e t319 x7_1).f1)) ∧ w'.cell? ⟨(ad322.add ((x7_1).toNat * 4)).block,(ad322.add ((x7_1).toNat * 4)).off + 2,none⟩ = some (.int .i64 ((q0e t319 x7_1).f2)) ∧ w'.cell? ⟨(ad322.add ((x7_1).toNat * 4)).block,(ad322.add ((x7_1).toNat * 4)).off + 3,none⟩ = some (.int .i64 ((q0e t319 x7_1).f3)) ∧ w'.cell? (ad322.add ((x7_1).toNat * 4)) = some (.string ((q0e t319 x7_1).f0)) ∧ w'.cell? ⟨(ad322.add ((x7_1).toNat * 4)).block,(ad322.add ((x7_1).toNat * 4)).off + 1,none⟩ = some (.string ((q0e t319 x7_1).f1)) ∧ w'.cell? ⟨(ad322.add ((x7_1).toNat * 4)).block,(ad322.add ((x7_1).toNat * 4)).off + 2,none⟩ = some (.int .i64 ((q0e t319 x7_1).f2)) ∧ w'.cell? ⟨(ad322.add ((x7_1).toNat * 4)).block,(ad322.add ((x7_1).toNat * 4)).off + 3,none⟩ = some (.int .i64 ((q0e t319 x7_1).f3))) (ds := []) #[false,false,false,false,false,false,false,false,false,false,false,false,false,false,false,false,false,false] (by kernel_rfl) rfl rfl ⟨hx322_0,hx322_1,hx322_2,hx322_3,hx323_0,hx323_1,hx323_2,hx323_3⟩ (fun hHeld => ?_);refine with_tabW verdererref28_Judge.tab5 verdererref28_Judge.bits5 (fun HT_ HW_ => ?_)
      generalize wr.drew = w50 at HO_6 BK318 HB hx322_0 hx322_1 hx322_2 hx322_3 hx323_0 hx323_1 hx323_2 hx323_3 hHeld ⊢
      refine pure_ (i := 0) (N := some 19) (v := ?_) (a' := ?_) #[true,false,false,false,false,false,false,false,false,false,false,false,false,false,false,false,false,false] rfl rfl (q0r HT_.out (by kernel_rfl)) (fun _ _ _ h => h) (Or.inl ⟨by rfl,?_⟩) ?_ ?_
      rotate_left
      ·intro w'
       go_simp
       with_reducible rfl
      rotate_left
      ·simp only [Act.put,zA,zB,zC,i64_w,i32_w]
       rfl
      refine pure_ (i := 1) (N := some 20) (v := ?_) (a' := ?_) #[true,true,false,false,false,false,false,false,false,false,false,false,false,false,false,false,false,false] rfl rfl (q0r HT_.out (by kernel_rfl)) (fun _ _ _ h => h) (Or.inl ⟨by rfl,?_⟩) ?_ ?_
      rotate_left
      ·intro w'
       go_simp
       with_reducible rfl
      rotate_left
      ·simp only [Act.put,zA,zB,zC,i64_w,i32_w]
       rfl
      refine pure_ (i := 2) (N := some 21) (v := ?_) (a' := ?_) #[true,true,true,false,false,false,false,false,false,false,false,false,false,false,false,false,false,false] rfl rfl (q0r HT_.out (by kernel_rfl)) (fun _ _ _ h => h) (Or.inl ⟨by rfl,?_⟩) ?_ ?_
      rotate_left
      ·intro w'
       go_simp
       with_reducible rfl
      rotate_left
      ·simp only [Act.put,zA,zB,zC,i64_w,i32_w]
       rfl
      refine pure_ (i := 3) (N := some 22) (v := ?_) (a' := ?_) #[true,true,true,true,false,false,false,false,false,false,false,false,false,false,false,false,false,false] rfl rfl (q0r HT_.out (by kernel_rfl)) (fun _ _ _ h => h) (Or.inl ⟨by rfl,?_⟩) ?_ ?_
      rotate_left
      ·intro w'
       go_simp
       with_reducible rfl
      rotate_left
      ·simp only [Act.put,zA,zB,zC,i64_w,i32_w]
       rfl
      refine pure_ (i := 5) (N := some 24) (v := ?_) (a' := ?_) #[true,true,true,true,false,true,false,false,false,false,false,false,false,false,false,false,false,false] rfl rfl (q0r HT_.out (by kernel_rfl)) (fun _ _ _ h => h) (Or.inl ⟨by rfl,?_⟩) ?_ ?_
      rotate_left
      ·intro w'
       go_simp
       with_reducible rfl
      rotate_left
      ·simp only [Act.put,zA,zB,zC,i64_w,i32_w]
       rfl
      refine pure_ (i := 6) (N := some 25) (v := ?_) (a' := ?_) #[true,true,true,true,false,true,true,false,false,false,false,false,false,false,false,false,false,false] rfl rfl (q0r HT_.out (by kernel_rfl)) (fun _ _ _ h => h) (Or.inl ⟨by rfl,?_⟩) ?_ ?_
      rotate_left
      ·intro w'
       go_simp
       with_reducible rfl
      rotate_left
      ·simp only [Act.put,zA,zB,zC,i64_w,i32_w]
       rfl
      refine pure_ (i := 7) (N := some 26) (v := ?_) (a' := ?_) #[true,true,true,true,false,true,true,true,false,false,false,false,false,false,false,false,false,false] rfl rfl (q0r HT_.out (by kernel_rfl)) (fun _ _ _ h => h) (Or.inl ⟨by rfl,?_⟩) ?_ ?_
      rotate_left
      ·intro w'
       go_simp
       with_reducible rfl
      rotate_left
      ·simp only [Act.put,zA,zB,zC,i64_w,i32_w]
       rfl
      refine pure_ (i := 8) (N := some 27) (v := ?_) (a' := ?_) #[true,true,true,true,false,true,true,true,true,false,false,false,false,false,false,false,false,false] rfl rfl (q0r HT_.out (by kernel_rfl)) (fun _ _ _ h => h) (Or.inl ⟨by rfl,?_⟩) ?_ ?_
      rotate_left
      ·intro w'
       go_simp
       with_reducible rfl
      rotate_left
      ·simp only [Act.put,zA,zB,zC,i64_w,i32_w]
       rfl
      refine pure_ (i := 10) (N := some 29) (v := ?_) (a' := ?_) #[true,true,true,true,false,true,true,true,true,false,true,false,false,false,false,false,false,false] rfl rfl (q0r HT_.out (by kernel_rfl)) (fun _ _ _ h => h) (Or.inl ⟨by rfl,?_⟩) ?_ ?_
      rotate_left
      ·intro w'
       go_simp
       with_reducible rfl
      rotate_left
      ·simp only [Act.put,zA,zB,zC,i64_w,i32_w]
       rfl
      refine take_ (i := 4) (N := some 23) (v := ?_) (a' := ?_) #[true,true,true,true,true,true,true,true,true,false,true,false,false,false,false,false,false,false] rfl rfl (take_ofW HT_.out HW_.out (by kernel_rfl)) (fun _ _ _ h => h) (Or.inl ⟨by rfl,?_⟩) hHeld ?_ ?_
      rotate_left
      ·rintro w' ⟨s0,s1,s2,s3,s4,s5,s6,s7⟩
       go_simp
       with_reducible rfl
      rotate_left
      ·simp only [Act.put,zA,zB,zC,i64_w,i32_w]
       rfl
      refine take_ (i := 9) (N := some 28) (v := ?_) (a' := ?_) #[true,true,true,true,true,true,true,true,true,true,true,false,false,false,false,false,false,false] rfl rfl (take_ofW HT_.out HW_.out (by kernel_rfl)) (fun _ _ _ h => h) (Or.inl ⟨by rfl,?_⟩) hHeld ?_ ?_
      rotate_left
      ·rintro w' ⟨s0,s1,s2,s3,s4,s5,s6,s7⟩
       go_simp
       with_reducible rfl
      rotate_left
      ·simp only [Act.put,zA,zB,zC,i64_w,i32_w]
       rfl
      refine join_ (σ := Nat) 2 #[true,true,true,true,true,true,true,true,true,true,true,true,true,true,true,true,false,false] (fun s_ => [(30,.tuple #[.agg #[.string t324,.string t325,.int .i64 t326,.int .i64 t327],.bool false]),(8,.pointer (some ⟨s_,0,none⟩)),(18,.tuple #[.agg #[.string t324,.string t325,.int .i64 t326,.int .i64 t327],.bool false]),(31,.agg #[.string t324,.string t325,.int .i64 t326,.int .i64 t327]),(32,.bool false)]) (fun s_ w' => (w'.cell? (ad322.add ((x7_1).toNat * 4)) = some (.string ((q0e t319 x7_1).f0)) ∧ w'.cell? ⟨(ad322.add ((x7_1).toNat * 4)).block,(ad322.add ((x7_1).toNat * 4)).off + 1,none⟩ = some (.string ((q0e t319 x7_1).f1)) ∧ w'.cell? ⟨(ad322.add ((x7_1).toNat * 4)).block,(ad322.add ((x7_1).toNat * 4)).off + 2,none⟩ = some (.int .i64 ((q0e t319 x7_1).f2)) ∧ w'.cell? ⟨(ad322.add ((x7_1).toNat * 4)).block,(ad322.add ((x7_1).toNat * 4)).off + 3,none⟩ = some (.int .i64 ((q0e t319 x7_1).f3)) ∧ w'.cell? (ad322.add ((x7_1).toNat * 4)) = some (.string ((q0e t319 x7_1).f0)) ∧ w'.cell? ⟨(ad322.add ((x7_1).toNat * 4)).block,(ad322.add ((x7_1).toNat * 4)).off + 1,none⟩ = some (.string ((q0e t319 x7_1).f1)) ∧ w'.cell? ⟨(ad322.add ((x7_1).toNat * 4)).block,(ad322.add ((x7_1).toNat * 4)).off + 2,none⟩ = some (.int .i64 ((q0e t319 x7_1).f2)) ∧ w'.cell? ⟨(ad322.add ((x7_1).toNat * 4)).block,(ad322.add ((x7_1).toNat * 4)).off + 3,none⟩ = some (.int .i64 ((q0e t319 x7_1).f3))) ∧ (Kd.R k45 45 w' w.heap.size (fun k_ => k_ ≠ gb318 ∧ k_ ≠ s_) (.slice (some ad322) t319.length co49) t319) ∧ (w'.heap[gb318]? = some (.cells #[.string x319000_1,.string x319001_1,.int .i64 x319002_1,.int .i64 x319003_1] 45 (0,0))) ∧ (w'.heap[s_]? = some (.cells #[.string (⟨#[]⟩ : ByteArray),.string (⟨#[]⟩ : ByteArray),.int .i64 0,.int .i64 0] 45 (0,0))) ∧ (w.heap.size ≤ s_) ∧ (w.heap.size ≤ s_) ∧ (gb318 ≠ s_) ∧ (s_ ≠ gb318) ∧ (Below w.heap.size w w')) ?_ ?_
      rotate_left
      ·intro hCont
       refine two_ (i := 11) (j := 15) (Ni := some 30) (Nj := some 8) #[true,true,true,true,true,true,true,true,true,true,true,true,false,false,false,false,false,false] #[true,true,true,true,true,true,true,true,true,true,true,false,false,false,false,true,false,false] rfl rfl rfl rfl (two_of HT_.out (by kernel_rfl)) (by decide) (by decide) (fun K hK => ?_) (fun K hK => ?_)
       ·skip
        refine goes_ Try.func53 (by kernel_rfl) rfl #[.string ((q0e t319 x7_1).f0),.string ((q0e t319 x7_1).f1),.slice A0 l0.length c0] (by rfl) rfl rfl (by (try simp only [List.map_toArray,List.map_cons,List.map_nil]);first | done | rfl | (simp only [List.length_drop,List.length_take];rfl)) ?_
        with_reducible refine (verdererref27_Find.calls k1 ((q0e t319 x7_1).f0) ((q0e t319 x7_1).f1) _ _ l0 t324 t325 t326 t327 false _ ?side1 ?side2 A8.out).mono ?_
        (case side1 => repeat (first | exact (Kd.C_below HR0.out HB.out) | (with_reducible refine Kd.C_alloc ?_ _) | (with_reducible refine Kd.C_drewN ?_ _) | (with_reducible refine Kd.C_drew ?_)))
        (case side2 => exact HC0.out)
        rintro e w51 ⟨rfl,hb⟩
        have HS0_ := (hb.cell (World.block_lt_of_cell? _ _ (hHeld.1))).trans (hHeld.1)
        have HS1_ := (hb.cell (World.block_lt_of_cell? _ _ (hHeld.2.1))).trans (hHeld.2.1)
        have HS2_ := (hb.cell (World.block_lt_of_cell? _ _ (hHeld.2.2.1))).trans (hHeld.2.2.1)
        have HS3_ := (hb.cell (World.block_lt_of_cell? _ _ (hHeld.2.2.2.1))).trans (hHeld.2.2.2.1)
        have HS4_ := (hb.cell (World.block_lt_of_cell? _ _ (hHeld.2.2.2.2.1))).trans (hHeld.2.2.2.2.1)
        have HS5_ := (hb.cell (World.block_lt_of_cell? _ _ (hHeld.2.2.2.2.2.1))).trans (hHeld.2.2.2.2.2.1)
        have HS6_ := (hb.cell (World.block_lt_of_cell? _ _ (hHeld.2.2.2.2.2.2.1))).trans (hHeld.2.2.2.2.2.2.1)
        have HS7_ := (hb.cell (World.block_lt_of_cell? _ _ (hHeld.2.2.2.2.2.2.2))).trans (hHeld.2.2.2.2.2.2.2)
        refine ⟨_,rfl,?_⟩
        have n0_ := Aside0.mk (Kd.q0v (by (with_reducible repeat (first | apply Kd.q0m | apply Kd.q0n | apply Kd.q0o));exact HO_6.out) hb)
        have n1_ := Aside0.mk (q0q (g := gb318) (o := .cells #[.string x319000_1,.string x319001_1,.int .i64 x319002_1,.int .i64 x319003_1] 45 (0,0)) (by (with_reducible repeat (first | refine q0b ?_ _ | refine q0c ?_ | refine q0a ?_ _));exact BK318.out) hb)
        have n2_ := Aside0.mk (q0s (by repeat (first | (with_reducible first | exact HB.out | apply q0h | apply q0d | apply q0f | refine q0g ?_ GE318.out) | exact HB.out)) hb)
        clear HO_6
        clear BK318
        clear HB
        have HO_6 := n0_
        have BK318 := n1_
        have HB := n2_
        clear n0_ n1_ n2_
        (try clear hb)
        (try clear hb2)
        (try clear hk)
        (try clear hi)
        refine hK.out _ _ ⟨HS0_,HS1_,HS2_,HS3_,HS4_,HS5_,HS6_,HS7_⟩ (fun hHeld => ?_)
        clear hK K
        refine norm_ (a' := ?_) ?_ ?_
        rotate_left
        ·show Act.put _ (some 30) _ = _
         simp only [Act.put,zA,zB,zC,i64_w,i32_w]
         rfl
        refine pure_ (i := 12) (N := some 18) (v := ?_) (a' := ?_) #[true,true,true,true,true,true,true,true,true,true,true,true,true,false,false,false,false,false] rfl rfl (q0r HT_.out (by kernel_rfl)) (fun _ _ _ h => h) (Or.inl ⟨by rfl,?_⟩) ?_ ?_
        rotate_left
        ·intro w'
         go_simp
         with_reducible rfl
        rotate_left
        ·simp only [Act.put,zA,zB,zC,i64_w,i32_w]
         rfl
        refine pure_ (i := 13) (N := some 31) (v := ?_) (a' := ?_) #[true,true,true,true,true,true,true,true,true,true,true,true,true,true,false,false,false,false] rfl rfl (q0r HT_.out (by kernel_rfl)) (fun _ _ _ h => h) (Or.inl ⟨by rfl,?_⟩) ?_ ?_
        rotate_left
        ·intro w'
         go_simp
         with_reducible rfl
        rotate_left
        ·simp only [Act.put,zA,zB,zC,i64_w,i32_w]
         rfl
        refine pure_ (i := 14) (N := some 32) (v := ?_) (a' := ?_) #[true,true,true,true,true,true,true,true,true,true,true,true,true,true,true,false,false,false] rfl rfl (q0r HT_.out (by kernel_rfl)) (fun _ _ _ h => h) (Or.inl ⟨by rfl,?_⟩) ?_ ?_
        rotate_left
        ·intro w'
         go_simp
         with_reducible rfl
        rotate_left
        ·simp only [Act.put,zA,zB,zC,i64_w,i32_w]
         rfl
        refine one_ (i := 15) (N := some 8) #[true,true,true,true,true,true,true,true,true,true,true,true,true,true,true,true,false,false] rfl rfl (one_of HT_.out (by kernel_rfl)) (by decide) (fun K hK => ?_)
        refine box_step ?hg (N := 8) ?hd (cs := #[.string (⟨#[]⟩ : ByteArray),.string (⟨#[]⟩ : ByteArray),.int .i64 0,.int .i64 0]) (t := 45) ?hr ?_;(case hd => rfl);(case hg => rfl);(case hr => first | (go_simp;done) | (go_simp;rfl))
        intro gb329 hg w52 hbox hb
        have HS0_ := (hb.cell (World.block_lt_of_cell? _ _ (hHeld.1))).trans (hHeld.1)
        have HS1_ := (hb.cell (World.block_lt_of_cell? _ _ (hHeld.2.1))).trans (hHeld.2.1)
        have HS2_ := (hb.cell (World.block_lt_of_cell? _ _ (hHeld.2.2.1))).trans (hHeld.2.2.1)
        have HS3_ := (hb.cell (World.block_lt_of_cell? _ _ (hHeld.2.2.2.1))).trans (hHeld.2.2.2.1)
        have HS4_ := (hb.cell (World.block_lt_of_cell? _ _ (hHeld.2.2.2.2.1))).trans (hHeld.2.2.2.2.1)
        have HS5_ := (hb.cell (World.block_lt_of_cell? _ _ (hHeld.2.2.2.2.2.1))).trans (hHeld.2.2.2.2.2.1)
        have HS6_ := (hb.cell (World.block_lt_of_cell? _ _ (hHeld.2.2.2.2.2.2.1))).trans (hHeld.2.2.2.2.2.2.1)
        have HS7_ := (hb.cell (World.block_lt_of_cell? _ _ (hHeld.2.2.2.2.2.2.2))).trans (hHeld.2.2.2.2.2.2.2)
        have n0_ := Aside0.mk (Kd.q0v (Kd.R_elderB (by (with_reducible repeat (first | apply Kd.q0m | apply Kd.q0n | apply Kd.q0o));exact HO_6.out) gb329 (Nat.le_of_eq hg.symm)) hb)
        have n1_ := Aside0.mk (q0q (g := gb318) (o := .cells #[.string x319000_1,.string x319001_1,.int .i64 x319002_1,.int .i64 x319003_1] 45 (0,0)) (by (with_reducible repeat (first | refine q0b ?_ _ | refine q0c ?_ | refine q0a ?_ _));exact BK318.out) hb)
        have n2_ := Aside0.mk (q0s (by repeat (first | (with_reducible first | exact HB.out | apply q0h | apply q0d | apply q0f | refine q0g ?_ GE318.out) | exact HB.out)) hb)
        have n3_ := Aside0.mk (hbox)
        have n4_ := Aside0.mk ((by rw [hg];exact (q0p (by repeat (first | (with_reducible first | exact HB.out | apply q0h | apply q0d | apply q0f | refine q0g ?_ GE318.out) | exact HB.out))) : w.heap.size ≤ gb329))
        have n5_ := Aside0.mk ((by rw [hg];exact (q0p (by repeat (first | (with_reducible first | exact HB.out | apply q0h | apply q0d | apply q0f | refine q0g ?_ GE318.out) | exact HB.out))) : w.heap.size ≤ gb329))
        have n6_ := Aside0.mk ((by rw [hg];exact Nat.ne_of_lt (q0y (g := gb318) (o := .cells #[.string x319000_1,.string x319001_1,.int .i64 x319002_1,.int .i64 x319003_1] 45 (0,0)) (by (with_reducible repeat (first | refine q0b ?_ _ | refine q0c ?_ | refine q0a ?_ _));exact BK318.out)) : gb318 ≠ gb329))
        have n7_ := Aside0.mk ((by rw [hg];exact Nat.ne_of_gt (q0y (g := gb318) (o := .cells #[.string x319000_1,.string x319001_1,.int .i64 x319002_1,.int .i64 x319003_1] 45 (0,0)) (by (with_reducible repeat (first | refine q0b ?_ _ | refine q0c ?_ | refine q0a ?_ _));exact BK318.out)) : gb329 ≠ gb318))
        clear HO_6
        clear BK318
        clear HB
        have HO_6 := n0_
        have BK318 := n1_
        have HB := n2_
        have BK329 := n3_
        have GW329 := n4_
        have GE329 := n5_
        have NB318_329 := n6_
        have NB329_318 := n7_
        clear n0_ n1_ n2_ n3_ n4_ n5_ n6_ n7_
        clear hb hbox hg
        refine hK.out _ _ ⟨HS0_,HS1_,HS2_,HS3_,HS4_,HS5_,HS6_,HS7_⟩ (fun hHeld => ?_)
        clear hK K
        refine norm_ (a' := ?_) ?_ ?_
        rotate_left
        ·show Act.put _ (some 8) _ = _
         simp only [Act.put,zA,zB,zC,i64_w,i32_w]
         rfl
        exact norm_ (by simp only [putAll,Act.put,zA,zB,zC]) (hCont (gb329) _ ⟨hHeld,(by (with_reducible repeat (first | apply Kd.q0m | apply Kd.q0n | apply Kd.q0o));exact HO_6.out),(by (with_reducible repeat (first | refine q0b ?_ _ | refine q0c ?_ | refine q0a ?_ _));exact BK318.out),(by (with_reducible repeat (first | refine q0b ?_ _ | refine q0c ?_ | refine q0a ?_ _));exact BK329.out),GW329.out,GE329.out,NB318_329.out,NB329_318.out,(by repeat (first | (with_reducible first | exact HB.out | apply q0h | apply q0d | apply q0f | refine q0g ?_ GE318.out | refine q0g ?_ GE329.out) | exact HB.out))⟩)
       ·skip
        refine box_step ?hg (N := 8) ?hd (cs := #[.string (⟨#[]⟩ : ByteArray),.string (⟨#[]⟩ : ByteArray),.int .i64 0,.int .i64 0]) (t := 45) ?hr ?_;(case hd => rfl);(case hg => rfl);(case hr => first | (go_simp;done) | (go_simp;rfl))
        intro gb329 hg w51 hbox hb
        have HS0_ := (hb.cell (World.block_lt_of_cell? _ _ (hHeld.1))).trans (hHeld.1)
        have HS1_ := (hb.cell (World.block_lt_of_cell? _ _ (hHeld.2.1))).trans (hHeld.2.1)
        have HS2_ := (hb.cell (World.block_lt_of_cell? _ _ (hHeld.2.2.1))).trans (hHeld.2.2.1)
        have HS3_ := (hb.cell (World.block_lt_of_cell? _ _ (hHeld.2.2.2.1))).trans (hHeld.2.2.2.1)
        have HS4_ := (hb.cell (World.block_lt_of_cell? _ _ (hHeld.2.2.2.2.1))).trans (hHeld.2.2.2.2.1)
        have HS5_ := (hb.cell (World.block_lt_of_cell? _ _ (hHeld.2.2.2.2.2.1))).trans (hHeld.2.2.2.2.2.1)
        have HS6_ := (hb.cell (World.block_lt_of_cell? _ _ (hHeld.2.2.2.2.2.2.1))).trans (hHeld.2.2.2.2.2.2.1)
        have HS7_ := (hb.cell (World.block_lt_of_cell? _ _ (hHeld.2.2.2.2.2.2.2))).trans (hHeld.2.2.2.2.2.2.2)
        have n0_ := Aside0.mk (Kd.q0v (Kd.R_elderB (by (with_reducible repeat (first | apply Kd.q0m | apply Kd.q0n | apply Kd.q0o));exact HO_6.out) gb329 (Nat.le_of_eq hg.symm)) hb)
        have n1_ := Aside0.mk (q0q (g := gb318) (o := .cells #[.string x319000_1,.string x319001_1,.int .i64 x319002_1,.int .i64 x319003_1] 45 (0,0)) (by (with_reducible repeat (first | refine q0b ?_ _ | refine q0c ?_ | refine q0a ?_ _));exact BK318.out) hb)
        have n2_ := Aside0.mk (q0s (by repeat (first | (with_reducible first | exact HB.out | apply q0h | apply q0d | apply q0f | refine q0g ?_ GE318.out) | exact HB.out)) hb)
        have n3_ := Aside0.mk (hbox)
        have n4_ := Aside0.mk ((by rw [hg];exact (q0p (by repeat (first | (with_reducible first | exact HB.out | apply q0h | apply q0d | apply q0f | refine q0g ?_ GE318.out) | exact HB.out))) : w.heap.size ≤ gb329))
        have n5_ := Aside0.mk ((by rw [hg];exact (q0p (by repeat (first | (with_reducible first | exact HB.out | apply q0h | apply q0d | apply q0f | refine q0g ?_ GE318.out) | exact HB.out))) : w.heap.size ≤ gb329))
        have n6_ := Aside0.mk ((by rw [hg];exact Nat.ne_of_lt (q0y (g := gb318) (o := .cells #[.string x319000_1,.string x319001_1,.int .i64 x319002_1,.int .i64 x319003_1] 45 (0,0)) (by (with_reducible repeat (first | refine q0b ?_ _ | refine q0c ?_ | refine q0a ?_ _));exact BK318.out)) : gb318 ≠ gb329))
        have n7_ := Aside0.mk ((by rw [hg];exact Nat.ne_of_gt (q0y (g := gb318) (o := .cells #[.string x319000_1,.string x319001_1,.int .i64 x319002_1,.int .i64 x319003_1] 45 (0,0)) (by (with_reducible repeat (first | refine q0b ?_ _ | refine q0c ?_ | refine q0a ?_ _));exact BK318.out)) : gb329 ≠ gb318))
        clear HO_6
        clear BK318
        clear HB
        have HO_6 := n0_
        have BK318 := n1_
        have HB := n2_
        have BK329 := n3_
        have GW329 := n4_
        have GE329 := n5_
        have NB318_329 := n6_
        have NB329_318 := n7_
        clear n0_ n1_ n2_ n3_ n4_ n5_ n6_ n7_
        clear hb hbox hg
        refine hK.out _ _ ⟨HS0_,HS1_,HS2_,HS3_,HS4_,HS5_,HS6_,HS7_⟩ (fun hHeld => ?_)
        clear hK K
        refine norm_ (a' := ?_) ?_ ?_
        rotate_left
        ·show Act.put _ (some 8) _ = _
         simp only [Act.put,zA,zB,zC,i64_w,i32_w]
         rfl
        refine one_ (i := 11) (N := some 30) #[true,true,true,true,true,true,true,true,true,true,true,true,false,false,false,true,false,false] rfl rfl (one_of HT_.out (by kernel_rfl)) (by decide) (fun K hK => ?_)
        refine goes_ Try.func53 (by kernel_rfl) rfl #[.string ((q0e t319 x7_1).f0),.string ((q0e t319 x7_1).f1),.slice A0 l0.length c0] (by rfl) rfl rfl (by (try simp only [List.map_toArray,List.map_cons,List.map_nil]);first | done | rfl | (simp only [List.length_drop,List.length_take];rfl)) ?_
        with_reducible refine (verdererref27_Find.calls k1 ((q0e t319 x7_1).f0) ((q0e t319 x7_1).f1) _ _ l0 t324 t325 t326 t327 false _ ?side1 ?side2 A8.out).mono ?_
        (case side1 => repeat (first | exact (Kd.C_below HR0.out HB.out) | (with_reducible refine Kd.C_alloc ?_ _) | (with_reducible refine Kd.C_drewN ?_ _) | (with_reducible refine Kd.C_drew ?_)))
        (case side2 => exact HC0.out)
        rintro e w52 ⟨rfl,hb⟩
        have HS0_ := (hb.cell (World.block_lt_of_cell? _ _ (hHeld.1))).trans (hHeld.1)
        have HS1_ := (hb.cell (World.block_lt_of_cell? _ _ (hHeld.2.1))).trans (hHeld.2.1)
        have HS2_ := (hb.cell (World.block_lt_of_cell? _ _ (hHeld.2.2.1))).trans (hHeld.2.2.1)
        have HS3_ := (hb.cell (World.block_lt_of_cell? _ _ (hHeld.2.2.2.1))).trans (hHeld.2.2.2.1)
        have HS4_ := (hb.cell (World.block_lt_of_cell? _ _ (hHeld.2.2.2.2.1))).trans (hHeld.2.2.2.2.1)
        have HS5_ := (hb.cell (World.block_lt_of_cell? _ _ (hHeld.2.2.2.2.2.1))).trans (hHeld.2.2.2.2.2.1)
        have HS6_ := (hb.cell (World.block_lt_of_cell? _ _ (hHeld.2.2.2.2.2.2.1))).trans (hHeld.2.2.2.2.2.2.1)
        have HS7_ := (hb.cell (World.block_lt_of_cell? _ _ (hHeld.2.2.2.2.2.2.2))).trans (hHeld.2.2.2.2.2.2.2)
        refine ⟨_,rfl,?_⟩
        have n0_ := Aside0.mk (Kd.q0v (by (with_reducible repeat (first | apply Kd.q0m | apply Kd.q0n | apply Kd.q0o));exact HO_6.out) hb)
        have n1_ := Aside0.mk (q0q (g := gb318) (o := .cells #[.string x319000_1,.string x319001_1,.int .i64 x319002_1,.int .i64 x319003_1] 45 (0,0)) (by (with_reducible repeat (first | refine q0b ?_ _ | refine q0c ?_ | refine q0a ?_ _));exact BK318.out) hb)
        have n2_ := Aside0.mk (q0q (g := gb329) (o := .cells #[.string (⟨#[]⟩ : ByteArray),.string (⟨#[]⟩ : ByteArray),.int .i64 0,.int .i64 0] 45 (0,0)) (by (with_reducible repeat (first | refine q0b ?_ _ | refine q0c ?_ | refine q0a ?_ _));exact BK329.out) hb)
        have n3_ := Aside0.mk (q0s (by repeat (first | (with_reducible first | exact HB.out | apply q0h | apply q0d | apply q0f | refine q0g ?_ GE318.out | refine q0g ?_ GE329.out) | exact HB.out)) hb)
        clear HO_6
        clear BK318
        clear BK329
        clear HB
        have HO_6 := n0_
        have BK318 := n1_
        have BK329 := n2_
        have HB := n3_
        clear n0_ n1_ n2_ n3_
        (try clear hb)
        (try clear hb2)
        (try clear hk)
        (try clear hi)
        refine hK.out _ _ ⟨HS0_,HS1_,HS2_,HS3_,HS4_,HS5_,HS6_,HS7_⟩ (fun hHeld => ?_)
        clear hK K
        refine norm_ (a' := ?_) ?_ ?_
        rotate_left
        ·show Act.put _ (some 30) _ = _
         simp only [Act.put,zA,zB,zC,i64_w,i32_w]
         rfl
        refine pure_ (i := 12) (N := some 18) (v := ?_) (a' := ?_) #[true,true,true,true,true,true,true,true,true,true,true,true,true,false,false,true,false,false] rfl rfl (q0r HT_.out (by kernel_rfl)) (fun _ _ _ h => h) (Or.inl ⟨by rfl,?_⟩) ?_ ?_
        rotate_left
        ·intro w'
         go_simp
         with_reducible rfl
        rotate_left
        ·simp only [Act.put,zA,zB,zC,i64_w,i32_w]
         rfl
        refine pure_ (i := 13) (N := some 31) (v := ?_) (a' := ?_) #[true,true,true,true,true,true,true,true,true,true,true,true,true,true,false,true,false,false] rfl rfl (q0r HT_.out (by kernel_rfl)) (fun _ _ _ h => h) (Or.inl ⟨by rfl,?_⟩) ?_ ?_
        rotate_left
        ·intro w'
         go_simp
         with_reducible rfl
        rotate_left
        ·simp only [Act.put,zA,zB,zC,i64_w,i32_w]
         rfl
        refine pure_ (i := 14) (N := some 32) (v := ?_) (a' := ?_) #[true,true,true,true,true,true,true,true,true,true,true,true,true,true,true,true,false,false] rfl rfl (q0r HT_.out (by kernel_rfl)) (fun _ _ _ h => h) (Or.inl ⟨by rfl,?_⟩) ?_ ?_
        rotate_left
        ·intro w'
         go_simp
         with_reducible rfl
        rotate_left
        ·simp only [Act.put,zA,zB,zC,i64_w,i32_w]
         rfl
        exact norm_ (by simp only [putAll,Act.put,zA,zB,zC]) (hCont (gb329) _ ⟨hHeld,(by (with_reducible repeat (first | apply Kd.q0m | apply Kd.q0n | apply Kd.q0o));exact HO_6.out),(by (with_reducible repeat (first | refine q0b ?_ _ | refine q0c ?_ | refine q0a ?_ _));exact BK318.out),(by (with_reducible repeat (first | refine q0b ?_ _ | refine q0c ?_ | refine q0a ?_ _));exact BK329.out),GW329.out,GE329.out,NB318_329.out,NB329_318.out,(by repeat (first | (with_reducible first | exact HB.out | apply q0h | apply q0d | apply q0f | refine q0g ?_ GE318.out | refine q0g ?_ GE329.out) | exact HB.out))⟩)
      rintro gb329 w53 ⟨hS_,h0_,h1_,h2_,h3_,h4_,h5_,h6_,h7_⟩
      have n0_ : Aside0 (Kd.R k45 45 w53 w.heap.size (fun k_ => k_ ≠ gb318 ∧ k_ ≠ gb329) (.slice (some ad322) t319.length co49) t319) := ⟨h0_⟩
      have n1_ : Aside0 (w53.heap[gb318]? = some (.cells #[.string x319000_1,.string x319001_1,.int .i64 x319002_1,.int .i64 x319003_1] 45 (0,0))) := ⟨h1_⟩
      have n2_ : Aside0 (w53.heap[gb329]? = some (.cells #[.string (⟨#[]⟩ : ByteArray),.string (⟨#[]⟩ : ByteArray),.int .i64 0,.int .i64 0] 45 (0,0))) := ⟨h2_⟩
      have n3_ : Aside0 (w.heap.size ≤ gb329) := ⟨h3_⟩
      have n4_ : Aside0 (w.heap.size ≤ gb329) := ⟨h4_⟩
      have n5_ : Aside0 (gb318 ≠ gb329) := ⟨h5_⟩
      have n6_ : Aside0 (gb329 ≠ gb318) := ⟨h6_⟩
      have n7_ : Aside0 (Below w.heap.size w w53) := ⟨h7_⟩
      clear HO_6
      clear BK318
      clear HB
      clear h0_ h1_ h2_ h3_ h4_ h5_ h6_ h7_
      have HO_6 := n0_
      have BK318 := n1_
      have BK329 := n2_
      have GW329 := n3_
      have GE329 := n4_
      have NB318_329 := n5_
      have NB329_318 := n6_
      have HB := n7_
      clear n0_ n1_ n2_ n3_ n4_ n5_ n6_ n7_
      have hHeld : w53.cell? (ad322.add ((x7_1).toNat * 4)) = some (.string ((q0e t319 x7_1).f0)) ∧ w53.cell? ⟨(ad322.add ((x7_1).toNat * 4)).block,(ad322.add ((x7_1).toNat * 4)).off + 1,none⟩ = some (.string ((q0e t319 x7_1).f1)) ∧ w53.cell? ⟨(ad322.add ((x7_1).toNat * 4)).block,(ad322.add ((x7_1).toNat * 4)).off + 2,none⟩ = some (.int .i64 ((q0e t319 x7_1).f2)) ∧ w53.cell? ⟨(ad322.add ((x7_1).toNat * 4)).block,(ad322.add ((x7_1).toNat * 4)).off + 3,none⟩ = some (.int .i64 ((q0e t319 x7_1).f3)) ∧ w53.cell? (ad322.add ((x7_1).toNat * 4)) = some (.string ((q0e t319 x7_1).f0)) ∧ w53.cell? ⟨(ad322.add ((x7_1).toNat * 4)).block,(ad322.add ((x7_1).toNat * 4)).off + 1,none⟩ = some (.string ((q0e t319 x7_1).f1)) ∧ w53.cell? ⟨(ad322.add ((x7_1).toNat * 4)).block,(ad322.add ((x7_1).toNat * 4)).off + 2,none⟩ = some (.int .i64 ((q0e t319 x7_1).f2)) ∧ w53.cell? ⟨(ad322.add ((x7_1).toNat * 4)).block,(ad322.add ((x7_1).toNat * 4)).off + 3,none⟩ = some (.int .i64 ((q0e t319 x7_1).f3)) := hS_
      refine norm_ (a' := ?_) ?_ ?_
      rotate_left
      ·simp only [putAll,Act.put,zA,zB,zC]
       rfl
      refine one_ (i := 16) (N := none) #[true,true,true,true,true,true,true,true,true,true,true,true,true,true,true,true,true,false] rfl rfl (one_of HT_.out (by kernel_rfl)) (by decide) (fun K hK => ?_)
      have hs54 : w53.cell? ⟨gb329,0,none⟩ = some (.string (⟨#[]⟩ : ByteArray)) := (q0i BK329.out 0).trans rfl
      have hfs54 := q0k BK329.out 0
      have hns54_0 := NB318_329.out
      have hms54_0 := NB329_318.out
      have hs55 : w53.cell? ⟨gb329,1,none⟩ = some (.string (⟨#[]⟩ : ByteArray)) := (q0i BK329.out 1).trans rfl
      have hfs55 := q0k BK329.out 1
      have hns55_0 := NB318_329.out
      have hms55_0 := NB329_318.out
      have hs56 : w53.cell? ⟨gb329,2,none⟩ = some (.int .i64 0) := (q0i BK329.out 2).trans rfl
      have hfs56 := q0k BK329.out 2
      have hns56_0 := NB318_329.out
      have hms56_0 := NB329_318.out
      have hs57 : w53.cell? ⟨gb329,3,none⟩ = some (.int .i64 0) := (q0i BK329.out 3).trans rfl
      have hfs57 := q0k BK329.out 3
      have hns57_0 := NB318_329.out
      have hms57_0 := NB329_318.out
      refine skip_ (w1 := ?_) (by rfl) rfl ?_ ?_
      rotate_left
      ·go_simp
       rfl
      refine hK.out _ _ ⟨((cell_far (p := ⟨gb329,_,none⟩) (by first | exact Kd.q0j (Kd.q0l HO_6.out (fun _ hk => hk.2)) | (rw [add_block];exact Kd.q0j (Kd.q0l HO_6.out (fun _ hk => hk.2))) | (show (Addr.add _ _).block ≠ _;rw [add_block];exact Kd.q0j (Kd.q0l HO_6.out (fun _ hk => hk.2))) | (dsimp only;exact Kd.q0j (Kd.q0l HO_6.out (fun _ hk => hk.2)))) _).trans (((cell_far (p := ⟨gb329,_,none⟩) (by first | exact Kd.q0j (Kd.q0l HO_6.out (fun _ hk => hk.2)) | (rw [add_block];exact Kd.q0j (Kd.q0l HO_6.out (fun _ hk => hk.2))) | (show (Addr.add _ _).block ≠ _;rw [add_block];exact Kd.q0j (Kd.q0l HO_6.out (fun _ hk => hk.2))) | (dsimp only;exact Kd.q0j (Kd.q0l HO_6.out (fun _ hk => hk.2)))) _).trans (((cell_far (p := ⟨gb329,_,none⟩) (by first | exact Kd.q0j (Kd.q0l HO_6.out (fun _ hk => hk.2)) | (rw [add_block];exact Kd.q0j (Kd.q0l HO_6.out (fun _ hk => hk.2))) | (show (Addr.add _ _).block ≠ _;rw [add_block];exact Kd.q0j (Kd.q0l HO_6.out (fun _ hk => hk.2))) | (dsimp only;exact Kd.q0j (Kd.q0l HO_6.out (fun _ hk => hk.2)))) _).trans (((cell_far (p := ⟨gb329,_,none⟩) (by first | exact Kd.q0j (Kd.q0l HO_6.out (fun _ hk => hk.2)) | (rw [add_block];exact Kd.q0j (Kd.q0l HO_6.out (fun _ hk => hk.2))) | (show (Addr.add _ _).block ≠ _;rw [add_block];exact Kd.q0j (Kd.q0l HO_6.out (fun _ hk => hk.2))) | (dsimp only;exact Kd.q0j (Kd.q0l HO_6.out (fun _ hk => hk.2)))) _).trans (hHeld.1)))))))),((cell_far (p := ⟨gb329,_,none⟩) (by first | exact Kd.q0j (Kd.q0l HO_6.out (fun _ hk => hk.2)) | (rw [add_block];exact Kd.q0j (Kd.q0l HO_6.out (fun _ hk => hk.2))) | (show (Addr.add _ _).block ≠ _;rw [add_block];exact Kd.q0j (Kd.q0l HO_6.out (fun _ hk => hk.2))) | (dsimp only;exact Kd.q0j (Kd.q0l HO_6.out (fun _ hk => hk.2)))) _).trans (((cell_far (p := ⟨gb329,_,none⟩) (by first | exact Kd.q0j (Kd.q0l HO_6.out (fun _ hk => hk.2)) | (rw [add_block];exact Kd.q0j (Kd.q0l HO_6.out (fun _ hk => hk.2))) | (show (Addr.add _ _).block ≠ _;rw [add_block];exact Kd.q0j (Kd.q0l HO_6.out (fun _ hk => hk.2))) | (dsimp only;exact Kd.q0j (Kd.q0l HO_6.out (fun _ hk => hk.2)))) _).trans (((cell_far (p := ⟨gb329,_,none⟩) (by first | exact Kd.q0j (Kd.q0l HO_6.out (fun _ hk => hk.2)) | (rw [add_block];exact Kd.q0j (Kd.q0l HO_6.out (fun _ hk => hk.2))) | (show (Addr.add _ _).block ≠ _;rw [add_block];exact Kd.q0j (Kd.q0l HO_6.out (fun _ hk => hk.2))) | (dsimp only;exact Kd.q0j (Kd.q0l HO_6.out (fun _ hk => hk.2)))) _).trans (((cell_far (p := ⟨gb329,_,none⟩) (by first | exact Kd.q0j (Kd.q0l HO_6.out (fun _ hk => hk.2)) | (rw [add_block];exact Kd.q0j (Kd.q0l HO_6.out (fun _ hk => hk.2))) | (show (Addr.add _ _).block ≠ _;rw [add_block];exact Kd.q0j (Kd.q0l HO_6.out (fun _ hk => hk.2))) | (dsimp only;exact Kd.q0j (Kd.q0l HO_6.out (fun _ hk => hk.2)))) _).trans (hHeld.2.1)))))))),((cell_far (p := ⟨gb329,_,none⟩) (by first | exact Kd.q0j (Kd.q0l HO_6.out (fun _ hk => hk.2)) | (rw [add_block];exact Kd.q0j (Kd.q0l HO_6.out (fun _ hk => hk.2))) | (show (Addr.add _ _).block ≠ _;rw [add_block];exact Kd.q0j (Kd.q0l HO_6.out (fun _ hk => hk.2))) | (dsimp only;exact Kd.q0j (Kd.q0l HO_6.out (fun _ hk => hk.2)))) _).trans (((cell_far (p := ⟨gb329,_,none⟩) (by first | exact Kd.q0j (Kd.q0l HO_6.out (fun _ hk => hk.2)) | (rw [add_block];exact Kd.q0j (Kd.q0l HO_6.out (fun _ hk => hk.2))) | (show (Addr.add _ _).block ≠ _;rw [add_block];exact Kd.q0j (Kd.q0l HO_6.out (fun _ hk => hk.2))) | (dsimp only;exact Kd.q0j (Kd.q0l HO_6.out (fun _ hk => hk.2)))) _).trans (((cell_far (p := ⟨gb329,_,none⟩) (by first | exact Kd.q0j (Kd.q0l HO_6.out (fun _ hk => hk.2)) | (rw [add_block];exact Kd.q0j (Kd.q0l HO_6.out (fun _ hk => hk.2))) | (show (Addr.add _ _).block ≠ _;rw [add_block];exact Kd.q0j (Kd.q0l HO_6.out (fun _ hk => hk.2))) | (dsimp only;exact Kd.q0j (Kd.q0l HO_6.out (fun _ hk => hk.2)))) _).trans (((cell_far (p := ⟨gb329,_,none⟩) (by first | exact Kd.q0j (Kd.q0l HO_6.out (fun _ hk => hk.2)) | (rw [add_block];exact Kd.q0j (Kd.q0l HO_6.out (fun _ hk => hk.2))) | (show (Addr.add _ _).block ≠ _;rw [add_block];exact Kd.q0j (Kd.q0l HO_6.out (fun _ hk => hk.2))) | (dsimp only;exact Kd.q0j (Kd.q0l HO_6.out (fun _ hk => hk.2)))) _).trans (hHeld.2.2.1)))))))),((cell_far (p := ⟨gb329,_,none⟩) (by first | exact Kd.q0j (Kd.q0l HO_6.out (fun _ hk => hk.2)) | (rw [add_block];exact Kd.q0j (Kd.q0l HO_6.out (fun _ hk => hk.2))) | (show (Addr.add _ _).block ≠ _;rw [add_block];exact Kd.q0j (Kd.q0l HO_6.out (fun _ hk => hk.2))) | (dsimp only;exact Kd.q0j (Kd.q0l HO_6.out (fun _ hk => hk.2)))) _).trans (((cell_far (p := ⟨gb329,_,none⟩) (by first | exact Kd.q0j (Kd.q0l HO_6.out (fun _ hk => hk.2)) | (rw [add_block];exact Kd.q0j (Kd.q0l HO_6.out (fun _ hk => hk.2))) | (show (Addr.add _ _).block ≠ _;rw [add_block];exact Kd.q0j (Kd.q0l HO_6.out (fun _ hk => hk.2))) | (dsimp only;exact Kd.q0j (Kd.q0l HO_6.out (fun _ hk => hk.2)))) _).trans (((cell_far (p := ⟨gb329,_,none⟩) (by first | exact Kd.q0j (Kd.q0l HO_6.out (fun _ hk => hk.2)) | (rw [add_block];exact Kd.q0j (Kd.q0l HO_6.out (fun _ hk => hk.2))) | (show (Addr.add _ _).block ≠ _;rw [add_block];exact Kd.q0j (Kd.q0l HO_6.out (fun _ hk => hk.2))) | (dsimp only;exact Kd.q0j (Kd.q0l HO_6.out (fun _ hk => hk.2)))) _).trans (((cell_far (p := ⟨gb329,_,none⟩) (by first | exact Kd.q0j (Kd.q0l HO_6.out (fun _ hk => hk.2)) | (rw [add_block];exact Kd.q0j (Kd.q0l HO_6.out (fun _ hk => hk.2))) | (show (Addr.add _ _).block ≠ _;rw [add_block];exact Kd.q0j (Kd.q0l HO_6.out (fun _ hk => hk.2))) | (dsimp only;exact Kd.q0j (Kd.q0l HO_6.out (fun _ hk => hk.2)))) _).trans (hHeld.2.2.2.1)))))))),((cell_far (p := ⟨gb329,_,none⟩) (by first | exact Kd.q0j (Kd.q0l HO_6.out (fun _ hk => hk.2)) | (rw [add_block];exact Kd.q0j (Kd.q0l HO_6.out (fun _ hk => hk.2))) | (show (Addr.add _ _).block ≠ _;rw [add_block];exact Kd.q0j (Kd.q0l HO_6.out (fun _ hk => hk.2))) | (dsimp only;exact Kd.q0j (Kd.q0l HO_6.out (fun _ hk => hk.2)))) _).trans (((cell_far (p := ⟨gb329,_,none⟩) (by first | exact Kd.q0j (Kd.q0l HO_6.out (fun _ hk => hk.2)) | (rw [add_block];exact Kd.q0j (Kd.q0l HO_6.out (fun _ hk => hk.2))) | (show (Addr.add _ _).block ≠ _;rw [add_block];exact Kd.q0j (Kd.q0l HO_6.out (fun _ hk => hk.2))) | (dsimp only;exact Kd.q0j (Kd.q0l HO_6.out (fun _ hk => hk.2)))) _).trans (((cell_far (p := ⟨gb329,_,none⟩) (by first | exact Kd.q0j (Kd.q0l HO_6.out (fun _ hk => hk.2)) | (rw [add_block];exact Kd.q0j (Kd.q0l HO_6.out (fun _ hk => hk.2))) | (show (Addr.add _ _).block ≠ _;rw [add_block];exact Kd.q0j (Kd.q0l HO_6.out (fun _ hk => hk.2))) | (dsimp only;exact Kd.q0j (Kd.q0l HO_6.out (fun _ hk => hk.2)))) _).trans (((cell_far (p := ⟨gb329,_,none⟩) (by first | exact Kd.q0j (Kd.q0l HO_6.out (fun _ hk => hk.2)) | (rw [add_block];exact Kd.q0j (Kd.q0l HO_6.out (fun _ hk => hk.2))) | (show (Addr.add _ _).block ≠ _;rw [add_block];exact Kd.q0j (Kd.q0l HO_6.out (fun _ hk => hk.2))) | (dsimp only;exact Kd.q0j (Kd.q0l HO_6.out (fun _ hk => hk.2)))) _).trans (hHeld.2.2.2.2.1)))))))),((cell_far (p := ⟨gb329,_,none⟩) (by first | exact Kd.q0j (Kd.q0l HO_6.out (fun _ hk => hk.2)) | (rw [add_block];exact Kd.q0j (Kd.q0l HO_6.out (fun _ hk => hk.2))) | (show (Addr.add _ _).block ≠ _;rw [add_block];exact Kd.q0j (Kd.q0l HO_6.out (fun _ hk => hk.2))) | (dsimp only;exact Kd.q0j (Kd.q0l HO_6.out (fun _ hk => hk.2)))) _).trans (((cell_far (p := ⟨gb329,_,none⟩) (by first | exact Kd.q0j (Kd.q0l HO_6.out (fun _ hk => hk.2)) | (rw [add_block];exact Kd.q0j (Kd.q0l HO_6.out (fun _ hk => hk.2))) | (show (Addr.add _ _).block ≠ _;rw [add_block];exact Kd.q0j (Kd.q0l HO_6.out (fun _ hk => hk.2))) | (dsimp only;exact Kd.q0j (Kd.q0l HO_6.out (fun _ hk => hk.2)))) _).trans (((cell_far (p := ⟨gb329,_,none⟩) (by first | exact Kd.q0j (Kd.q0l HO_6.out (fun _ hk => hk.2)) | (rw [add_block];exact Kd.q0j (Kd.q0l HO_6.out (fun _ hk => hk.2))) | (show (Addr.add _ _).block ≠ _;rw [add_block];exact Kd.q0j (Kd.q0l HO_6.out (fun _ hk => hk.2))) | (dsimp only;exact Kd.q0j (Kd.q0l HO_6.out (fun _ hk => hk.2)))) _).trans (((cell_far (p := ⟨gb329,_,none⟩) (by first | exact Kd.q0j (Kd.q0l HO_6.out (fun _ hk => hk.2)) | (rw [add_block];exact Kd.q0j (Kd.q0l HO_6.out (fun _ hk => hk.2))) | (show (Addr.add _ _).block ≠ _;rw [add_block];exact Kd.q0j (Kd.q0l HO_6.out (fun _ hk => hk.2))) | (dsimp only;exact Kd.q0j (Kd.q0l HO_6.out (fun _ hk => hk.2)))) _).trans (hHeld.2.2.2.2.2.1)))))))),((cell_far (p := ⟨gb329,_,none⟩) (by first | exact Kd.q0j (Kd.q0l HO_6.out (fun _ hk => hk.2)) | (rw [add_block];exact Kd.q0j (Kd.q0l HO_6.out (fun _ hk => hk.2))) | (show (Addr.add _ _).block ≠ _;rw [add_block];exact Kd.q0j (Kd.q0l HO_6.out (fun _ hk => hk.2))) | (dsimp only;exact Kd.q0j (Kd.q0l HO_6.out (fun _ hk => hk.2)))) _).trans (((cell_far (p := ⟨gb329,_,none⟩) (by first | exact Kd.q0j (Kd.q0l HO_6.out (fun _ hk => hk.2)) | (rw [add_block];exact Kd.q0j (Kd.q0l HO_6.out (fun _ hk => hk.2))) | (show (Addr.add _ _).block ≠ _;rw [add_block];exact Kd.q0j (Kd.q0l HO_6.out (fun _ hk => hk.2))) | (dsimp only;exact Kd.q0j (Kd.q0l HO_6.out (fun _ hk => hk.2)))) _).trans (((cell_far (p := ⟨gb329,_,none⟩) (by first | exact Kd.q0j (Kd.q0l HO_6.out (fun _ hk => hk.2)) | (rw [add_block];exact Kd.q0j (Kd.q0l HO_6.out (fun _ hk => hk.2))) | (show (Addr.add _ _).block ≠ _;rw [add_block];exact Kd.q0j (Kd.q0l HO_6.out (fun _ hk => hk.2))) | (dsimp only;exact Kd.q0j (Kd.q0l HO_6.out (fun _ hk => hk.2)))) _).trans (((cell_far (p := ⟨gb329,_,none⟩) (by first | exact Kd.q0j (Kd.q0l HO_6.out (fun _ hk => hk.2)) | (rw [add_block];exact Kd.q0j (Kd.q0l HO_6.out (fun _ hk => hk.2))) | (show (Addr.add _ _).block ≠ _;rw [add_block];exact Kd.q0j (Kd.q0l HO_6.out (fun _ hk => hk.2))) | (dsimp only;exact Kd.q0j (Kd.q0l HO_6.out (fun _ hk => hk.2)))) _).trans (hHeld.2.2.2.2.2.2.1)))))))),((cell_far (p := ⟨gb329,_,none⟩) (by first | exact Kd.q0j (Kd.q0l HO_6.out (fun _ hk => hk.2)) | (rw [add_block];exact Kd.q0j (Kd.q0l HO_6.out (fun _ hk => hk.2))) | (show (Addr.add _ _).block ≠ _;rw [add_block];exact Kd.q0j (Kd.q0l HO_6.out (fun _ hk => hk.2))) | (dsimp only;exact Kd.q0j (Kd.q0l HO_6.out (fun _ hk => hk.2)))) _).trans (((cell_far (p := ⟨gb329,_,none⟩) (by first | exact Kd.q0j (Kd.q0l HO_6.out (fun _ hk => hk.2)) | (rw [add_block];exact Kd.q0j (Kd.q0l HO_6.out (fun _ hk => hk.2))) | (show (Addr.add _ _).block ≠ _;rw [add_block];exact Kd.q0j (Kd.q0l HO_6.out (fun _ hk => hk.2))) | (dsimp only;exact Kd.q0j (Kd.q0l HO_6.out (fun _ hk => hk.2)))) _).trans (((cell_far (p := ⟨gb329,_,none⟩) (by first | exact Kd.q0j (Kd.q0l HO_6.out (fun _ hk => hk.2)) | (rw [add_block];exact Kd.q0j (Kd.q0l HO_6.out (fun _ hk => hk.2))) | (show (Addr.add _ _).block ≠ _;rw [add_block];exact Kd.q0j (Kd.q0l HO_6.out (fun _ hk => hk.2))) | (dsimp only;exact Kd.q0j (Kd.q0l HO_6.out (fun _ hk => hk.2)))) _).trans (((cell_far (p := ⟨gb329,_,none⟩) (by first | exact Kd.q0j (Kd.q0l HO_6.out (fun _ hk => hk.2)) | (rw [add_block];exact Kd.q0j (Kd.q0l HO_6.out (fun _ hk => hk.2))) | (show (Addr.add _ _).block ≠ _;rw [add_block];exact Kd.q0j (Kd.q0l HO_6.out (fun _ hk => hk.2))) | (dsimp only;exact Kd.q0j (Kd.q0l HO_6.out (fun _ hk => hk.2)))) _).trans (hHeld.2.2.2.2.2.2.2))))))))⟩ (fun hHeld => ?_)
      clear hK K
      refine pure_ (i := 17) (N := some 9) (v := ?_) (a' := ?_) #[true,true,true,true,true,true,true,true,true,true,true,true,true,true,true,true,true,true] rfl rfl (q0r HT_.out (by kernel_rfl)) (fun _ _ _ h => h) (Or.inl ⟨by rfl,?_⟩) ?_ ?_
      rotate_left
      ·intro w'
       go_simp
       with_reducible rfl
      rotate_left
      ·simp only [Act.put,zA,zB,zC,i64_w,i32_w]
       rfl
      refine done_ (done_of HT_.out (by kernel_rfl)) ?_
      try go_wp2
      have n0_ : Aside0 (Kd.R k45 45 ((((w53.setCell ⟨gb329,0,none⟩ (.string t324)).setCell ⟨gb329,1,none⟩ (.string t325)).setCell ⟨gb329,2,none⟩ (.int .i64 t326)).setCell ⟨gb329,3,none⟩ (.int .i64 t327)) w.heap.size (fun k_ => k_ ≠ gb318 ∧ k_ ≠ gb329) (.slice (some ad322) t319.length co49) t319) := ⟨by (with_reducible repeat (first | apply Kd.q0m | apply Kd.q0n | apply Kd.q0o));exact Kd.R_mono (Kd.R_far (p := ⟨gb329,3,none⟩) (Kd.R_far (p := ⟨gb329,2,none⟩) (Kd.R_far (p := ⟨gb329,1,none⟩) (Kd.R_far (p := ⟨gb329,0,none⟩) (Kd.R_mono HO_6.out (fun k_ hk => (⟨hk,hk.2⟩ : _ ∧ k_ ≠ gb329))) (fun _ hk => hk.2) (.string t324)) (fun _ hk => hk.2) (.string t325)) (fun _ hk => hk.2) (.int .i64 t326)) (fun _ hk => hk.2) (.int .i64 t327)) (fun _ hk => ⟨hk.1.1,hk.1.2⟩)⟩
      have n1_ : Aside0 (((((w53.setCell ⟨gb329,0,none⟩ (.string t324)).setCell ⟨gb329,1,none⟩ (.string t325)).setCell ⟨gb329,2,none⟩ (.int .i64 t326)).setCell ⟨gb329,3,none⟩ (.int .i64 t327)).heap[gb318]? = some (.cells #[.string x319000_1,.string x319001_1,.int .i64 x319002_1,.int .i64 x319003_1] 45 (0,0))) := ⟨by (with_reducible repeat (first | refine q0b ?_ _ | refine q0c ?_ | refine q0a ?_ _));refine q0u ?_ NB318_329.out _;(with_reducible repeat (first | refine q0b ?_ _ | refine q0c ?_ | refine q0a ?_ _));refine q0u ?_ NB318_329.out _;(with_reducible repeat (first | refine q0b ?_ _ | refine q0c ?_ | refine q0a ?_ _));refine q0u ?_ NB318_329.out _;(with_reducible repeat (first | refine q0b ?_ _ | refine q0c ?_ | refine q0a ?_ _));refine q0u ?_ NB318_329.out _;(with_reducible repeat (first | refine q0b ?_ _ | refine q0c ?_ | refine q0a ?_ _));exact BK318.out⟩
      have n2_ : Aside0 (((((w53.setCell ⟨gb329,0,none⟩ (.string t324)).setCell ⟨gb329,1,none⟩ (.string t325)).setCell ⟨gb329,2,none⟩ (.int .i64 t326)).setCell ⟨gb329,3,none⟩ (.int .i64 t327)).heap[gb329]? = some (.cells #[.string t324,.string t325,.int .i64 t326,.int .i64 t327] 45 (0,0))) := ⟨by (with_reducible repeat (first | refine q0b ?_ _ | refine q0c ?_ | refine q0a ?_ _));refine q0t (cs := #[.string t324,.string t325,.int .i64 t326,.int .i64 0]) ?_ 3 _ rfl;(with_reducible repeat (first | refine q0b ?_ _ | refine q0c ?_ | refine q0a ?_ _));refine q0t (cs := #[.string t324,.string t325,.int .i64 0,.int .i64 0]) ?_ 2 _ rfl;(with_reducible repeat (first | refine q0b ?_ _ | refine q0c ?_ | refine q0a ?_ _));refine q0t (cs := #[.string t324,.string (⟨#[]⟩ : ByteArray),.int .i64 0,.int .i64 0]) ?_ 1 _ rfl;(with_reducible repeat (first | refine q0b ?_ _ | refine q0c ?_ | refine q0a ?_ _));refine q0t (cs := #[.string (⟨#[]⟩ : ByteArray),.string (⟨#[]⟩ : ByteArray),.int .i64 0,.int .i64 0]) ?_ 0 _ rfl;(with_reducible repeat (first | refine q0b ?_ _ | refine q0c ?_ | refine q0a ?_ _));exact BK329.out⟩
      have n3_ : Aside0 (Below w.heap.size w ((((w53.setCell ⟨gb329,0,none⟩ (.string t324)).setCell ⟨gb329,1,none⟩ (.string t325)).setCell ⟨gb329,2,none⟩ (.int .i64 t326)).setCell ⟨gb329,3,none⟩ (.int .i64 t327))) := ⟨by repeat (first | (with_reducible first | exact HB.out | apply q0h | apply q0d | apply q0f | refine q0g ?_ GE318.out | refine q0g ?_ GE329.out) | exact HB.out)⟩
      (try clear HO_6)
      (try clear BK318)
      (try clear BK329)
      (try clear HB)
      generalize ((((w53.setCell ⟨gb329,0,none⟩ (.string t324)).setCell ⟨gb329,1,none⟩ (.string t325)).setCell ⟨gb329,2,none⟩ (.int .i64 t326)).setCell ⟨gb329,3,none⟩ (.int .i64 t327)) = w58 at n0_ n1_ n2_ n3_ ⊢
      have HO_6 := n0_
      have BK318 := n1_
      have BK329 := n2_
      have HB := n3_
      clear n0_ n1_ n2_ n3_
      have n0_ := Aside0.mk (Kd.q0o HO_6.out)
      have n1_ := Aside0.mk (q0c BK318.out)
      have n2_ := Aside0.mk (q0c BK329.out)
      have n3_ := Aside0.mk (q0f HB.out)
      clear HO_6
      clear BK318
      clear BK329
      clear HB
      have HO_6 := n0_
      have BK318 := n1_
      have BK329 := n2_
      have HB := n3_
      clear n0_ n1_ n2_ n3_
      refine start_ (n := 22) (S := fun w' => True) (ds := []) #[false,false,false,false,false,false,false,false,false,false,false,false,false,false,false,false,false,false,false,false,false,false] (by kernel_rfl) rfl rfl trivial (fun hHeld => ?_);refine with_tabW verdererref28_Judge.tab6 verdererref28_Judge.bits6 (fun HT_ HW_ => ?_)
      generalize w58.drew = w59 at HO_6 BK318 BK329 HB hHeld ⊢
      refine pure_ (i := 0) (N := some 33) (v := ?_) (a' := ?_) #[true,false,false,false,false,false,false,false,false,false,false,false,false,false,false,false,false,false,false,false,false,false] rfl rfl (q0r HT_.out (by kernel_rfl)) (fun _ _ _ h => h) (Or.inl ⟨by rfl,?_⟩) ?_ ?_
      rotate_left
      ·intro w'
       go_simp
       with_reducible rfl
      rotate_left
      ·simp only [Act.put,zA,zB,zC,i64_w,i32_w]
       rfl
      refine pure_ (i := 1) (N := some 34) (v := ?_) (a' := ?_) #[true,true,false,false,false,false,false,false,false,false,false,false,false,false,false,false,false,false,false,false,false,false] rfl rfl (q0r HT_.out (by kernel_rfl)) (fun _ _ _ h => h) (Or.inl ⟨by rfl,?_⟩) ?_ ?_
      rotate_left
      ·intro w'
       go_simp
       with_reducible rfl
      rotate_left
      ·simp only [Act.put,zA,zB,zC,i64_w,i32_w]
       rfl
      refine pure_ (i := 2) (N := some 35) (v := ?_) (a' := ?_) #[true,true,true,false,false,false,false,false,false,false,false,false,false,false,false,false,false,false,false,false,false,false] rfl rfl (q0r HT_.out (by kernel_rfl)) (fun _ _ _ h => h) (Or.inl ⟨by rfl,?_⟩) ?_ ?_
      rotate_left
      ·intro w'
       go_simp
       with_reducible rfl
      rotate_left
      ·simp only [Act.put,zA,zB,zC,i64_w,i32_w]
       rfl
      refine pure_ (i := 3) (N := some 36) (v := undef) (a' := ?_) #[true,true,true,true,false,false,false,false,false,false,false,false,false,false,false,false,false,false,false,false,false,false] rfl rfl (q0r HT_.out (by kernel_rfl)) (fun _ _ _ h => h) (Or.inr ⟨by rfl,rfl⟩) ?_ ?_
      rotate_left
      ·simp only [Act.put,zA,zB,zC,i64_w,i32_w]
       rfl
      refine pure_ (i := 4) (N := some 37) (v := undef) (a' := ?_) #[true,true,true,true,true,false,false,false,false,false,false,false,false,false,false,false,false,false,false,false,false,false] rfl rfl (q0r HT_.out (by kernel_rfl)) (fun _ _ _ h => h) (Or.inr ⟨by rfl,rfl⟩) ?_ ?_
      rotate_left
      ·simp only [Act.put,zA,zB,zC,i64_w,i32_w]
       rfl
      refine pure_ (i := 5) (N := some 38) (v := undef) (a' := ?_) #[true,true,true,true,true,true,false,false,false,false,false,false,false,false,false,false,false,false,false,false,false,false] rfl rfl (q0r HT_.out (by kernel_rfl)) (fun _ _ _ h => h) (Or.inr ⟨by rfl,rfl⟩) ?_ ?_
      rotate_left
      ·simp only [Act.put,zA,zB,zC,i64_w,i32_w]
       rfl
      refine pure_ (i := 6) (N := some 39) (v := undef) (a' := ?_) #[true,true,true,true,true,true,true,false,false,false,false,false,false,false,false,false,false,false,false,false,false,false] rfl rfl (q0r HT_.out (by kernel_rfl)) (fun _ _ _ h => h) (Or.inr ⟨by rfl,rfl⟩) ?_ ?_
      rotate_left
      ·simp only [Act.put,zA,zB,zC,i64_w,i32_w]
       rfl
      refine pure_ (i := 7) (N := some 40) (v := undef) (a' := ?_) #[true,true,true,true,true,true,true,true,false,false,false,false,false,false,false,false,false,false,false,false,false,false] rfl rfl (q0r HT_.out (by kernel_rfl)) (fun _ _ _ h => h) (Or.inr ⟨by rfl,rfl⟩) ?_ ?_
      rotate_left
      ·simp only [Act.put,zA,zB,zC,i64_w,i32_w]
       rfl
      refine pure_ (i := 8) (N := some 41) (v := undef) (a' := ?_) #[true,true,true,true,true,true,true,true,true,false,false,false,false,false,false,false,false,false,false,false,false,false] rfl rfl (q0r HT_.out (by kernel_rfl)) (fun _ _ _ h => h) (Or.inr ⟨by rfl,rfl⟩) ?_ ?_
      rotate_left
      ·simp only [Act.put,zA,zB,zC,i64_w,i32_w]
       rfl
      refine pure_ (i := 9) (N := some 42) (v := undef) (a' := ?_) #[true,true,true,true,true,true,true,true,true,true,false,false,false,false,false,false,false,false,false,false,false,false] rfl rfl (q0r HT_.out (by kernel_rfl)) (fun _ _ _ h => h) (Or.inr ⟨by rfl,rfl⟩) ?_ ?_
      rotate_left
      ·simp only [Act.put,zA,zB,zC,i64_w,i32_w]
       rfl
      refine pure_ (i := 10) (N := some 43) (v := undef) (a' := ?_) #[true,true,true,true,true,true,true,true,true,true,true,false,false,false,false,false,false,false,false,false,false,false] rfl rfl (q0r HT_.out (by kernel_rfl)) (fun _ _ _ h => h) (Or.inr ⟨by rfl,rfl⟩) ?_ ?_
      rotate_left
      ·simp only [Act.put,zA,zB,zC,i64_w,i32_w]
       rfl
      refine pure_ (i := 11) (N := some 44) (v := ?_) (a' := ?_) #[true,true,true,true,true,true,true,true,true,true,true,true,false,false,false,false,false,false,false,false,false,false] rfl rfl (q0r HT_.out (by kernel_rfl)) (fun _ _ _ h => h) (Or.inl ⟨by rfl,?_⟩) ?_ ?_
      rotate_left
      ·intro w'
       go_simp
       with_reducible rfl
      rotate_left
      ·simp only [Act.put,zA,zB,zC,i64_w,i32_w]
       rfl
      refine pure_ (i := 12) (N := some 45) (v := ?_) (a' := ?_) #[true,true,true,true,true,true,true,true,true,true,true,true,true,false,false,false,false,false,false,false,false,false] rfl rfl (q0r HT_.out (by kernel_rfl)) (fun _ _ _ h => h) (Or.inl ⟨by rfl,?_⟩) ?_ ?_
      rotate_left
      ·intro w'
       go_simp
       with_reducible rfl
      rotate_left
      ·simp only [Act.put,zA,zB,zC,i64_w,i32_w]
       rfl
      refine pure_ (i := 13) (N := some 46) (v := undef) (a' := ?_) #[true,true,true,true,true,true,true,true,true,true,true,true,true,true,false,false,false,false,false,false,false,false] rfl rfl (q0r HT_.out (by kernel_rfl)) (fun _ _ _ h => h) (Or.inr ⟨by rfl,rfl⟩) ?_ ?_
      rotate_left
      ·simp only [Act.put,zA,zB,zC,i64_w,i32_w]
       rfl
      refine pure_ (i := 14) (N := some 47) (v := undef) (a' := ?_) #[true,true,true,true,true,true,true,true,true,true,true,true,true,true,true,false,false,false,false,false,false,false] rfl rfl (q0r HT_.out (by kernel_rfl)) (fun _ _ _ h => h) (Or.inr ⟨by rfl,rfl⟩) ?_ ?_
      rotate_left
      ·simp only [Act.put,zA,zB,zC,i64_w,i32_w]
       rfl
      refine pure_ (i := 15) (N := some 48) (v := undef) (a' := ?_) #[true,true,true,true,true,true,true,true,true,true,true,true,true,true,true,true,false,false,false,false,false,false] rfl rfl (q0r HT_.out (by kernel_rfl)) (fun _ _ _ h => h) (Or.inr ⟨by rfl,rfl⟩) ?_ ?_
      rotate_left
      ·simp only [Act.put,zA,zB,zC,i64_w,i32_w]
       rfl
      refine pure_ (i := 16) (N := some 49) (v := undef) (a' := ?_) #[true,true,true,true,true,true,true,true,true,true,true,true,true,true,true,true,true,false,false,false,false,false] rfl rfl (q0r HT_.out (by kernel_rfl)) (fun _ _ _ h => h) (Or.inr ⟨by rfl,rfl⟩) ?_ ?_
      rotate_left
      ·simp only [Act.put,zA,zB,zC,i64_w,i32_w]
       rfl
      refine pure_ (i := 17) (N := some 50) (v := undef) (a' := ?_) #[true,true,true,true,true,true,true,true,true,true,true,true,true,true,true,true,true,true,false,false,false,false] rfl rfl (q0r HT_.out (by kernel_rfl)) (fun _ _ _ h => h) (Or.inr ⟨by rfl,rfl⟩) ?_ ?_
      rotate_left
      ·simp only [Act.put,zA,zB,zC,i64_w,i32_w]
       rfl
      refine pure_ (i := 18) (N := some 51) (v := undef) (a' := ?_) #[true,true,true,true,true,true,true,true,true,true,true,true,true,true,true,true,true,true,true,false,false,false] rfl rfl (q0r HT_.out (by kernel_rfl)) (fun _ _ _ h => h) (Or.inr ⟨by rfl,rfl⟩) ?_ ?_
      rotate_left
      ·simp only [Act.put,zA,zB,zC,i64_w,i32_w]
       rfl
      refine pure_ (i := 19) (N := some 52) (v := undef) (a' := ?_) #[true,true,true,true,true,true,true,true,true,true,true,true,true,true,true,true,true,true,true,true,false,false] rfl rfl (q0r HT_.out (by kernel_rfl)) (fun _ _ _ h => h) (Or.inr ⟨by rfl,rfl⟩) ?_ ?_
      rotate_left
      ·simp only [Act.put,zA,zB,zC,i64_w,i32_w]
       rfl
      refine pure_ (i := 20) (N := some 53) (v := undef) (a' := ?_) #[true,true,true,true,true,true,true,true,true,true,true,true,true,true,true,true,true,true,true,true,true,false] rfl rfl (q0r HT_.out (by kernel_rfl)) (fun _ _ _ h => h) (Or.inr ⟨by rfl,rfl⟩) ?_ ?_
      rotate_left
      ·simp only [Act.put,zA,zB,zC,i64_w,i32_w]
       rfl
      refine pure_ (i := 21) (N := some 54) (v := ?_) (a' := ?_) #[true,true,true,true,true,true,true,true,true,true,true,true,true,true,true,true,true,true,true,true,true,true] rfl rfl (q0r HT_.out (by kernel_rfl)) (fun _ _ _ h => h) (Or.inl ⟨by rfl,?_⟩) ?_ ?_
      rotate_left
      ·intro w'
       go_simp
       with_reducible rfl
      rotate_left
      ·simp only [Act.put,zA,zB,zC,i64_w,i32_w]
       rfl
      refine done_ (done_of HT_.out (by kernel_rfl)) ?_
      have p334 : 0 ≤ (x7_1 : Int) := of_decide_eq_true (by first | (with_reducible assumption) | assumption)
      have q334 : x7_1 < (t319.length : Int) := of_decide_eq_true (by first | (with_reducible assumption) | assumption)
      obtain ⟨ad334,e334,hx334_0,hx334_1,hx334_2,hx334_3⟩ := at_T45 (Kd.q02 HO_6.out).2.2 x7_1 p334 q334
      obtain rfl : ad322 = ad334 := (by injection e334)
      replace p334 := eq_true p334
      replace q334 := eq_true q334
      have hnb60 := NB318_329.out
      have hnc60 := NB329_318.out
      have hcz61_0 : w59.cell? ⟨gb318,0,none⟩ = some (.string x319000_1) := (q0i BK318.out 0).trans rfl
      have hcz61_1 : w59.cell? ⟨gb318,1,none⟩ = some (.string x319001_1) := (q0i BK318.out 1).trans rfl
      have hcz61_2 : w59.cell? ⟨gb318,2,none⟩ = some (.int .i64 x319002_1) := (q0i BK318.out 2).trans rfl
      have hcz61_3 : w59.cell? ⟨gb318,3,none⟩ = some (.int .i64 x319003_1) := (q0i BK318.out 3).trans rfl
      have hfz61_0 := q0k BK318.out 0
      have hfz61_1 := q0k BK318.out 1
      have hfz61_2 := q0k BK318.out 2
      have hfz61_3 := q0k BK318.out 3
      try go_wp2
      refine bodyPost_ret (results_ct rfl _ _ gb318 45 #[.string ((q0e t319 x7_1).f0),.string ((q0e t319 x7_1).f1),.int .i64 ((q0e t319 x7_1).f2),.int .i64 ((q0e t319 x7_1).f3)] (0,0) _ rfl (by (with_reducible repeat (first | refine q0b ?_ _ | refine q0c ?_ | refine q0a ?_ _));refine q0t (cs := #[.string ((q0e t319 x7_1).f0),.string ((q0e t319 x7_1).f1),.int .i64 ((q0e t319 x7_1).f2),.int .i64 x319003_1]) ?_ 3 _ rfl;(with_reducible repeat (first | refine q0b ?_ _ | refine q0c ?_ | refine q0a ?_ _));refine q0t (cs := #[.string ((q0e t319 x7_1).f0),.string ((q0e t319 x7_1).f1),.int .i64 x319002_1,.int .i64 x319003_1]) ?_ 2 _ rfl;(with_reducible repeat (first | refine q0b ?_ _ | refine q0c ?_ | refine q0a ?_ _));refine q0t (cs := #[.string ((q0e t319 x7_1).f0),.string x319001_1,.int .i64 x319002_1,.int .i64 x319003_1]) ?_ 1 _ rfl;(with_reducible repeat (first | refine q0b ?_ _ | refine q0c ?_ | refine q0a ?_ _));refine q0t (cs := #[.string x319000_1,.string x319001_1,.int .i64 x319002_1,.int .i64 x319003_1]) ?_ 0 _ rfl;(with_reducible repeat (first | refine q0b ?_ _ | refine q0c ?_ | refine q0a ?_ _));exact BK318.out) Try.underlying45 rfl (by kernel_rfl)) rfl ?_
      exact ⟨by first | rfl | (simp [q0w,q0x] <;> rfl) | (simp [*,q0w,q0x] <;> rfl),by repeat (first | (with_reducible first | exact HB.out | apply q0h | apply q0d | apply q0f | refine q0g ?_ GE318.out | refine q0g ?_ GE329.out) | exact HB.out)⟩
    ·rw [if_neg c7] at H
     exact absurd H (by simp)
   ·rw [if_neg c6] at H
    have c6b0 : decide (x7_1 < (t319.length : Int)) = false := decide_eq_false c6
    clear c6
    simp only [Option.some.injEq,Prod.mk.injEq] at H
    obtain ⟨rfl,rfl,rfl,rfl,rfl⟩ := H
    obtain ⟨Ao62,co62,eo62⟩ := Kd.R_slice HO_6.out
    subst eo62
    have hcz63_0 : wr.cell? ⟨gb318,0,none⟩ = some (.string x319000_1) := (q0i BK318.out 0).trans rfl
    have hcz63_1 : wr.cell? ⟨gb318,1,none⟩ = some (.string x319001_1) := (q0i BK318.out 1).trans rfl
    have hcz63_2 : wr.cell? ⟨gb318,2,none⟩ = some (.int .i64 x319002_1) := (q0i BK318.out 2).trans rfl
    have hcz63_3 : wr.cell? ⟨gb318,3,none⟩ = some (.int .i64 x319003_1) := (q0i BK318.out 3).trans rfl
    have hfz63_0 := q0k BK318.out 0
    have hfz63_1 := q0k BK318.out 1
    have hfz63_2 := q0k BK318.out 2
    have hfz63_3 := q0k BK318.out 3
    go_wp2
    refine bodyPost_ret (results_ct rfl _ _ gb318 45 #[.string (⟨#[]⟩ : ByteArray),.string (⟨#[]⟩ : ByteArray),.int .i64 0,.int .i64 0] (0,0) _ rfl (by (with_reducible repeat (first | refine q0b ?_ _ | refine q0c ?_ | refine q0a ?_ _));refine q0t (cs := #[.string (⟨#[]⟩ : ByteArray),.string (⟨#[]⟩ : ByteArray),.int .i64 0,.int .i64 x319003_1]) ?_ 3 _ rfl;(with_reducible repeat (first | refine q0b ?_ _ | refine q0c ?_ | refine q0a ?_ _));refine q0t (cs := #[.string (⟨#[]⟩ : ByteArray),.string (⟨#[]⟩ : ByteArray),.int .i64 x319002_1,.int .i64 x319003_1]) ?_ 2 _ rfl;(with_reducible repeat (first | refine q0b ?_ _ | refine q0c ?_ | refine q0a ?_ _));refine q0t (cs := #[.string (⟨#[]⟩ : ByteArray),.string x319001_1,.int .i64 x319002_1,.int .i64 x319003_1]) ?_ 1 _ rfl;(with_reducible repeat (first | refine q0b ?_ _ | refine q0c ?_ | refine q0a ?_ _));refine q0t (cs := #[.string x319000_1,.string x319001_1,.int .i64 x319002_1,.int .i64 x319003_1]) ?_ 0 _ rfl;(with_reducible repeat (first | refine q0b ?_ _ | refine q0c ?_ | refine q0a ?_ _));exact BK318.out) Try.underlying45 rfl (by kernel_rfl)) rfl ?_
    exact ⟨by first | rfl | (simp [q0w,q0x] <;> rfl) | (simp [*,q0w,q0x] <;> rfl),by repeat (first | (with_reducible first | exact HB.out | apply q0h | apply q0d | apply q0f | refine q0g ?_ GE318.out) | exact HB.out)⟩
end Go.Proofs.Ytcenlehfbgnphaa.Z
end
