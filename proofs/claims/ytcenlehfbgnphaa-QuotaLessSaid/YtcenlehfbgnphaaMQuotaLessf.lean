/- Parts of the proof of QuotaLess: what its functions answer. -/
import Derived.Test.YtcenlehfbgnphaaMQuotaLessa
import Derived.Test.YtcenlehfbgnphaaMQuotaLessb
import Derived.Test.YtcenlehfbgnphaaMQuotaLessc
import Derived.Test.YtcenlehfbgnphaaMQuotaLessd
import Derived.Test.YtcenlehfbgnphaaMQuotaLesse
section
namespace Go.Proofs.Ytcenlehfbgnphaa.Z
open Go.RowKit Go.Proofs.YtcenlehfbgnphaaW.PrintWords Go.Proofs.YtcenlehfbgnphaaW.PrintLast Go.Proofs.YtcenlehfbgnphaaW.PrintMore
attribute [local go_sem] max2_int min2_int max_two min_two max_three min_three max_four min_four
set_option linter.unusedVariables false
set_option linter.unusedSimpArgs false
attribute [local go_sem high] eqA45
def verdererref27_Same.l0 : Nat → List (S45) → List (S45) → Int → Option (Bool)
 | 0,_,_,_ => none
 | k + 1,x0,x1,x5 => if x5 < (x0.length : Int) then (if 0 ≤ x5 then (if x5 < (x1.length : Int) then (if (!((((q0e x0 x5).f0).toList) == (((q0e x1 x5).f0).toList)) || (!((((q0e x0 x5).f1).toList) == (((q0e x1 x5).f1).toList)) || (!(((q0e x0 x5).f2) == ((q0e x1 x5).f2)) || (!(((q0e x0 x5).f3) == ((q0e x1 x5).f3)))))) = true then (some false) else (verdererref27_Same.l0 k x0 x1 (wrap64 (x5 + 1)))) else (none)) else (none)) else (some true)
def verdererref27_Same.f (k : Nat) (l0 : List (S45)) (l1 : List (S45)) : Option (Bool) := if (l0.length : Int) = (l1.length : Int) then (verdererref27_Same.l0 k l0 l1 0) else (some false)
theorem verdererref27_Same.mono_l : ∀ k,(∀ y0 y1 y2,LeO (verdererref27_Same.l0 k y0 y1 y2) (verdererref27_Same.l0 (k + 1) y0 y1 y2))
 | 0 => fun _ _ _ r h => by simp [verdererref27_Same.l0] at h
 | k + 1 => by
  have ih0 := verdererref27_Same.mono_l k
  ·intro y0 y1 y2
   unfold verdererref27_Same.l0
   repeat' first
   | (with_reducible exact ih0 _ _ _)
   | (with_reducible exact LeO.refl _)
   | (with_reducible exact LeO.none _)
   | (with_reducible refine LeO.ite ?_ ?_)
   | (with_reducible refine LeO.bind ?_ (fun _ => ?_))
   | exact ih0 _ _ _
   | exact LeO.none _
   | refine LeO.ite ?_ ?_
   | refine LeO.bind ?_ (fun _ => ?_)
theorem verdererref27_Same.mono : ∀ a0 a1 k,LeO (verdererref27_Same.f k a0 a1) (verdererref27_Same.f (k + 1) a0 a1) := by
 intro a0 a1 k
 have ih0 := verdererref27_Same.mono_l k
 unfold verdererref27_Same.f
 repeat' first
   | (with_reducible exact ih0 _ _ _)
   | (with_reducible exact LeO.refl _)
   | (with_reducible exact LeO.none _)
   | (with_reducible refine LeO.ite ?_ ?_)
   | (with_reducible refine LeO.bind ?_ (fun _ => ?_))
   | exact ih0 _ _ _
   | exact LeO.none _
   | refine LeO.ite ?_ ?_
   | refine LeO.bind ?_ (fun _ => ?_)
set_option maxHeartbeats 8000000 in
set_option maxRecDepth 100000 in
theorem verdererref27_Same.calls (k : Nat) (A0 : Option Addr) (c0 : Nat) (l0 : List (S45)) (A1 : Option Addr) (c1 : Nat) (l1 : List (S45)) (r : Bool) (w : World) (hr0 : Kd.C k45 w A0 l0.length l0) (hc0 : l0.length ≤ c0) (hr1 : Kd.C k45 w A1 l1.length l1) (hc1 : l1.length ≤ c1) (h : verdererref27_Same.f k l0 l1 = some r) :
  Calls Try.prog 38 #[.slice A0 l0.length c0,.slice A1 l1.length c1] w fun e w' => e = .returned (.bool r) ∧ Drawn0 w w' := by
 have hu45 := Try.underlying45
 have HR0 := Aside0.mk hr0
 have HC0 := Aside0.mk hc0
 clear hr0 hc0
 have HR1 := Aside0.mk hr1
 have HC1 := Aside0.mk hc1
 clear hr1 hc1
 have H : (if (l0.length : Int) = (l1.length : Int) then (verdererref27_Same.l0 k l0 l1 0) else (some false)) = some r := h
 clear h
 by_cases c3 : (l0.length : Int) = (l1.length : Int)
 ·rw [if_pos c3] at H
  have c3b0 : ((l0.length : Int) == (l1.length : Int)) = true := beq_iff_eq.mpr c3
  have c3b1 : ((l0.length : Int) != (l1.length : Int)) = false := bne_eq_false_iff_eq.mpr c3
  have c3b2 : (l0.length == l1.length) = true := by first | simpa using c3 | (simp at c3 ⊢;omega)
  clear c3
  have H' := Aside0.mk H
  clear H
  go_enter Try.func38,Try.ntmps38
  go_wp2
  repeat (go_quiet (fail);try go_wp2)
  go_loopg [5] k (fun kq v5 w' => ∃ (x5_1 : Int),v5 = .int .i64 x5_1 ∧ Aside0 (verdererref27_Same.l0 kq l0 l1 x5_1 = some r) ∧ Aside0 (kq ≤ k) ∧ Drawn0 w w')
  case atStart => exact ⟨(0),(by first | rfl | (simp;done) | (simp [*];done)),H',⟨Nat.le_refl _⟩,by repeat (first | exact Drawn0.refl _ | apply Drawn0.step)⟩
  case round =>
   clear H'
   try clear c1
   try clear p2
   try clear c3
   try clear c3b0
   try clear c3b1
   try clear c3b2
   obtain ⟨x5_1,rfl,HA,HK1,⟨m1,rfl⟩⟩ := hrel
   cases gk with
   | zero => exact absurd HA.out (by simp [verdererref27_Same.l0])
   | succ k1 =>
    have H := HA.out
    clear HA
    simp only [verdererref27_Same.l0] at H
    by_cases c4 : x5_1 < (l0.length : Int)
    ·rw [if_pos c4] at H
     have c4b0 : decide (x5_1 < (l0.length : Int)) = true := decide_eq_true c4
     clear c4
     by_cases c5 : 0 ≤ x5_1
     ·rw [if_pos c5] at H
      have c5b0 : decide (0 ≤ x5_1) = true := decide_eq_true c5
      clear c5
      by_cases c6 : x5_1 < (l1.length : Int)
      ·rw [if_pos c6] at H
       have c6b0 : decide (x5_1 < (l1.length : Int)) = true := decide_eq_true c6
       clear c6
       by_cases c7 : (!((((q0e l0 x5_1).f0).toList) == (((q0e l1 x5_1).f0).toList)) || (!((((q0e l0 x5_1).f1).toList) == (((q0e l1 x5_1).f1).toList)) || (!(((q0e l0 x5_1).f2) == ((q0e l1 x5_1).f2)) || (!(((q0e l0 x5_1).f3) == ((q0e l1 x5_1).f3)))))) = true
       ·rw [if_pos c7] at H
        have c7b0 : (!((((q0e l0 x5_1).f0).toList) == (((q0e l1 x5_1).f0).toList)) || (!((((q0e l0 x5_1).f1).toList) == (((q0e l1 x5_1).f1).toList)) || (!(((q0e l0 x5_1).f2) == ((q0e l1 x5_1).f2)) || (!(((q0e l0 x5_1).f3) == ((q0e l1 x5_1).f3)))))) = true := c7
        clear c7
        obtain rfl := Option.some.inj H
        have p220 : 0 ≤ (x5_1 : Int) := of_decide_eq_true (by first | (with_reducible assumption) | assumption)
        have q220 : x5_1 < (l0.length : Int) := of_decide_eq_true (by first | (with_reducible assumption) | assumption)
        obtain ⟨ad220,e220,hx220_0,hx220_1,hx220_2,hx220_3⟩ := at_T45 HR0.out x5_1 p220 q220
        cases e220
        replace p220 := eq_true p220
        replace q220 := eq_true q220
        have p221 : 0 ≤ (x5_1 : Int) := of_decide_eq_true (by first | (with_reducible assumption) | assumption)
        have q221 : x5_1 < (l1.length : Int) := of_decide_eq_true (by first | (with_reducible assumption) | assumption)
        obtain ⟨ad221,e221,hx221_0,hx221_1,hx221_2,hx221_3⟩ := at_T45 HR1.out x5_1 p221 q221
        cases e221
        replace p221 := eq_true p221
        replace q221 := eq_true q221
        go_wp2
        repeat (go_quiet (fail);try go_wp2)
        go_ret
        exact ⟨by first | rfl | (simp;done) | (simp [*];done),by repeat (first | exact Drawn0.refl _ | apply Drawn0.step)⟩
       ·rw [if_neg c7] at H
        have c7b0 : (!((((q0e l0 x5_1).f0).toList) == (((q0e l1 x5_1).f0).toList)) || (!((((q0e l0 x5_1).f1).toList) == (((q0e l1 x5_1).f1).toList)) || (!(((q0e l0 x5_1).f2) == ((q0e l1 x5_1).f2)) || (!(((q0e l0 x5_1).f3) == ((q0e l1 x5_1).f3)))))) = false := by simpa using c7
        clear c7
        have H' := Aside0.mk H
        clear H
        have p220 : 0 ≤ (x5_1 : Int) := of_decide_eq_true (by first | (with_reducible assumption) | assumption)
        have q220 : x5_1 < (l0.length : Int) := of_decide_eq_true (by first | (with_reducible assumption) | assumption)
        obtain ⟨ad220,e220,hx220_0,hx220_1,hx220_2,hx220_3⟩ := at_T45 HR0.out x5_1 p220 q220
        cases e220
        replace p220 := eq_true p220
        replace q220 := eq_true q220
        have p221 : 0 ≤ (x5_1 : Int) := of_decide_eq_true (by first | (with_reducible assumption) | assumption)
        have q221 : x5_1 < (l1.length : Int) := of_decide_eq_true (by first | (with_reducible assumption) | assumption)
        obtain ⟨ad221,e221,hx221_0,hx221_1,hx221_2,hx221_3⟩ := at_T45 HR1.out x5_1 p221 q221
        cases e221
        replace p221 := eq_true p221
        replace q221 := eq_true q221
        go_wp2
        repeat (go_quiet (fail);try go_wp2)
        go_roundg k1
        case measure => have := HK1.out;omega
        case rel => exact ⟨(wrap64 (x5_1 + 1)),(by first | rfl | (simp;done) | (simp [*];done)),H',⟨by have := HK1.out;omega⟩,by repeat (first | exact Drawn0.refl _ | apply Drawn0.step)⟩
      ·rw [if_neg c6] at H
       exact absurd H (by simp)
     ·rw [if_neg c5] at H
      exact absurd H (by simp)
    ·rw [if_neg c4] at H
     have c4b0 : decide (x5_1 < (l0.length : Int)) = false := decide_eq_false c4
     clear c4
     obtain rfl := Option.some.inj H
     go_wp2
     repeat (go_quiet (fail);try go_wp2)
     go_ret
     exact ⟨by first | rfl | (simp;done) | (simp [*];done),by repeat (first | exact Drawn0.refl _ | apply Drawn0.step)⟩
 ·rw [if_neg c3] at H
  have c3b0 : ((l0.length : Int) == (l1.length : Int)) = false := beq_eq_false_iff_ne.mpr c3
  have c3b1 : ((l0.length : Int) != (l1.length : Int)) = true := bne_iff_ne.mpr c3
  have c3b2 : (l0.length == l1.length) = false := by first | simpa using c3 | (simp at c3 ⊢;omega)
  obtain rfl := Option.some.inj H
  go_enter Try.func38,Try.ntmps38
  go_wp2
  repeat (go_quiet (fail);try go_wp2)
  go_ret
  exact ⟨by first | rfl | (simp;done) | (simp [*];done),by repeat (first | exact Drawn0.refl _ | apply Drawn0.step)⟩
end Go.Proofs.Ytcenlehfbgnphaa.Z
end
section
namespace Go.Proofs.Ytcenlehfbgnphaa.Z
set_option linter.unusedVariables false
set_option linter.unusedSimpArgs false
open Go.RowKit Go.Proofs.YtcenlehfbgnphaaW.PrintWords Go.Proofs.YtcenlehfbgnphaaW.PrintLast Go.Proofs.YtcenlehfbgnphaaW.PrintMore
theorem wrap_nx {i n : Nat} (h : i < n) (hn : n ≤ 1000000) : wrap64 ((i : Int) + 1) = ((i + 1 : Nat) : Int) := by unfold wrap64;omega
def overB (u : S45) : Bool := decide (u.f2 > u.f3)
theorem over_l0 (l : List S45) (hl : l.length ≤ 1000000) : ∀ m (i : Nat) acc k,i + m = l.length → acc.length ≤ i → m < k → quota_Over.l0 k acc l (l.length : Int) (i : Int) = some (acc ++ (l.drop i).filter overB) := by
 intro m
 induction m with
 | zero =>
  intro i acc k hi ha hk
  obtain ⟨k,rfl⟩ : ∃ m,k = m + 1 := ⟨k - 1,by omega⟩
  simp only [quota_Over.l0]
  rw [if_neg (by omega),List.drop_eq_nil_of_le (by omega)]
  simp
 | succ m ih =>
  intro i acc k hi ha hk
  obtain ⟨k,rfl⟩ : ∃ m,k = m + 1 := ⟨k - 1,by omega⟩
  have h : i < l.length := by omega
  simp only [quota_Over.l0,quota_over.f]
  rw [if_pos (by omega),if_pos (by omega),if_pos (by omega),Option.bind_some,rd_get l i h,wrap_nx h hl,List.drop_eq_getElem_cons h,List.filter_cons]
  by_cases c : l[i].f2 > l[i].f3
  ·rw [if_pos (decide_eq_true c),if_pos (show overB l[i] = true from decide_eq_true c),if_pos (by omega),ih (i + 1) _ k (by omega) (by simp;omega) (by omega)]
   simp
  ·rw [if_neg (by rw [decide_eq_true_eq];exact c),if_neg (show ¬ overB l[i] = true by unfold overB;rw [decide_eq_true_eq];exact c),ih (i + 1) _ k (by omega) (by omega) (by omega)]
theorem over_f (l : List S45) (hl : l.length ≤ 1000000) (k : Nat) (hk : l.length < k) : quota_Over.f k l = some (l.filter overB) := by
 unfold quota_Over.f
 have := over_l0 l hl l.length 0 [] k (by omega) (by simp) hk
 rw [show ((0 : Nat) : Int) = 0 from rfl] at this
 rw [this];simp
theorem rfind_l0 (a0 a1 : ByteArray) (l : List S45) (hl : l.length ≤ 1000000) : ∀ m (i : Nat) k,i + m = l.length → m < k → verdererref27_Find.l0 k a0 a1 l (i : Int) = some (useOf ((l.drop i).find? (hitB a0 a1))) := by
 intro m
 induction m with
 | zero =>
  intro i k hi hk
  obtain ⟨k,rfl⟩ : ∃ m,k = m + 1 := ⟨k - 1,by omega⟩
  simp only [verdererref27_Find.l0]
  rw [if_neg (by omega),List.drop_eq_nil_of_le (by omega)]
  rfl
 | succ m ih =>
  intro i k hi hk
  obtain ⟨k,rfl⟩ : ∃ m,k = m + 1 := ⟨k - 1,by omega⟩
  have h : i < l.length := by omega
  simp only [verdererref27_Find.l0]
  rw [if_pos (by omega),if_pos (by omega),rd_get l i h,wrap_nx h hl,List.drop_eq_getElem_cons h,List.find?_cons]
  by_cases c0 : l[i].f0.toList = a0.toList
  ·by_cases c1 : l[i].f1.toList = a1.toList
   ·rw [if_pos c0,if_pos c1,show hitB a0 a1 l[i] = true by unfold hitB;simp [c0,c1]]
    rfl
   ·rw [if_pos c0,if_neg c1,ih (i + 1) k (by omega) (by omega),show hitB a0 a1 l[i] = false by unfold hitB;simp [c1]]
  ·rw [if_neg c0,ih (i + 1) k (by omega) (by omega),show hitB a0 a1 l[i] = false by unfold hitB;simp [c0]]
theorem rfind_f (a0 a1 : ByteArray) (l : List S45) (hl : l.length ≤ 1000000) (k : Nat) (hk : l.length < k) : verdererref27_Find.f k a0 a1 l = some (useOf (l.find? (hitB a0 a1))) := by
 unfold verdererref27_Find.f
 exact rfind_l0 a0 a1 l hl l.length 0 k (by omega) hk
theorem find_f (a0 a1 : ByteArray) (l : List S45) (hl : l.length ≤ 1000000) : usage_Find.f a0 a1 l = some (useOf (l.find? (hitB a0 a1))) := if_pos hl
def badB (was : List S45) (u : S45) : Bool := !(useOf (was.find? (hitB u.f0 u.f1))).2.2.2.2 || decide ((useOf (was.find? (hitB u.f0 u.f1))).2.2.1 ≤ u.f3) || decide ((useOf (was.find? (hitB u.f0 u.f1))).2.2.1 < u.f2)
def judgeOf (o : Option S45) : ByteArray × ByteArray × Int × Int × Int := match o with
 | some u => (u.f0,u.f1,u.f2,u.f3,16)
 | none => ((⟨#[]⟩ : ByteArray),(⟨#[]⟩ : ByteArray),0,0,0)
theorem judge_l0 (was l : List S45) (hw : was.length ≤ 1000000) (hl : l.length ≤ 1000000) : ∀ m (i : Nat) k,i + m = l.length → m < k → quota_Judge.l0 k was l (l.length : Int) (i : Int) = some (judgeOf ((l.drop i).find? (badB was))) := by
 intro m
 induction m with
 | zero =>
  intro i k hi hk
  obtain ⟨k,rfl⟩ : ∃ m,k = m + 1 := ⟨k - 1,by omega⟩
  simp only [quota_Judge.l0]
  rw [if_neg (by omega),List.drop_eq_nil_of_le (by omega)]
  rfl
 | succ m ih =>
  intro i k hi hk
  obtain ⟨k,rfl⟩ : ∃ m,k = m + 1 := ⟨k - 1,by omega⟩
  have h : i < l.length := by omega
  simp only [quota_Judge.l0]
  rw [if_pos (by omega),if_pos (by omega),if_pos (by omega),rd_get l i h,wrap_nx h hl,List.drop_eq_getElem_cons h,List.find?_cons,find_f _ _ _ hw,Option.bind_some,ih (i + 1) k (by omega) (by omega)]
  generalize hb : badB was l[i] = b
  unfold badB at hb
  generalize useOf (was.find? (hitB l[i].f0 l[i].f1)) = x at *
  by_cases c0 : x.2.2.2.2 = true
  ·rw [if_pos c0]
   by_cases c1 : x.2.2.1 ≤ l[i].f3
   ·rw [if_pos c1,← hb,c0,decide_eq_true c1];rfl
   ·rw [if_neg c1]
    by_cases c2 : x.2.2.1 < l[i].f2
    ·rw [if_pos c2,← hb,c0,decide_eq_true c2];simp [judgeOf]
    ·rw [if_neg c2,← hb,c0,decide_eq_false c1,decide_eq_false c2];rfl
  ·rw [if_neg c0,← hb,show x.2.2.2.2 = false by simpa using c0];rfl
theorem judge_f (was now : List S45) (hw : was.length ≤ 1000000) (hl : now.length ≤ 1000000) (k : Nat) (hk : now.length < k) : quota_Judge.f k was now = some (judgeOf ((now.filter overB).find? (badB was))) := by
 unfold quota_Judge.f
 rw [over_f now hl k hk,Option.bind_some]
 have hf := List.length_filter_le overB now
 exact judge_l0 was (now.filter overB) hw (by omega) (now.filter overB).length 0 k (by omega) (by omega)
end Go.Proofs.Ytcenlehfbgnphaa.Z
end
section
namespace Go.Proofs.Ytcenlehfbgnphaa.Z
open Go.RowKit Go.Proofs.YtcenlehfbgnphaaW.PrintWords Go.Proofs.YtcenlehfbgnphaaW.PrintLast Go.Proofs.YtcenlehfbgnphaaW.PrintMore
attribute [local go_sem] max2_int min2_int max_two min_two max_three min_three max_four min_four
set_option linter.unusedVariables false
set_option linter.unusedSimpArgs false
def verdererref03_Big_at.f (a0_0 : Bool) (l0_1 : List Int) (a1 : Int) : Option (Int) := if a1 < (l0_1.length : Int) then (if 0 ≤ a1 then (some (rd l0_1 a1)) else (none)) else (some 0)
set_option maxHeartbeats 8000000 in
set_option maxRecDepth 100000 in
theorem verdererref03_Big_at.calls (a0_0 : Bool) (A0_1 : Option Addr) (c0_1 : Nat) (l0_1 : List Int) (a1 : Int) (r : Int) (w : World) (hr0_1 : Kd.C (Kd.int .u64) w A0_1 l0_1.length l0_1) (hc0_1 : l0_1.length ≤ c0_1) (h : verdererref03_Big_at.f a0_0 l0_1 a1 = some r) :
  Calls Try.prog 60 #[.agg #[.bool a0_0,.slice A0_1 l0_1.length c0_1],.int .i64 a1] w fun e w' => e = .returned (.int .u64 r) ∧ Below w.heap.size w w' := by
 have hu29 := Try.underlying29
 have HR0_1 := Aside0.mk hr0_1
 have HC0_1 := Aside0.mk hc0_1
 clear hr0_1 hc0_1
 have HB := Aside0.mk (Below.refl w.heap.size w)
 have H : (if a1 < (l0_1.length : Int) then (if 0 ≤ a1 then (some (rd l0_1 a1)) else (none)) else (some 0)) = some r := h
 clear h
 by_cases c3 : a1 < (l0_1.length : Int)
 ·rw [if_pos c3] at H
  have c3b0 : decide (a1 < (l0_1.length : Int)) = true := decide_eq_true c3
  clear c3
  by_cases c4 : 0 ≤ a1
  ·rw [if_pos c4] at H
   have c4b0 : decide (0 ≤ a1) = true := decide_eq_true c4
   clear c4
   obtain rfl := Option.some.inj H
   go_enter Try.func60,Try.ntmps60
   go_wp2_with (first | ((with_reducible refine gate_dst (N := 2) rfl ?_);refine q03 ?hg (N := 2) ?hd (cs := #[.bool a0_0,.slice A0_1 l0_1.length c0_1]) (t := 29) ?hr ?_;(case hd => rfl);(case hg => rfl);(case hr => first | (go_simp;done) | (go_simp;rfl));intro gb103 hg w5 hbox hb;have n0_ := Aside0.mk (q0s (by repeat (first | (with_reducible first | exact HB.out | apply q0h | apply q0d | apply q0f) | exact HB.out)) hb);have n1_ := Aside0.mk (hbox);have n2_ := Aside0.mk ((by rw [hg];exact (q0p (by repeat (first | (with_reducible first | exact HB.out | apply q0h | apply q0d | apply q0f) | exact HB.out))) : w.heap.size ≤ gb103));have n3_ := Aside0.mk ((by rw [hg];exact (q0p (by repeat (first | (with_reducible first | exact HB.out | apply q0h | apply q0d | apply q0f) | exact HB.out))) : w.heap.size ≤ gb103));clear HB;have HB := n0_;have BK103 := n1_;have GW103 := n2_;have GE103 := n3_;clear n0_ n1_ n2_ n3_;clear hb hbox hg;have hcz6_0 : w5.cell? ⟨gb103,0,none⟩ = some (.bool a0_0) := (q0i BK103.out 0).trans rfl;have hcz6_1 : w5.cell? ⟨gb103,1,none⟩ = some (.slice A0_1 l0_1.length c0_1) := (q0i BK103.out 1).trans rfl;have hfz6_0 := q0k BK103.out 0;have hfz6_1 := q0k BK103.out 1;have p104 : 0 ≤ (a1 : Int) := of_decide_eq_true (by first | (with_reducible assumption) | assumption);have q104 : a1 < (l0_1.length : Int) := of_decide_eq_true (by first | (with_reducible assumption) | assumption);obtain ⟨ad104,e104,hx104_0⟩ := Kd.at_int HR0_1.out a1 p104 q104;cases e104;replace hx104_0 := (HB.out.cell (World.block_lt_of_cell? w _ hx104_0)).trans hx104_0;replace p104 := eq_true p104;replace q104 := eq_true q104))
   go_ret
   exact ⟨by first | rfl | (simp [q0w,q0x] <;> rfl) | (simp [*,q0w,q0x] <;> rfl),by repeat (first | (with_reducible first | exact HB.out | apply q0h | apply q0d | apply q0f | refine q0g ?_ GE103.out) | exact HB.out)⟩
  ·rw [if_neg c4] at H
   exact absurd H (by simp)
 ·rw [if_neg c3] at H
  have c3b0 : decide (a1 < (l0_1.length : Int)) = false := decide_eq_false c3
  clear c3
  obtain rfl := Option.some.inj H
  go_enter Try.func60,Try.ntmps60
  go_wp2_with (first | ((with_reducible refine gate_dst (N := 2) rfl ?_);refine q03 ?hg (N := 2) ?hd (cs := #[.bool a0_0,.slice A0_1 l0_1.length c0_1]) (t := 29) ?hr ?_;(case hd => rfl);(case hg => rfl);(case hr => first | (go_simp;done) | (go_simp;rfl));intro gb103 hg w7 hbox hb;have n0_ := Aside0.mk (q0s (by repeat (first | (with_reducible first | exact HB.out | apply q0h | apply q0d | apply q0f) | exact HB.out)) hb);have n1_ := Aside0.mk (hbox);have n2_ := Aside0.mk ((by rw [hg];exact (q0p (by repeat (first | (with_reducible first | exact HB.out | apply q0h | apply q0d | apply q0f) | exact HB.out))) : w.heap.size ≤ gb103));have n3_ := Aside0.mk ((by rw [hg];exact (q0p (by repeat (first | (with_reducible first | exact HB.out | apply q0h | apply q0d | apply q0f) | exact HB.out))) : w.heap.size ≤ gb103));clear HB;have HB := n0_;have BK103 := n1_;have GW103 := n2_;have GE103 := n3_;clear n0_ n1_ n2_ n3_;clear hb hbox hg;have hcz8_0 : w7.cell? ⟨gb103,0,none⟩ = some (.bool a0_0) := (q0i BK103.out 0).trans rfl;have hcz8_1 : w7.cell? ⟨gb103,1,none⟩ = some (.slice A0_1 l0_1.length c0_1) := (q0i BK103.out 1).trans rfl;have hfz8_0 := q0k BK103.out 0;have hfz8_1 := q0k BK103.out 1))
  go_ret
  exact ⟨by first | rfl | (simp [q0w,q0x] <;> rfl) | (simp [*,q0w,q0x] <;> rfl),by repeat (first | (with_reducible first | exact HB.out | apply q0h | apply q0d | apply q0f | refine q0g ?_ GE103.out) | exact HB.out)⟩
end Go.Proofs.Ytcenlehfbgnphaa.Z
end
section
namespace Go.Proofs.Ytcenlehfbgnphaa.Z
open Go.RowKit Go.Proofs.YtcenlehfbgnphaaW.PrintWords Go.Proofs.YtcenlehfbgnphaaW.PrintLast Go.Proofs.YtcenlehfbgnphaaW.PrintMore
attribute [local go_sem] max2_int min2_int max_two min_two max_three min_three max_four min_four
set_option linter.unusedVariables false
set_option linter.unusedSimpArgs false
def verdererref03_less.l0 : Nat → Int → Bool → List Int → Bool → List Int → Option (Bool)
 | 0,_,_,_,_,_ => none
 | k + 1,x5,x106000,x106001,x107000,x107001 => if x5 ≥ 0 then ((verdererref03_Big_at.f x106000 x106001 x5).bind fun t107 => ((verdererref03_Big_at.f x107000 x107001 x5).bind fun t108 => (if t107 = t108 then (verdererref03_less.l0 k (wrap64 (x5 - 1)) x106000 x106001 x107000 x107001) else ((verdererref03_Big_at.f x106000 x106001 x5).bind fun t109 => ((verdererref03_Big_at.f x107000 x107001 x5).bind fun t110 => (some (decide (t109 < t110)))))))) else (some false)
def verdererref03_less.f (k : Nat) (a0_0 : Bool) (l0_1 : List Int) (a1_0 : Bool) (l1_1 : List Int) : Option (Bool) := verdererref03_less.l0 k 19 a0_0 l0_1 a1_0 l1_1
theorem verdererref03_less.mono_l : ∀ k,(∀ y0 y1 y2 y3 y4,LeO (verdererref03_less.l0 k y0 y1 y2 y3 y4) (verdererref03_less.l0 (k + 1) y0 y1 y2 y3 y4))
 | 0 => fun _ _ _ _ _ r h => by simp [verdererref03_less.l0] at h
 | k + 1 => by
  have ih0 := verdererref03_less.mono_l k
  ·intro y0 y1 y2 y3 y4
   unfold verdererref03_less.l0
   repeat' first
   | (with_reducible exact ih0 _ _ _ _ _)
   | (with_reducible exact LeO.refl _)
   | (with_reducible exact LeO.none _)
   | (with_reducible refine LeO.ite ?_ ?_)
   | (with_reducible refine LeO.bind ?_ (fun _ => ?_))
   | exact ih0 _ _ _ _ _
   | exact LeO.none _
   | refine LeO.ite ?_ ?_
   | refine LeO.bind ?_ (fun _ => ?_)
theorem verdererref03_less.mono : ∀ a0 a1 a2 a3 k,LeO (verdererref03_less.f k a0 a1 a2 a3) (verdererref03_less.f (k + 1) a0 a1 a2 a3) := by
 intro a0 a1 a2 a3 k
 have ih0 := verdererref03_less.mono_l k
 unfold verdererref03_less.f
 repeat' first
   | (with_reducible exact ih0 _ _ _ _ _)
   | (with_reducible exact LeO.refl _)
   | (with_reducible exact LeO.none _)
   | (with_reducible refine LeO.ite ?_ ?_)
   | (with_reducible refine LeO.bind ?_ (fun _ => ?_))
   | exact ih0 _ _ _ _ _
   | exact LeO.none _
   | refine LeO.ite ?_ ?_
   | refine LeO.bind ?_ (fun _ => ?_)
def verdererref03_less.T5 : Bool × List (List Nat × List Nat) := (true,[([],[]),([],[]),([0,1],[0,1]),([],[]),([],[]),([3,4,2],[3,4]),([2,5],[2,5]),([6,5,0,1,2,3,4,5,6],[6])])
def verdererref03_less.B5 : List Nat := [0,0,3,0,0,31,63,127]
theorem verdererref03_less.tab5 : rtab .any (opsOf Try.f59 5) = verdererref03_less.T5 := by kernel_rfl
theorem verdererref03_less.bits5 : waitsOk verdererref03_less.T5.2 verdererref03_less.B5 = true := by kernel_rfl
set_option maxHeartbeats 8000000 in
set_option maxRecDepth 100000 in
theorem verdererref03_less.calls (k : Nat) (a0_0 : Bool) (A0_1 : Option Addr) (c0_1 : Nat) (l0_1 : List Int) (a1_0 : Bool) (A1_1 : Option Addr) (c1_1 : Nat) (l1_1 : List Int) (r : Bool) (w : World) (hr0_1 : Kd.C (Kd.int .u64) w A0_1 l0_1.length l0_1) (hc0_1 : l0_1.length ≤ c0_1) (hr1_1 : Kd.C (Kd.int .u64) w A1_1 l1_1.length l1_1) (hc1_1 : l1_1.length ≤ c1_1) (h : verdererref03_less.f k a0_0 l0_1 a1_0 l1_1 = some r) :
  Calls Try.prog 59 #[.agg #[.bool a0_0,.slice A0_1 l0_1.length c0_1],.agg #[.bool a1_0,.slice A1_1 l1_1.length c1_1]] w fun e w' => e = .returned (.bool r) ∧ Below w.heap.size w w' := by
 have hu29 := Try.underlying29
 have HR0_1 := Aside0.mk hr0_1
 have HC0_1 := Aside0.mk hc0_1
 clear hr0_1 hc0_1
 have HR1_1 := Aside0.mk hr1_1
 have HC1_1 := Aside0.mk hc1_1
 clear hr1_1 hc1_1
 have HB := Aside0.mk (Below.refl w.heap.size w)
 have H : (verdererref03_less.l0 k 19 a0_0 l0_1 a1_0 l1_1) = some r := h
 clear h
 have H' := Aside0.mk H
 clear H
 go_enter Try.func59,Try.ntmps59
 go_wp2_with (first | ((with_reducible refine gate_dst (N := 2) rfl ?_);refine q03 ?hg (N := 2) ?hd (cs := #[.bool a0_0,.slice A0_1 l0_1.length c0_1]) (t := 29) ?hr ?_;(case hd => rfl);(case hg => rfl);(case hr => first | (go_simp;done) | (go_simp;rfl));intro gb105 hg w3 hbox hb;have n0_ := Aside0.mk (q0s (by repeat (first | (with_reducible first | exact HB.out | apply q0h | apply q0d | apply q0f) | exact HB.out)) hb);have n1_ := Aside0.mk (hbox);have n2_ := Aside0.mk ((by rw [hg];exact (q0p (by repeat (first | (with_reducible first | exact HB.out | apply q0h | apply q0d | apply q0f) | exact HB.out))) : w.heap.size ≤ gb105));have n3_ := Aside0.mk ((by rw [hg];exact (q0p (by repeat (first | (with_reducible first | exact HB.out | apply q0h | apply q0d | apply q0f) | exact HB.out))) : w.heap.size ≤ gb105));clear HB;have HB := n0_;have BK105 := n1_;have GW105 := n2_;have GE105 := n3_;clear n0_ n1_ n2_ n3_;clear hb hbox hg) | ((with_reducible refine gate_dst (N := 3) rfl ?_);refine q03 ?hg (N := 3) ?hd (cs := #[.bool a1_0,.slice A1_1 l1_1.length c1_1]) (t := 29) ?hr ?_;(case hd => rfl);(case hg => rfl);(case hr => first | (go_simp;done) | (go_simp;rfl));intro gb106 hg w4 hbox hb;have n0_ := Aside0.mk (q0q (g := gb105) (o := .cells #[.bool a0_0,.slice A0_1 l0_1.length c0_1] 29 (0,0)) (by (with_reducible repeat (first | refine q0b ?_ _ | refine q0c ?_ | refine q0a ?_ _));exact BK105.out) hb);have n1_ := Aside0.mk (q0s (by repeat (first | (with_reducible first | exact HB.out | apply q0h | apply q0d | apply q0f | refine q0g ?_ GE105.out) | exact HB.out)) hb);have n2_ := Aside0.mk (hbox);have n3_ := Aside0.mk ((by rw [hg];exact (q0p (by repeat (first | (with_reducible first | exact HB.out | apply q0h | apply q0d | apply q0f | refine q0g ?_ GE105.out) | exact HB.out))) : w.heap.size ≤ gb106));have n4_ := Aside0.mk ((by rw [hg];exact (q0p (by repeat (first | (with_reducible first | exact HB.out | apply q0h | apply q0d | apply q0f | refine q0g ?_ GE105.out) | exact HB.out))) : w.heap.size ≤ gb106));have n5_ := Aside0.mk ((by rw [hg];exact Nat.ne_of_lt (q0y (g := gb105) (o := .cells #[.bool a0_0,.slice A0_1 l0_1.length c0_1] 29 (0,0)) (by (with_reducible repeat (first | refine q0b ?_ _ | refine q0c ?_ | refine q0a ?_ _));exact BK105.out)) : gb105 ≠ gb106));have n6_ := Aside0.mk ((by rw [hg];exact Nat.ne_of_gt (q0y (g := gb105) (o := .cells #[.bool a0_0,.slice A0_1 l0_1.length c0_1] 29 (0,0)) (by (with_reducible repeat (first | refine q0b ?_ _ | refine q0c ?_ | refine q0a ?_ _));exact BK105.out)) : gb106 ≠ gb105));clear BK105;clear HB;have BK105 := n0_;have HB := n1_;have BK106 := n2_;have GW106 := n3_;have GE106 := n4_;have NB105_106 := n5_;have NB106_105 := n6_;clear n0_ n1_ n2_ n3_ n4_ n5_ n6_;clear hb hbox hg))
 go_loopg [5] k (fun kq v5 w' => ∃ (x5_1 : Int),v5 = .int .i64 x5_1 ∧ Aside0 (verdererref03_less.l0 kq x5_1 a0_0 l0_1 a1_0 l1_1 = some r) ∧ Aside0 (kq ≤ k) ∧ Aside0 (w'.heap[gb105]? = some (.cells #[.bool a0_0,(.slice A0_1 l0_1.length c0_1)] 29 (0,0))) ∧ Aside0 (w'.heap[gb106]? = some (.cells #[.bool a1_0,(.slice A1_1 l1_1.length c1_1)] 29 (0,0))) ∧ Aside0 (Below w.heap.size w w'))
 case atStart => exact ⟨(19),(by first | rfl | (simp;done) | (simp [*];done)),H',⟨Nat.le_refl _⟩,⟨by (with_reducible repeat (first | refine q0b ?_ _ | refine q0c ?_ | refine q0a ?_ _));exact BK105.out⟩,⟨by (with_reducible repeat (first | refine q0b ?_ _ | refine q0c ?_ | refine q0a ?_ _));exact BK106.out⟩,⟨by repeat (first | (with_reducible first | exact HB.out | apply q0h | apply q0d | apply q0f | refine q0g ?_ GE105.out | refine q0g ?_ GE106.out) | exact HB.out)⟩⟩
 case round =>
  clear H'
  try clear c1
  try clear p2
  obtain ⟨x5_1,rfl,HA,HK1,BK105,BK106,HB⟩ := hrel
  cases gk with
  | zero => exact absurd HA.out (by simp [verdererref03_less.l0])
  | succ k1 =>
   have H := HA.out
   clear HA
   simp only [verdererref03_less.l0] at H
   by_cases c5 : x5_1 ≥ 0
   ·rw [if_pos c5] at H
    have c5b0 : decide (0 ≤ x5_1) = true := decide_eq_true c5
    clear c5
    replace H := Option.bind_eq_some_iff.mp H
    obtain ⟨t107,A60,H⟩ := H
    replace H : ((verdererref03_Big_at.f a1_0 l1_1 x5_1).bind fun t108 => (if t107 = t108 then (verdererref03_less.l0 k1 (wrap64 (x5_1 - 1)) a0_0 l0_1 a1_0 l1_1) else ((verdererref03_Big_at.f a0_0 l0_1 x5_1).bind fun t109 => ((verdererref03_Big_at.f a1_0 l1_1 x5_1).bind fun t110 => (some (decide (t109 < t110))))))) = some r := H
    have A6 := Aside0.mk A60
    clear A60
    replace H := Option.bind_eq_some_iff.mp H
    obtain ⟨t108,A70,H⟩ := H
    replace H : (if t107 = t108 then (verdererref03_less.l0 k1 (wrap64 (x5_1 - 1)) a0_0 l0_1 a1_0 l1_1) else ((verdererref03_Big_at.f a0_0 l0_1 x5_1).bind fun t109 => ((verdererref03_Big_at.f a1_0 l1_1 x5_1).bind fun t110 => (some (decide (t109 < t110)))))) = some r := H
    have A7 := Aside0.mk A70
    clear A70
    by_cases c8 : t107 = t108
    ·rw [if_pos c8] at H
     have c8b0 : (t107 == t108) = true := beq_iff_eq.mpr c8
     have c8b1 : (t107 != t108) = false := bne_eq_false_iff_eq.mpr c8
     clear c8
     have H' := Aside0.mk H
     clear H
     try go_wp2
     have n0_ := Aside0.mk (q0c BK105.out)
     have n1_ := Aside0.mk (q0c BK106.out)
     have n2_ := Aside0.mk (q0f HB.out)
     clear BK105
     clear BK106
     clear HB
     have BK105 := n0_
     have BK106 := n1_
     have HB := n2_
     clear n0_ n1_ n2_
     refine start_ (n := 7) (S := fun w' => w'.cell? ⟨gb105,0,none⟩ = some (.bool a0_0) ∧ w'.cell? ⟨gb105,1,none⟩ = some (.slice A0_1 l0_1.length c0_1) ∧ w'.cell? ⟨gb106,0,none⟩ = some (.bool a1_0) ∧ w'.cell? ⟨gb106,1,none⟩ = some (.slice A1_1 l1_1.length c1_1)) (ds := []) #[false,false,false,false,false,false,false] (by kernel_rfl) rfl rfl ⟨(q0i BK105.out 0).trans rfl,(q0i BK105.out 1).trans rfl,(q0i BK106.out 0).trans rfl,(q0i BK106.out 1).trans rfl⟩ (fun hHeld => ?_)
     generalize wr.drew = w9 at BK105 BK106 HB hHeld ⊢
     refine pure_ (i := 1) (N := some 11) (v := ?_) (a' := ?_) #[false,true,false,false,false,false,false] rfl rfl (by kernel_rfl) (fun _ _ _ h => h) (Or.inl ⟨by rfl,?_⟩) ?_ ?_
     rotate_left
     ·intro w'
      go_simp
      with_reducible rfl
     rotate_left
     ·simp only [Act.put,zA,zB,zC,i64_w,i32_w]
      rfl
     refine pure_ (i := 4) (N := some 14) (v := ?_) (a' := ?_) #[false,true,false,false,true,false,false] rfl rfl (by kernel_rfl) (fun _ _ _ h => h) (Or.inl ⟨by rfl,?_⟩) ?_ ?_
     rotate_left
     ·intro w'
      go_simp
      with_reducible rfl
     rotate_left
     ·simp only [Act.put,zA,zB,zC,i64_w,i32_w]
      rfl
     refine take_ (i := 0) (N := some 10) (v := ?_) (a' := ?_) #[true,true,false,false,true,false,false] rfl rfl (by kernel_rfl) (fun _ _ _ h => h) (Or.inl ⟨by rfl,?_⟩) hHeld ?_ ?_
     rotate_left
     ·rintro w' ⟨s0,s1,s2,s3⟩
      go_simp
      with_reducible rfl
     rotate_left
     ·simp only [Act.put,zA,zB,zC,i64_w,i32_w]
      rfl
     refine take_ (i := 3) (N := some 13) (v := ?_) (a' := ?_) #[true,true,false,true,true,false,false] rfl rfl (by kernel_rfl) (fun _ _ _ h => h) (Or.inl ⟨by rfl,?_⟩) hHeld ?_ ?_
     rotate_left
     ·rintro w' ⟨s0,s1,s2,s3⟩
      go_simp
      with_reducible rfl
     rotate_left
     ·simp only [Act.put,zA,zB,zC,i64_w,i32_w]
      rfl
     refine one_ (i := 2) (N := some 12) #[true,true,true,true,true,false,false] rfl rfl (by kernel_rfl) (by decide) (fun K hK => ?_)
     refine goes_ Try.func60 (by kernel_rfl) rfl #[.agg #[.bool a0_0,.slice A0_1 l0_1.length c0_1],.int .i64 x5_1] (by rfl) rfl rfl (by (try simp only [List.map_toArray,List.map_cons,List.map_nil]);first | done | rfl | (simp only [List.length_drop,List.length_take];rfl)) ?_
     with_reducible refine (verdererref03_Big_at.calls a0_0 _ _ l0_1 x5_1 t107 _ ?side1 ?side2 A6.out).mono ?_
     (case side1 => repeat (first | exact (Kd.C_below HR0_1.out HB.out) | (with_reducible refine Kd.C_alloc ?_ _) | (with_reducible refine Kd.C_drewN ?_ _) | (with_reducible refine Kd.C_drew ?_)))
     (case side2 => exact HC0_1.out)
     rintro e w10 ⟨rfl,hb⟩
     refine ⟨_,rfl,?_⟩
     have n0_ := Aside0.mk (q0q (g := gb105) (o := .cells #[.bool a0_0,.slice A0_1 l0_1.length c0_1] 29 (0,0)) (by (with_reducible repeat (first | refine q0b ?_ _ | refine q0c ?_ | refine q0a ?_ _));exact BK105.out) hb)
     have n1_ := Aside0.mk (q0q (g := gb106) (o := .cells #[.bool a1_0,.slice A1_1 l1_1.length c1_1] 29 (0,0)) (by (with_reducible repeat (first | refine q0b ?_ _ | refine q0c ?_ | refine q0a ?_ _));exact BK106.out) hb)
     have n2_ := Aside0.mk (q0s (by repeat (first | (with_reducible first | exact HB.out | apply q0h | apply q0d | apply q0f | refine q0g ?_ GE105.out | refine q0g ?_ GE106.out) | exact HB.out)) hb)
     clear BK105
     clear BK106
     clear HB
     have BK105 := n0_
     have BK106 := n1_
     have HB := n2_
     clear n0_ n1_ n2_
     (try clear hb)
     (try clear hb2)
     (try clear hk)
     (try clear hi)
     refine hK.out _ _ ⟨(q0i BK105.out 0).trans rfl,(q0i BK105.out 1).trans rfl,(q0i BK106.out 0).trans rfl,(q0i BK106.out 1).trans rfl⟩ (fun hHeld => ?_)
     clear hK K
     refine norm_ (a' := ?_) ?_ ?_
     rotate_left
     ·show Act.put _ (some 12) _ = _
      simp only [Act.put,zA,zB,zC,i64_w,i32_w]
      rfl
     refine one_ (i := 5) (N := some 15) #[true,true,true,true,true,true,false] rfl rfl (by kernel_rfl) (by decide) (fun K hK => ?_)
     refine goes_ Try.func60 (by kernel_rfl) rfl #[.agg #[.bool a1_0,.slice A1_1 l1_1.length c1_1],.int .i64 x5_1] (by rfl) rfl rfl (by (try simp only [List.map_toArray,List.map_cons,List.map_nil]);first | done | rfl | (simp only [List.length_drop,List.length_take];rfl)) ?_
     with_reducible refine (verdererref03_Big_at.calls a1_0 _ _ l1_1 x5_1 t108 _ ?side1 ?side2 A7.out).mono ?_
     (case side1 => repeat (first | exact (Kd.C_below HR1_1.out HB.out) | (with_reducible refine Kd.C_alloc ?_ _) | (with_reducible refine Kd.C_drewN ?_ _) | (with_reducible refine Kd.C_drew ?_)))
     (case side2 => exact HC1_1.out)
     rintro e w11 ⟨rfl,hb⟩
     refine ⟨_,rfl,?_⟩
     have n0_ := Aside0.mk (q0q (g := gb105) (o := .cells #[.bool a0_0,.slice A0_1 l0_1.length c0_1] 29 (0,0)) (by (with_reducible repeat (first | refine q0b ?_ _ | refine q0c ?_ | refine q0a ?_ _));exact BK105.out) hb)
     have n1_ := Aside0.mk (q0q (g := gb106) (o := .cells #[.bool a1_0,.slice A1_1 l1_1.length c1_1] 29 (0,0)) (by (with_reducible repeat (first | refine q0b ?_ _ | refine q0c ?_ | refine q0a ?_ _));exact BK106.out) hb)
     have n2_ := Aside0.mk (q0s (by repeat (first | (with_reducible first | exact HB.out | apply q0h | apply q0d | apply q0f | refine q0g ?_ GE105.out | refine q0g ?_ GE106.out) | exact HB.out)) hb)
     clear BK105
     clear BK106
     clear HB
     have BK105 := n0_
     have BK106 := n1_
     have HB := n2_
     clear n0_ n1_ n2_
     (try clear hb)
     (try clear hb2)
     (try clear hk)
     (try clear hi)
     refine hK.out _ _ ⟨(q0i BK105.out 0).trans rfl,(q0i BK105.out 1).trans rfl,(q0i BK106.out 0).trans rfl,(q0i BK106.out 1).trans rfl⟩ (fun hHeld => ?_)
     clear hK K
     refine norm_ (a' := ?_) ?_ ?_
     rotate_left
     ·show Act.put _ (some 15) _ = _
      simp only [Act.put,zA,zB,zC,i64_w,i32_w]
      rfl
     refine pure_ (i := 6) (N := some 16) (v := ?_) (a' := ?_) #[true,true,true,true,true,true,true] rfl rfl (by kernel_rfl) (fun _ _ _ h => h) (Or.inl ⟨by rfl,?_⟩) ?_ ?_
     rotate_left
     ·intro w'
      go_simp
      with_reducible rfl
     rotate_left
     ·simp only [Act.put,zA,zB,zC,i64_w,i32_w]
      rfl
     refine done_ (by kernel_rfl) ?_
     try go_wp2
     go_roundg k1
     case measure => have := HK1.out;omega
     case rel => exact ⟨(wrap64 (x5_1 - 1)),(by first | rfl | (simp;done) | (simp [*];done)),H',⟨by have := HK1.out;omega⟩,⟨by (with_reducible repeat (first | refine q0b ?_ _ | refine q0c ?_ | refine q0a ?_ _));exact BK105.out⟩,⟨by (with_reducible repeat (first | refine q0b ?_ _ | refine q0c ?_ | refine q0a ?_ _));exact BK106.out⟩,⟨by repeat (first | (with_reducible first | exact HB.out | apply q0h | apply q0d | apply q0f | refine q0g ?_ GE105.out | refine q0g ?_ GE106.out) | exact HB.out)⟩⟩
    ·rw [if_neg c8] at H
     have c8b0 : (t107 == t108) = false := beq_eq_false_iff_ne.mpr c8
     have c8b1 : (t107 != t108) = true := bne_iff_ne.mpr c8
     replace H := Option.bind_eq_some_iff.mp H
     obtain ⟨t109,A120,H⟩ := H
     replace H : ((verdererref03_Big_at.f a1_0 l1_1 x5_1).bind fun t110 => (some (decide (t109 < t110)))) = some r := H
     have A12 := Aside0.mk A120
     clear A120
     replace H := Option.bind_eq_some_iff.mp H
     obtain ⟨t110,A130,H⟩ := H
     replace H : (some (decide (t109 < t110))) = some r := H
     have A13 := Aside0.mk A130
     clear A130
     obtain rfl := Option.some.inj H
     try go_wp2
     have n0_ := Aside0.mk (q0c BK105.out)
     have n1_ := Aside0.mk (q0c BK106.out)
     have n2_ := Aside0.mk (q0f HB.out)
     clear BK105
     clear BK106
     clear HB
     have BK105 := n0_
     have BK106 := n1_
     have HB := n2_
     clear n0_ n1_ n2_
     refine start_ (n := 7) (S := fun w' => w'.cell? ⟨gb105,0,none⟩ = some (.bool a0_0) ∧ w'.cell? ⟨gb105,1,none⟩ = some (.slice A0_1 l0_1.length c0_1) ∧ w'.cell? ⟨gb106,0,none⟩ = some (.bool a1_0) ∧ w'.cell? ⟨gb106,1,none⟩ = some (.slice A1_1 l1_1.length c1_1)) (ds := []) #[false,false,false,false,false,false,false] (by kernel_rfl) rfl rfl ⟨(q0i BK105.out 0).trans rfl,(q0i BK105.out 1).trans rfl,(q0i BK106.out 0).trans rfl,(q0i BK106.out 1).trans rfl⟩ (fun hHeld => ?_)
     generalize wr.drew = w14 at BK105 BK106 HB hHeld ⊢
     refine pure_ (i := 1) (N := some 11) (v := ?_) (a' := ?_) #[false,true,false,false,false,false,false] rfl rfl (by kernel_rfl) (fun _ _ _ h => h) (Or.inl ⟨by rfl,?_⟩) ?_ ?_
     rotate_left
     ·intro w'
      go_simp
      with_reducible rfl
     rotate_left
     ·simp only [Act.put,zA,zB,zC,i64_w,i32_w]
      rfl
     refine pure_ (i := 4) (N := some 14) (v := ?_) (a' := ?_) #[false,true,false,false,true,false,false] rfl rfl (by kernel_rfl) (fun _ _ _ h => h) (Or.inl ⟨by rfl,?_⟩) ?_ ?_
     rotate_left
     ·intro w'
      go_simp
      with_reducible rfl
     rotate_left
     ·simp only [Act.put,zA,zB,zC,i64_w,i32_w]
      rfl
     refine take_ (i := 0) (N := some 10) (v := ?_) (a' := ?_) #[true,true,false,false,true,false,false] rfl rfl (by kernel_rfl) (fun _ _ _ h => h) (Or.inl ⟨by rfl,?_⟩) hHeld ?_ ?_
     rotate_left
     ·rintro w' ⟨s0,s1,s2,s3⟩
      go_simp
      with_reducible rfl
     rotate_left
     ·simp only [Act.put,zA,zB,zC,i64_w,i32_w]
      rfl
     refine take_ (i := 3) (N := some 13) (v := ?_) (a' := ?_) #[true,true,false,true,true,false,false] rfl rfl (by kernel_rfl) (fun _ _ _ h => h) (Or.inl ⟨by rfl,?_⟩) hHeld ?_ ?_
     rotate_left
     ·rintro w' ⟨s0,s1,s2,s3⟩
      go_simp
      with_reducible rfl
     rotate_left
     ·simp only [Act.put,zA,zB,zC,i64_w,i32_w]
      rfl
     refine one_ (i := 2) (N := some 12) #[true,true,true,true,true,false,false] rfl rfl (by kernel_rfl) (by decide) (fun K hK => ?_)
     refine goes_ Try.func60 (by kernel_rfl) rfl #[.agg #[.bool a0_0,.slice A0_1 l0_1.length c0_1],.int .i64 x5_1] (by rfl) rfl rfl (by (try simp only [List.map_toArray,List.map_cons,List.map_nil]);first | done | rfl | (simp only [List.length_drop,List.length_take];rfl)) ?_
     with_reducible refine (verdererref03_Big_at.calls a0_0 _ _ l0_1 x5_1 t107 _ ?side1 ?side2 A6.out).mono ?_
     (case side1 => repeat (first | exact (Kd.C_below HR0_1.out HB.out) | (with_reducible refine Kd.C_alloc ?_ _) | (with_reducible refine Kd.C_drewN ?_ _) | (with_reducible refine Kd.C_drew ?_)))
     (case side2 => exact HC0_1.out)
     rintro e w15 ⟨rfl,hb⟩
     refine ⟨_,rfl,?_⟩
     have n0_ := Aside0.mk (q0q (g := gb105) (o := .cells #[.bool a0_0,.slice A0_1 l0_1.length c0_1] 29 (0,0)) (by (with_reducible repeat (first | refine q0b ?_ _ | refine q0c ?_ | refine q0a ?_ _));exact BK105.out) hb)
     have n1_ := Aside0.mk (q0q (g := gb106) (o := .cells #[.bool a1_0,.slice A1_1 l1_1.length c1_1] 29 (0,0)) (by (with_reducible repeat (first | refine q0b ?_ _ | refine q0c ?_ | refine q0a ?_ _));exact BK106.out) hb)
     have n2_ := Aside0.mk (q0s (by repeat (first | (with_reducible first | exact HB.out | apply q0h | apply q0d | apply q0f | refine q0g ?_ GE105.out | refine q0g ?_ GE106.out) | exact HB.out)) hb)
     clear BK105
     clear BK106
     clear HB
     have BK105 := n0_
     have BK106 := n1_
     have HB := n2_
     clear n0_ n1_ n2_
     (try clear hb)
     (try clear hb2)
     (try clear hk)
     (try clear hi)
     refine hK.out _ _ ⟨(q0i BK105.out 0).trans rfl,(q0i BK105.out 1).trans rfl,(q0i BK106.out 0).trans rfl,(q0i BK106.out 1).trans rfl⟩ (fun hHeld => ?_)
     clear hK K
     refine norm_ (a' := ?_) ?_ ?_
     rotate_left
     ·show Act.put _ (some 12) _ = _
      simp only [Act.put,zA,zB,zC,i64_w,i32_w]
      rfl
     refine one_ (i := 5) (N := some 15) #[true,true,true,true,true,true,false] rfl rfl (by kernel_rfl) (by decide) (fun K hK => ?_)
     refine goes_ Try.func60 (by kernel_rfl) rfl #[.agg #[.bool a1_0,.slice A1_1 l1_1.length c1_1],.int .i64 x5_1] (by rfl) rfl rfl (by (try simp only [List.map_toArray,List.map_cons,List.map_nil]);first | done | rfl | (simp only [List.length_drop,List.length_take];rfl)) ?_
     with_reducible refine (verdererref03_Big_at.calls a1_0 _ _ l1_1 x5_1 t108 _ ?side1 ?side2 A7.out).mono ?_
     (case side1 => repeat (first | exact (Kd.C_below HR1_1.out HB.out) | (with_reducible refine Kd.C_alloc ?_ _) | (with_reducible refine Kd.C_drewN ?_ _) | (with_reducible refine Kd.C_drew ?_)))
     (case side2 => exact HC1_1.out)
     rintro e w16 ⟨rfl,hb⟩
     refine ⟨_,rfl,?_⟩
     have n0_ := Aside0.mk (q0q (g := gb105) (o := .cells #[.bool a0_0,.slice A0_1 l0_1.length c0_1] 29 (0,0)) (by (with_reducible repeat (first | refine q0b ?_ _ | refine q0c ?_ | refine q0a ?_ _));exact BK105.out) hb)
     have n1_ := Aside0.mk (q0q (g := gb106) (o := .cells #[.bool a1_0,.slice A1_1 l1_1.length c1_1] 29 (0,0)) (by (with_reducible repeat (first | refine q0b ?_ _ | refine q0c ?_ | refine q0a ?_ _));exact BK106.out) hb)
     have n2_ := Aside0.mk (q0s (by repeat (first | (with_reducible first | exact HB.out | apply q0h | apply q0d | apply q0f | refine q0g ?_ GE105.out | refine q0g ?_ GE106.out) | exact HB.out)) hb)
     clear BK105
     clear BK106
     clear HB
     have BK105 := n0_
     have BK106 := n1_
     have HB := n2_
     clear n0_ n1_ n2_
     (try clear hb)
     (try clear hb2)
     (try clear hk)
     (try clear hi)
     refine hK.out _ _ ⟨(q0i BK105.out 0).trans rfl,(q0i BK105.out 1).trans rfl,(q0i BK106.out 0).trans rfl,(q0i BK106.out 1).trans rfl⟩ (fun hHeld => ?_)
     clear hK K
     refine norm_ (a' := ?_) ?_ ?_
     rotate_left
     ·show Act.put _ (some 15) _ = _
      simp only [Act.put,zA,zB,zC,i64_w,i32_w]
      rfl
     refine pure_ (i := 6) (N := some 16) (v := ?_) (a' := ?_) #[true,true,true,true,true,true,true] rfl rfl (by kernel_rfl) (fun _ _ _ h => h) (Or.inl ⟨by rfl,?_⟩) ?_ ?_
     rotate_left
     ·intro w'
      go_simp
      with_reducible rfl
     rotate_left
     ·simp only [Act.put,zA,zB,zC,i64_w,i32_w]
      rfl
     refine done_ (by kernel_rfl) ?_
     try go_wp2
     have n0_ := Aside0.mk (q0c BK105.out)
     have n1_ := Aside0.mk (q0c BK106.out)
     have n2_ := Aside0.mk (q0f HB.out)
     clear BK105
     clear BK106
     clear HB
     have BK105 := n0_
     have BK106 := n1_
     have HB := n2_
     clear n0_ n1_ n2_
     refine start_ (n := 8) (S := fun w' => w'.cell? ⟨gb105,0,none⟩ = some (.bool a0_0) ∧ w'.cell? ⟨gb105,1,none⟩ = some (.slice A0_1 l0_1.length c0_1) ∧ w'.cell? ⟨gb106,0,none⟩ = some (.bool a1_0) ∧ w'.cell? ⟨gb106,1,none⟩ = some (.slice A1_1 l1_1.length c1_1)) (ds := []) #[false,false,false,false,false,false,false,false] (by kernel_rfl) rfl rfl ⟨(q0i BK105.out 0).trans rfl,(q0i BK105.out 1).trans rfl,(q0i BK106.out 0).trans rfl,(q0i BK106.out 1).trans rfl⟩ (fun hHeld => ?_);refine with_tabW verdererref03_less.tab5 verdererref03_less.bits5 (fun HT_ HW_ => ?_)
     generalize w16.drew = w17 at BK105 BK106 HB hHeld ⊢
     refine pure_ (i := 1) (N := some 18) (v := ?_) (a' := ?_) #[false,true,false,false,false,false,false,false] rfl rfl (q0r HT_.out (by kernel_rfl)) (fun _ _ _ h => h) (Or.inl ⟨by rfl,?_⟩) ?_ ?_
     rotate_left
     ·intro w'
      go_simp
      with_reducible rfl
     rotate_left
     ·simp only [Act.put,zA,zB,zC,i64_w,i32_w]
      rfl
     refine pure_ (i := 4) (N := some 21) (v := ?_) (a' := ?_) #[false,true,false,false,true,false,false,false] rfl rfl (q0r HT_.out (by kernel_rfl)) (fun _ _ _ h => h) (Or.inl ⟨by rfl,?_⟩) ?_ ?_
     rotate_left
     ·intro w'
      go_simp
      with_reducible rfl
     rotate_left
     ·simp only [Act.put,zA,zB,zC,i64_w,i32_w]
      rfl
     refine take_ (i := 0) (N := some 17) (v := ?_) (a' := ?_) #[true,true,false,false,true,false,false,false] rfl rfl (take_ofW HT_.out HW_.out (by kernel_rfl)) (fun _ _ _ h => h) (Or.inl ⟨by rfl,?_⟩) hHeld ?_ ?_
     rotate_left
     ·rintro w' ⟨s0,s1,s2,s3⟩
      go_simp
      with_reducible rfl
     rotate_left
     ·simp only [Act.put,zA,zB,zC,i64_w,i32_w]
      rfl
     refine take_ (i := 3) (N := some 20) (v := ?_) (a' := ?_) #[true,true,false,true,true,false,false,false] rfl rfl (take_ofW HT_.out HW_.out (by kernel_rfl)) (fun _ _ _ h => h) (Or.inl ⟨by rfl,?_⟩) hHeld ?_ ?_
     rotate_left
     ·rintro w' ⟨s0,s1,s2,s3⟩
      go_simp
      with_reducible rfl
     rotate_left
     ·simp only [Act.put,zA,zB,zC,i64_w,i32_w]
      rfl
     refine one_ (i := 2) (N := some 19) #[true,true,true,true,true,false,false,false] rfl rfl (one_of HT_.out (by kernel_rfl)) (by decide) (fun K hK => ?_)
     refine goes_ Try.func60 (by kernel_rfl) rfl #[.agg #[.bool a0_0,.slice A0_1 l0_1.length c0_1],.int .i64 x5_1] (by rfl) rfl rfl (by (try simp only [List.map_toArray,List.map_cons,List.map_nil]);first | done | rfl | (simp only [List.length_drop,List.length_take];rfl)) ?_
     with_reducible refine (verdererref03_Big_at.calls a0_0 _ _ l0_1 x5_1 t109 _ ?side1 ?side2 A12.out).mono ?_
     (case side1 => repeat (first | exact (Kd.C_below HR0_1.out HB.out) | (with_reducible refine Kd.C_alloc ?_ _) | (with_reducible refine Kd.C_drewN ?_ _) | (with_reducible refine Kd.C_drew ?_)))
     (case side2 => exact HC0_1.out)
     rintro e w18 ⟨rfl,hb⟩
     refine ⟨_,rfl,?_⟩
     have n0_ := Aside0.mk (q0q (g := gb105) (o := .cells #[.bool a0_0,.slice A0_1 l0_1.length c0_1] 29 (0,0)) (by (with_reducible repeat (first | refine q0b ?_ _ | refine q0c ?_ | refine q0a ?_ _));exact BK105.out) hb)
     have n1_ := Aside0.mk (q0q (g := gb106) (o := .cells #[.bool a1_0,.slice A1_1 l1_1.length c1_1] 29 (0,0)) (by (with_reducible repeat (first | refine q0b ?_ _ | refine q0c ?_ | refine q0a ?_ _));exact BK106.out) hb)
     have n2_ := Aside0.mk (q0s (by repeat (first | (with_reducible first | exact HB.out | apply q0h | apply q0d | apply q0f | refine q0g ?_ GE105.out | refine q0g ?_ GE106.out) | exact HB.out)) hb)
     clear BK105
     clear BK106
     clear HB
     have BK105 := n0_
     have BK106 := n1_
     have HB := n2_
     clear n0_ n1_ n2_
     (try clear hb)
     (try clear hb2)
     (try clear hk)
     (try clear hi)
     refine hK.out _ _ ⟨(q0i BK105.out 0).trans rfl,(q0i BK105.out 1).trans rfl,(q0i BK106.out 0).trans rfl,(q0i BK106.out 1).trans rfl⟩ (fun hHeld => ?_)
     clear hK K
     refine norm_ (a' := ?_) ?_ ?_
     rotate_left
     ·show Act.put _ (some 19) _ = _
      simp only [Act.put,zA,zB,zC,i64_w,i32_w]
      rfl
     refine one_ (i := 5) (N := some 22) #[true,true,true,true,true,true,false,false] rfl rfl (one_of HT_.out (by kernel_rfl)) (by decide) (fun K hK => ?_)
     refine goes_ Try.func60 (by kernel_rfl) rfl #[.agg #[.bool a1_0,.slice A1_1 l1_1.length c1_1],.int .i64 x5_1] (by rfl) rfl rfl (by (try simp only [List.map_toArray,List.map_cons,List.map_nil]);first | done | rfl | (simp only [List.length_drop,List.length_take];rfl)) ?_
     with_reducible refine (verdererref03_Big_at.calls a1_0 _ _ l1_1 x5_1 t110 _ ?side1 ?side2 A13.out).mono ?_
     (case side1 => repeat (first | exact (Kd.C_below HR1_1.out HB.out) | (with_reducible refine Kd.C_alloc ?_ _) | (with_reducible refine Kd.C_drewN ?_ _) | (with_reducible refine Kd.C_drew ?_)))
     (case side2 => exact HC1_1.out)
     rintro e w19 ⟨rfl,hb⟩
     refine ⟨_,rfl,?_⟩
     have n0_ := Aside0.mk (q0q (g := gb105) (o := .cells #[.bool a0_0,.slice A0_1 l0_1.length c0_1] 29 (0,0)) (by (with_reducible repeat (first | refine q0b ?_ _ | refine q0c ?_ | refine q0a ?_ _));exact BK105.out) hb)
     have n1_ := Aside0.mk (q0q (g := gb106) (o := .cells #[.bool a1_0,.slice A1_1 l1_1.length c1_1] 29 (0,0)) (by (with_reducible repeat (first | refine q0b ?_ _ | refine q0c ?_ | refine q0a ?_ _));exact BK106.out) hb)
     have n2_ := Aside0.mk (q0s (by repeat (first | (with_reducible first | exact HB.out | apply q0h | apply q0d | apply q0f | refine q0g ?_ GE105.out | refine q0g ?_ GE106.out) | exact HB.out)) hb)
     clear BK105
     clear BK106
     clear HB
     have BK105 := n0_
     have BK106 := n1_
     have HB := n2_
     clear n0_ n1_ n2_
     (try clear hb)
     (try clear hb2)
     (try clear hk)
     (try clear hi)
     refine hK.out _ _ ⟨(q0i BK105.out 0).trans rfl,(q0i BK105.out 1).trans rfl,(q0i BK106.out 0).trans rfl,(q0i BK106.out 1).trans rfl⟩ (fun hHeld => ?_)
     clear hK K
     refine norm_ (a' := ?_) ?_ ?_
     rotate_left
     ·show Act.put _ (some 22) _ = _
      simp only [Act.put,zA,zB,zC,i64_w,i32_w]
      rfl
     refine pure_ (i := 6) (N := some 23) (v := ?_) (a' := ?_) #[true,true,true,true,true,true,true,false] rfl rfl (q0r HT_.out (by kernel_rfl)) (fun _ _ _ h => h) (Or.inl ⟨by rfl,?_⟩) ?_ ?_
     rotate_left
     ·intro w'
      go_simp
      with_reducible rfl
     rotate_left
     ·simp only [Act.put,zA,zB,zC,i64_w,i32_w]
      rfl
     refine pure_ (i := 7) (N := some 4) (v := ?_) (a' := ?_) #[true,true,true,true,true,true,true,true] rfl rfl (q0r HT_.out (by kernel_rfl)) (fun _ _ _ h => h) (Or.inl ⟨by rfl,?_⟩) ?_ ?_
     rotate_left
     ·intro w'
      go_simp
      with_reducible rfl
     rotate_left
     ·simp only [Act.put,zA,zB,zC,i64_w,i32_w]
      rfl
     refine done_ (done_of HT_.out (by kernel_rfl)) ?_
     try go_wp2
     go_ret
     exact ⟨by first | rfl | (simp [q0w,q0x] <;> rfl) | (simp [*,q0w,q0x] <;> rfl),by repeat (first | (with_reducible first | exact HB.out | apply q0h | apply q0d | apply q0f | refine q0g ?_ GE105.out | refine q0g ?_ GE106.out) | exact HB.out)⟩
   ·rw [if_neg c5] at H
    have c5b0 : decide (0 ≤ x5_1) = false := decide_eq_false c5
    clear c5
    obtain rfl := Option.some.inj H
    go_wp2
    go_ret
    exact ⟨by first | rfl | (simp [q0w,q0x] <;> rfl) | (simp [*,q0w,q0x] <;> rfl),by repeat (first | (with_reducible first | exact HB.out | apply q0h | apply q0d | apply q0f | refine q0g ?_ GE105.out | refine q0g ?_ GE106.out) | exact HB.out)⟩
end Go.Proofs.Ytcenlehfbgnphaa.Z
end
section
namespace Go.Proofs.Ytcenlehfbgnphaa.Z
open Go.RowKit Go.Proofs.YtcenlehfbgnphaaW.PrintWords Go.Proofs.YtcenlehfbgnphaaW.PrintLast Go.Proofs.YtcenlehfbgnphaaW.PrintMore
attribute [local go_sem] max2_int min2_int max_two min_two max_three min_three max_four min_four
set_option linter.unusedVariables false
set_option linter.unusedSimpArgs false
mutual
def verdererref03_Plus.l0 : Nat → Int → Int → Bool → List Int → Bool → List Int → Bool → List Int → Option (Bool × List Int)
 | 0,_,_,_,_,_,_,_,_ => none
 | k + 1,x6,x7,x112000,x112001,x113000,x113001,x120000,x120001 => if x7 < 20 then ((verdererref03_Big_at.f x112000 x112001 x7).bind fun t120 => ((verdererref03_Big_at.f x113000 x113001 x7).bind fun t121 => (if x120001.length < 17592186044416 then (verdererref03_Plus.l0 k (IntKind.u64.wrap (1 - (IntKind.u64.wrap (Int.tdiv (IntKind.u64.wrap ((IntKind.u64.wrap ((IntKind.u64.wrap (t120 + 65536)) - t121)) - x6)) 65536)))) (wrap64 (x7 + 1)) x112000 x112001 x113000 x113001 x120000 (x120001 ++ [Int.tmod (IntKind.u64.wrap ((IntKind.u64.wrap ((IntKind.u64.wrap (t120 + 65536)) - t121)) - x6)) 65536])) else (none)))) else (some (x120000,x120001))
def verdererref03_Plus.l1 : Nat → Int → Int → Bool → List Int → Bool → List Int → Bool → List Int → Option (Bool × List Int)
 | 0,_,_,_,_,_,_,_,_ => none
 | k + 1,x10,x11,x112000,x112001,x113000,x113001,x126000,x126001 => if x11 < 20 then ((verdererref03_Big_at.f x112000 x112001 x11).bind fun t126 => ((verdererref03_Big_at.f x113000 x113001 x11).bind fun t127 => (if x126001.length < 17592186044416 then (verdererref03_Plus.l1 k (IntKind.u64.wrap (Int.tdiv (IntKind.u64.wrap ((IntKind.u64.wrap (t126 + t127)) + x10)) 65536)) (wrap64 (x11 + 1)) x112000 x112001 x113000 x113001 x126000 (x126001 ++ [Int.tmod (IntKind.u64.wrap ((IntKind.u64.wrap (t126 + t127)) + x10)) 65536])) else (none)))) else (some (x126000,x126001))
def verdererref03_Plus.f : Nat → Bool → List Int → Bool → List Int → Option (Bool × List Int)
 | 0,_,_,_,_ => none
 | k + 1,a0_0,l0_1,a1_0,l1_1 => if (a0_0 != a1_0) = true then ((verdererref03_less.f k a0_0 l0_1 a1_0 l1_1).bind fun t114 => (if t114 = true then ((verdererref03_Plus.f k a1_0 l1_1 a0_0 l0_1).bind fun bt115 => (some (bt115.1,bt115.2))) else (verdererref03_Plus.l0 k 0 0 a0_0 l0_1 a1_0 l1_1 a0_0 ([] : List Int)))) else (verdererref03_Plus.l1 k 0 0 a0_0 l0_1 a1_0 l1_1 a0_0 ([] : List Int))
end
theorem verdererref03_Plus.mono_l : ∀ k,(∀ y0 y1 y2 y3,LeO (verdererref03_Plus.f k y0 y1 y2 y3) (verdererref03_Plus.f (k + 1) y0 y1 y2 y3)) ∧ (∀ y0 y1 y2 y3 y4 y5 y6 y7,LeO (verdererref03_Plus.l0 k y0 y1 y2 y3 y4 y5 y6 y7) (verdererref03_Plus.l0 (k + 1) y0 y1 y2 y3 y4 y5 y6 y7)) ∧ (∀ y0 y1 y2 y3 y4 y5 y6 y7,LeO (verdererref03_Plus.l1 k y0 y1 y2 y3 y4 y5 y6 y7) (verdererref03_Plus.l1 (k + 1) y0 y1 y2 y3 y4 y5 y6 y7))
 | 0 => ⟨fun _ _ _ _ r h => by simp [verdererref03_Plus.f] at h,fun _ _ _ _ _ _ _ _ r h => by simp [verdererref03_Plus.l0] at h,fun _ _ _ _ _ _ _ _ r h => by simp [verdererref03_Plus.l1] at h⟩
 | k + 1 => by
  obtain ⟨ih0,ih1,ih2⟩ := verdererref03_Plus.mono_l k
  refine ⟨?_,?_,?_⟩
  ·intro y0 y1 y2 y3
   unfold verdererref03_Plus.f
   repeat' first
   | (with_reducible exact ih0 _ _ _ _)
   | (with_reducible exact ih1 _ _ _ _ _ _ _ _)
   | (with_reducible exact ih2 _ _ _ _ _ _ _ _)
   | (with_reducible exact verdererref03_less.mono _ _ _ _ _)
   | (with_reducible exact LeO.refl _)
   | (with_reducible exact LeO.none _)
   | (with_reducible refine LeO.ite ?_ ?_)
   | (with_reducible refine LeO.bind ?_ (fun _ => ?_))
   | exact ih0 _ _ _ _
   | exact ih1 _ _ _ _ _ _ _ _
   | exact ih2 _ _ _ _ _ _ _ _
   | exact verdererref03_less.mono _ _ _ _ _
   | exact LeO.none _
   | refine LeO.ite ?_ ?_
   | refine LeO.bind ?_ (fun _ => ?_)
  ·intro y0 y1 y2 y3 y4 y5 y6 y7
   unfold verdererref03_Plus.l0
   repeat' first
   | (with_reducible exact ih0 _ _ _ _)
   | (with_reducible exact ih1 _ _ _ _ _ _ _ _)
   | (with_reducible exact ih2 _ _ _ _ _ _ _ _)
   | (with_reducible exact verdererref03_less.mono _ _ _ _ _)
   | (with_reducible exact LeO.refl _)
   | (with_reducible exact LeO.none _)
   | (with_reducible refine LeO.ite ?_ ?_)
   | (with_reducible refine LeO.bind ?_ (fun _ => ?_))
   | exact ih0 _ _ _ _
   | exact ih1 _ _ _ _ _ _ _ _
   | exact ih2 _ _ _ _ _ _ _ _
   | exact verdererref03_less.mono _ _ _ _ _
   | exact LeO.none _
   | refine LeO.ite ?_ ?_
   | refine LeO.bind ?_ (fun _ => ?_)
  ·intro y0 y1 y2 y3 y4 y5 y6 y7
   unfold verdererref03_Plus.l1
   repeat' first
   | (with_reducible exact ih0 _ _ _ _)
   | (with_reducible exact ih1 _ _ _ _ _ _ _ _)
   | (with_reducible exact ih2 _ _ _ _ _ _ _ _)
   | (with_reducible exact verdererref03_less.mono _ _ _ _ _)
   | (with_reducible exact LeO.refl _)
   | (with_reducible exact LeO.none _)
   | (with_reducible refine LeO.ite ?_ ?_)
   | (with_reducible refine LeO.bind ?_ (fun _ => ?_))
   | exact ih0 _ _ _ _
   | exact ih1 _ _ _ _ _ _ _ _
   | exact ih2 _ _ _ _ _ _ _ _
   | exact verdererref03_less.mono _ _ _ _ _
   | exact LeO.none _
   | refine LeO.ite ?_ ?_
   | refine LeO.bind ?_ (fun _ => ?_)
theorem verdererref03_Plus.mono : ∀ a0 a1 a2 a3 k,LeO (verdererref03_Plus.f k a0 a1 a2 a3) (verdererref03_Plus.f (k + 1) a0 a1 a2 a3) := by
 intro a0 a1 a2 a3 k
 obtain ⟨ih0,ih1,ih2⟩ := verdererref03_Plus.mono_l k
 exact ih0 a0 a1 a2 a3
def verdererref03_Plus.T9 : Bool × List (List Nat × List Nat) := (true,[([],[]),([],[]),([0,1],[0,1]),([2],[2]),([],[]),([],[]),([4,5,2],[4,5]),([3,6],[3,6]),([],[]),([7,8],[7,8]),([9,6,0,1,2,3,4,5,6,7,8,9],[9])])
def verdererref03_Plus.B9 : List Nat := [0,0,3,7,0,0,55,127,0,511,1023]
theorem verdererref03_Plus.tab9 : rtab .any (opsOf Try.f16 9) = verdererref03_Plus.T9 := by kernel_rfl
theorem verdererref03_Plus.bits9 : waitsOk verdererref03_Plus.T9.2 verdererref03_Plus.B9 = true := by kernel_rfl
def verdererref03_Plus.T18 : Bool × List (List Nat × List Nat) := (true,[([],[]),([],[]),([0,1],[0,1]),([],[]),([],[]),([3,4,2],[3,4]),([2,5],[2,5]),([],[]),([6,7],[6,7]),([8,5,0,1,2,3,4,5,6,7,8],[8])])
def verdererref03_Plus.B18 : List Nat := [0,0,3,0,0,31,63,0,255,511]
theorem verdererref03_Plus.tab18 : rtab .any (opsOf Try.f16 18) = verdererref03_Plus.T18 := by kernel_rfl
theorem verdererref03_Plus.bits18 : waitsOk verdererref03_Plus.T18.2 verdererref03_Plus.B18 = true := by kernel_rfl
set_option maxHeartbeats 8000000 in
set_option maxRecDepth 100000 in
theorem verdererref03_Plus.calls (k : Nat) : ∀ (a0_0 : Bool) (A0_1 : Option Addr) (c0_1 : Nat) (l0_1 : List Int) (a1_0 : Bool) (A1_1 : Option Addr) (c1_1 : Nat) (l1_1 : List Int) (r1 : Bool) (r2 : List Int) (w : World) (hr0_1 : Kd.C (Kd.int .u64) w A0_1 l0_1.length l0_1) (hc0_1 : l0_1.length ≤ c0_1) (hr1_1 : Kd.C (Kd.int .u64) w A1_1 l1_1.length l1_1) (hc1_1 : l1_1.length ≤ c1_1) (h : verdererref03_Plus.f k a0_0 l0_1 a1_0 l1_1 = some (r1,r2)),
  Calls Try.prog 16 #[.agg #[.bool a0_0,.slice A0_1 l0_1.length c0_1],.agg #[.bool a1_0,.slice A1_1 l1_1.length c1_1]] w fun e w' => ∃ v1_ : Value,e = .returned (.agg #[.bool r1,v1_]) ∧ Kd.R (Kd.int .u64) 96 w' w.heap.size (fun _ => True) v1_ r2 ∧ Below w.heap.size w w' := by
 induction k using Nat.strongRecOn with
 | _ k ih =>
 intro a0_0 A0_1 c0_1 l0_1 a1_0 A1_1 c1_1 l1_1 r1 r2 w hr0_1 hc0_1 hr1_1 hc1_1 h
 cases k with
 | zero => exact absurd h (by simp [verdererref03_Plus.f])
 | succ k =>
 simp only [verdererref03_Plus.f] at h
 have hu29 := Try.underlying29
 have HR0_1 := Aside0.mk hr0_1
 have HC0_1 := Aside0.mk hc0_1
 clear hr0_1 hc0_1
 have HR1_1 := Aside0.mk hr1_1
 have HC1_1 := Aside0.mk hc1_1
 clear hr1_1 hc1_1
 have HB := Aside0.mk (Below.refl w.heap.size w)
 have H : (if (a0_0 != a1_0) = true then ((verdererref03_less.f k a0_0 l0_1 a1_0 l1_1).bind fun t114 => (if t114 = true then ((verdererref03_Plus.f k a1_0 l1_1 a0_0 l0_1).bind fun bt115 => (some (bt115.1,bt115.2))) else (verdererref03_Plus.l0 k 0 0 a0_0 l0_1 a1_0 l1_1 a0_0 ([] : List Int)))) else (verdererref03_Plus.l1 k 0 0 a0_0 l0_1 a1_0 l1_1 a0_0 ([] : List Int))) = some (r1,r2) := h
 clear h
 by_cases c3 : (a0_0 != a1_0) = true
 ·rw [if_pos c3] at H
  have c3b0 : (a0_0 != a1_0) = true := c3
  (try (have c3b1 : decide (a0_0 = a1_0) = false := by simpa using c3))
  (try (have c3b2 : (a0_0 == a1_0) = false := by simpa using c3))
  (try (have c3b3 : ¬ (a0_0 = a1_0) := by simpa using c3))
  clear c3
  replace H := Option.bind_eq_some_iff.mp H
  obtain ⟨t114,A40,H⟩ := H
  replace H : (if t114 = true then ((verdererref03_Plus.f k a1_0 l1_1 a0_0 l0_1).bind fun bt115 => (some (bt115.1,bt115.2))) else (verdererref03_Plus.l0 k 0 0 a0_0 l0_1 a1_0 l1_1 a0_0 ([] : List Int))) = some (r1,r2) := H
  have A4 := Aside0.mk A40
  clear A40
  by_cases c5 : t114 = true
  ·subst c5
   have H1 : ((verdererref03_Plus.f k a1_0 l1_1 a0_0 l0_1).bind fun bt115 => (some (bt115.1,bt115.2))) = some (r1,r2) := by rw [if_pos rfl] at H;exact H
   clear H
   have H := H1
   clear H1
   replace H := Option.bind_eq_some_iff.mp H
   obtain ⟨⟨t115,t116⟩,A60,H⟩ := H
   replace H : (some (t115,t116)) = some (r1,r2) := H
   have A6 := Aside0.mk A60
   clear A60
   simp only [Option.some.injEq,Prod.mk.injEq] at H
   obtain ⟨rfl,rfl⟩ := H
   go_enter Try.func16,Try.ntmps16
   go_wp2_with (first | ((with_reducible refine gate_dst (N := 2) rfl ?_);refine q03 ?hg (N := 2) ?hd (cs := #[.bool a0_0,.slice A0_1 l0_1.length c0_1]) (t := 29) ?hr ?_;(case hd => rfl);(case hg => rfl);(case hr => first | (go_simp;done) | (go_simp;rfl));intro gb111 hg w7 hbox hb;have n0_ := Aside0.mk (q0s (by repeat (first | (with_reducible first | exact HB.out | apply q0h | apply q0d | apply q0f) | exact HB.out)) hb);have n1_ := Aside0.mk (hbox);have n2_ := Aside0.mk ((by rw [hg];exact (q0p (by repeat (first | (with_reducible first | exact HB.out | apply q0h | apply q0d | apply q0f) | exact HB.out))) : w.heap.size ≤ gb111));have n3_ := Aside0.mk ((by rw [hg];exact (q0p (by repeat (first | (with_reducible first | exact HB.out | apply q0h | apply q0d | apply q0f) | exact HB.out))) : w.heap.size ≤ gb111));clear HB;have HB := n0_;have BK111 := n1_;have GW111 := n2_;have GE111 := n3_;clear n0_ n1_ n2_ n3_;clear hb hbox hg) | ((with_reducible refine gate_dst (N := 3) rfl ?_);refine q03 ?hg (N := 3) ?hd (cs := #[.bool a1_0,.slice A1_1 l1_1.length c1_1]) (t := 29) ?hr ?_;(case hd => rfl);(case hg => rfl);(case hr => first | (go_simp;done) | (go_simp;rfl));intro gb112 hg w8 hbox hb;have n0_ := Aside0.mk (q0q (g := gb111) (o := .cells #[.bool a0_0,.slice A0_1 l0_1.length c0_1] 29 (0,0)) (by (with_reducible repeat (first | refine q0b ?_ _ | refine q0c ?_ | refine q0a ?_ _));exact BK111.out) hb);have n1_ := Aside0.mk (q0s (by repeat (first | (with_reducible first | exact HB.out | apply q0h | apply q0d | apply q0f | refine q0g ?_ GE111.out) | exact HB.out)) hb);have n2_ := Aside0.mk (hbox);have n3_ := Aside0.mk ((by rw [hg];exact (q0p (by repeat (first | (with_reducible first | exact HB.out | apply q0h | apply q0d | apply q0f | refine q0g ?_ GE111.out) | exact HB.out))) : w.heap.size ≤ gb112));have n4_ := Aside0.mk ((by rw [hg];exact (q0p (by repeat (first | (with_reducible first | exact HB.out | apply q0h | apply q0d | apply q0f | refine q0g ?_ GE111.out) | exact HB.out))) : w.heap.size ≤ gb112));have n5_ := Aside0.mk ((by rw [hg];exact Nat.ne_of_lt (q0y (g := gb111) (o := .cells #[.bool a0_0,.slice A0_1 l0_1.length c0_1] 29 (0,0)) (by (with_reducible repeat (first | refine q0b ?_ _ | refine q0c ?_ | refine q0a ?_ _));exact BK111.out)) : gb111 ≠ gb112));have n6_ := Aside0.mk ((by rw [hg];exact Nat.ne_of_gt (q0y (g := gb111) (o := .cells #[.bool a0_0,.slice A0_1 l0_1.length c0_1] 29 (0,0)) (by (with_reducible repeat (first | refine q0b ?_ _ | refine q0c ?_ | refine q0a ?_ _));exact BK111.out)) : gb112 ≠ gb111));clear BK111;clear HB;have BK111 := n0_;have HB := n1_;have BK112 := n2_;have GW112 := n3_;have GE112 := n4_;have NB111_112 := n5_;have NB112_111 := n6_;clear n0_ n1_ n2_ n3_ n4_ n5_ n6_;clear hb hbox hg) | ((with_reducible refine gate_dst (N := 4) rfl ?_);refine q03 ?hg (N := 4) ?hd (cs := #[.bool false,.slice none 0 0]) (t := 29) ?hr ?_;(case hd => rfl);(case hg => rfl);(case hr => first | (go_simp;done) | (go_simp;rfl));intro gb113 hg w9 hbox hb;have n0_ := Aside0.mk (q0q (g := gb111) (o := .cells #[.bool a0_0,.slice A0_1 l0_1.length c0_1] 29 (0,0)) (by (with_reducible repeat (first | refine q0b ?_ _ | refine q0c ?_ | refine q0a ?_ _));exact BK111.out) hb);have n1_ := Aside0.mk (q0q (g := gb112) (o := .cells #[.bool a1_0,.slice A1_1 l1_1.length c1_1] 29 (0,0)) (by (with_reducible repeat (first | refine q0b ?_ _ | refine q0c ?_ | refine q0a ?_ _));exact BK112.out) hb);have n2_ := Aside0.mk (q0s (by repeat (first | (with_reducible first | exact HB.out | apply q0h | apply q0d | apply q0f | refine q0g ?_ GE111.out | refine q0g ?_ GE112.out) | exact HB.out)) hb);have n3_ := Aside0.mk (hbox);have n4_ := Aside0.mk ((by rw [hg];exact (q0p (by repeat (first | (with_reducible first | exact HB.out | apply q0h | apply q0d | apply q0f | refine q0g ?_ GE111.out | refine q0g ?_ GE112.out) | exact HB.out))) : w.heap.size ≤ gb113));have n5_ := Aside0.mk ((by rw [hg];exact (q0p (by repeat (first | (with_reducible first | exact HB.out | apply q0h | apply q0d | apply q0f | refine q0g ?_ GE111.out | refine q0g ?_ GE112.out) | exact HB.out))) : w.heap.size ≤ gb113));have n6_ := Aside0.mk ((by rw [hg];exact Nat.ne_of_lt (q0y (g := gb111) (o := .cells #[.bool a0_0,.slice A0_1 l0_1.length c0_1] 29 (0,0)) (by (with_reducible repeat (first | refine q0b ?_ _ | refine q0c ?_ | refine q0a ?_ _));exact BK111.out)) : gb111 ≠ gb113));have n7_ := Aside0.mk ((by rw [hg];exact Nat.ne_of_gt (q0y (g := gb111) (o := .cells #[.bool a0_0,.slice A0_1 l0_1.length c0_1] 29 (0,0)) (by (with_reducible repeat (first | refine q0b ?_ _ | refine q0c ?_ | refine q0a ?_ _));exact BK111.out)) : gb113 ≠ gb111));have n8_ := Aside0.mk ((by rw [hg];exact Nat.ne_of_lt (q0y (g := gb112) (o := .cells #[.bool a1_0,.slice A1_1 l1_1.length c1_1] 29 (0,0)) (by (with_reducible repeat (first | refine q0b ?_ _ | refine q0c ?_ | refine q0a ?_ _));exact BK112.out)) : gb112 ≠ gb113));have n9_ := Aside0.mk ((by rw [hg];exact Nat.ne_of_gt (q0y (g := gb112) (o := .cells #[.bool a1_0,.slice A1_1 l1_1.length c1_1] 29 (0,0)) (by (with_reducible repeat (first | refine q0b ?_ _ | refine q0c ?_ | refine q0a ?_ _));exact BK112.out)) : gb113 ≠ gb112));clear BK111;clear BK112;clear HB;have BK111 := n0_;have BK112 := n1_;have HB := n2_;have BK113 := n3_;have GW113 := n4_;have GE113 := n5_;have NB111_113 := n6_;have NB113_111 := n7_;have NB112_113 := n8_;have NB113_112 := n9_;clear n0_ n1_ n2_ n3_ n4_ n5_ n6_ n7_ n8_ n9_;clear hb hbox hg;have hnb10 := NB111_112.out;have hnc10 := NB112_111.out;have hnb11 := NB111_113.out;have hnc11 := NB113_111.out;have hcz12_0 : w9.cell? ⟨gb111,0,none⟩ = some (.bool a0_0) := (q0i BK111.out 0).trans rfl;have hcz12_1 : w9.cell? ⟨gb111,1,none⟩ = some (.slice A0_1 l0_1.length c0_1) := (q0i BK111.out 1).trans rfl;have hfz12_0 := q0k BK111.out 0;have hfz12_1 := q0k BK111.out 1;have hnb13 := NB112_113.out;have hnc13 := NB113_112.out;have hcz14_0 : w9.cell? ⟨gb112,0,none⟩ = some (.bool a1_0) := (q0i BK112.out 0).trans rfl;have hcz14_1 : w9.cell? ⟨gb112,1,none⟩ = some (.slice A1_1 l1_1.length c1_1) := (q0i BK112.out 1).trans rfl;have hfz14_0 := q0k BK112.out 0;have hfz14_1 := q0k BK112.out 1) | ((with_reducible refine q00 (f := 59) rfl ?_);refine goesL_ (some 20) rfl rfl Try.func59 (by kernel_rfl) rfl #[.agg #[.bool a0_0,.slice A0_1 l0_1.length c0_1],.agg #[.bool a1_0,.slice A1_1 l1_1.length c1_1]] rfl (by (try simp only [List.map_toArray,List.map_cons,List.map_nil]);first | done | rfl | (simp only [List.length_drop,List.length_take];rfl)) ?_;(with_reducible refine (verdererref03_less.calls k a0_0 _ _ l0_1 a1_0 _ _ l1_1 true _ ?side1 ?side2 ?side3 ?side4 A4.out).mono ?_);(case side1 => repeat (first | exact (Kd.C_below HR0_1.out HB.out) | (with_reducible refine Kd.C_alloc ?_ _) | (with_reducible refine Kd.C_drewN ?_ _) | (with_reducible refine Kd.C_drew ?_)));(case side2 => exact HC0_1.out);(case side3 => repeat (first | exact (Kd.C_below HR1_1.out HB.out) | (with_reducible refine Kd.C_alloc ?_ _) | (with_reducible refine Kd.C_drewN ?_ _) | (with_reducible refine Kd.C_drew ?_)));(case side4 => exact HC1_1.out);rintro e w15 ⟨rfl,hb⟩;refine ⟨_,rfl,?_⟩;have n0_ := Aside0.mk (q0q (g := gb111) (o := .cells #[.bool a0_0,.slice A0_1 l0_1.length c0_1] 29 (0,0)) (by (with_reducible repeat (first | refine q0b ?_ _ | refine q0c ?_ | refine q0a ?_ _));exact BK111.out) hb);have n1_ := Aside0.mk (q0q (g := gb112) (o := .cells #[.bool a1_0,.slice A1_1 l1_1.length c1_1] 29 (0,0)) (by (with_reducible repeat (first | refine q0b ?_ _ | refine q0c ?_ | refine q0a ?_ _));exact BK112.out) hb);have n2_ := Aside0.mk (q0q (g := gb113) (o := .cells #[.bool false,.slice none 0 0] 29 (0,0)) (by (with_reducible repeat (first | refine q0b ?_ _ | refine q0c ?_ | refine q0a ?_ _));exact BK113.out) hb);have n3_ := Aside0.mk (q0s (by repeat (first | (with_reducible first | exact HB.out | apply q0h | apply q0d | apply q0f | refine q0g ?_ GE111.out | refine q0g ?_ GE112.out | refine q0g ?_ GE113.out) | exact HB.out)) hb);clear BK111;clear BK112;clear BK113;clear HB;have BK111 := n0_;have BK112 := n1_;have BK113 := n2_;have HB := n3_;clear n0_ n1_ n2_ n3_;(try clear hb);(try clear hb2);(try clear hk);(try clear hi);have hcz16_0 : w15.cell? ⟨gb112,0,none⟩ = some (.bool a1_0) := (q0i BK112.out 0).trans rfl;have hcz16_1 : w15.cell? ⟨gb112,1,none⟩ = some (.slice A1_1 l1_1.length c1_1) := (q0i BK112.out 1).trans rfl;have hfz16_0 := q0k BK112.out 0;have hfz16_1 := q0k BK112.out 1;have hcz17_0 : w15.cell? ⟨gb111,0,none⟩ = some (.bool a0_0) := (q0i BK111.out 0).trans rfl;have hcz17_1 : w15.cell? ⟨gb111,1,none⟩ = some (.slice A0_1 l0_1.length c0_1) := (q0i BK111.out 1).trans rfl;have hfz17_0 := q0k BK111.out 0;have hfz17_1 := q0k BK111.out 1) | ((with_reducible refine q00 (f := 16) rfl ?_);refine goesL_ (some 23) rfl rfl Try.func16 (by kernel_rfl) rfl #[.agg #[.bool a1_0,.slice A1_1 l1_1.length c1_1],.agg #[.bool a0_0,.slice A0_1 l0_1.length c0_1]] rfl (by (try simp only [List.map_toArray,List.map_cons,List.map_nil]);first | done | rfl | (simp only [List.length_drop,List.length_take];rfl)) ?_;(with_reducible refine (ih k (by omega) a1_0 _ _ l1_1 a0_0 _ _ l0_1 t115 t116 _ ?side1 ?side2 ?side3 ?side4 A6.out).mono ?_);(case side1 => repeat (first | exact (Kd.C_below HR1_1.out HB.out) | (with_reducible refine Kd.C_alloc ?_ _) | (with_reducible refine Kd.C_drewN ?_ _) | (with_reducible refine Kd.C_drew ?_)));(case side2 => exact HC1_1.out);(case side3 => repeat (first | exact (Kd.C_below HR0_1.out HB.out) | (with_reducible refine Kd.C_alloc ?_ _) | (with_reducible refine Kd.C_drewN ?_ _) | (with_reducible refine Kd.C_drew ?_)));(case side4 => exact HC0_1.out);rintro e w18 ⟨v117,rfl,ho0,hb⟩;refine ⟨_,rfl,?_⟩;have n0_ := Aside0.mk (Kd.R_lower ho0 (q0p (by repeat (first | (with_reducible first | exact HB.out | apply q0h | apply q0d | apply q0f | refine q0g ?_ GE111.out | refine q0g ?_ GE112.out | refine q0g ?_ GE113.out) | exact HB.out))));have n1_ := Aside0.mk (q0q (g := gb111) (o := .cells #[.bool a0_0,.slice A0_1 l0_1.length c0_1] 29 (0,0)) (by (with_reducible repeat (first | refine q0b ?_ _ | refine q0c ?_ | refine q0a ?_ _));exact BK111.out) hb);have n2_ := Aside0.mk (q0q (g := gb112) (o := .cells #[.bool a1_0,.slice A1_1 l1_1.length c1_1] 29 (0,0)) (by (with_reducible repeat (first | refine q0b ?_ _ | refine q0c ?_ | refine q0a ?_ _));exact BK112.out) hb);have n3_ := Aside0.mk (q0q (g := gb113) (o := .cells #[.bool false,.slice none 0 0] 29 (0,0)) (by (with_reducible repeat (first | refine q0b ?_ _ | refine q0c ?_ | refine q0a ?_ _));exact BK113.out) hb);have n4_ := Aside0.mk (q0s (by repeat (first | (with_reducible first | exact HB.out | apply q0h | apply q0d | apply q0f | refine q0g ?_ GE111.out | refine q0g ?_ GE112.out | refine q0g ?_ GE113.out) | exact HB.out)) hb);clear BK111;clear BK112;clear BK113;clear HB;have HO118 := n0_;have BK111 := n1_;have BK112 := n2_;have BK113 := n3_;have HB := n4_;clear n0_ n1_ n2_ n3_ n4_;(try clear hb);(try clear hb2);(try clear hk);(try clear hi);(try clear ho0);have hcz19_0 : w18.cell? ⟨gb113,0,none⟩ = some (.bool false) := (q0i BK113.out 0).trans rfl;have hcz19_1 : w18.cell? ⟨gb113,1,none⟩ = some (.slice none 0 0) := (q0i BK113.out 1).trans rfl;have hfz19_0 := q0k BK113.out 0;have hfz19_1 := q0k BK113.out 1;obtain ⟨Ao20,co20,eo20⟩ := Kd.R_slice HO118.out;subst eo20))
   refine bodyPost_ret (results_cell_row rfl _ _ gb113 29 #[.bool t115,.slice Ao20 t116.length co20] (0,0) _ rfl (by (with_reducible repeat (first | refine q0b ?_ _ | refine q0c ?_ | refine q0a ?_ _));refine q0t (cs := #[.bool t115,.slice none 0 0]) ?_ 1 _ rfl;(with_reducible repeat (first | refine q0b ?_ _ | refine q0c ?_ | refine q0a ?_ _));refine q0t (cs := #[.bool false,.slice none 0 0]) ?_ 0 _ rfl;(with_reducible repeat (first | refine q0b ?_ _ | refine q0c ?_ | refine q0a ?_ _));exact BK113.out) Try.underlying29 rfl (by kernel_rfl)) rfl ?_
   exact ⟨_,by first | rfl | (simp [q0w,q0x] <;> rfl) | (simp [*,q0w,q0x] <;> rfl),by (with_reducible repeat (first | apply Kd.q0m | apply Kd.q0n | apply Kd.q0o));exact Kd.R_mono (Kd.R_far (p := ⟨gb113,1,none⟩) (Kd.R_far (p := ⟨gb113,0,none⟩) (Kd.R_types HO118.out BK113.out (by decide)) (fun _ hk => hk.2) (.bool t115)) (fun _ hk => hk.2) (.slice Ao20 t116.length co20)) (fun _ hk => trivial),by repeat (first | (with_reducible first | exact HB.out | apply q0h | apply q0d | apply q0f | refine q0g ?_ GE111.out | refine q0g ?_ GE112.out | refine q0g ?_ GE113.out) | exact HB.out)⟩
  ·replace c5 := Bool.eq_false_iff.mpr c5
   subst c5
   have H1 : (verdererref03_Plus.l0 k 0 0 a0_0 l0_1 a1_0 l1_1 a0_0 ([] : List Int)) = some (r1,r2) := by rw [if_neg (show ¬ (false = true) by decide)] at H;exact H
   clear H
   have H := H1
   clear H1
   have H' := Aside0.mk H
   clear H
   go_enter Try.func16,Try.ntmps16
   go_wp2_with (first | ((with_reducible refine gate_dst (N := 2) rfl ?_);refine q03 ?hg (N := 2) ?hd (cs := #[.bool a0_0,.slice A0_1 l0_1.length c0_1]) (t := 29) ?hr ?_;(case hd => rfl);(case hg => rfl);(case hr => first | (go_simp;done) | (go_simp;rfl));intro gb111 hg w21 hbox hb;have n0_ := Aside0.mk (q0s (by repeat (first | (with_reducible first | exact HB.out | apply q0h | apply q0d | apply q0f) | exact HB.out)) hb);have n1_ := Aside0.mk (hbox);have n2_ := Aside0.mk ((by rw [hg];exact (q0p (by repeat (first | (with_reducible first | exact HB.out | apply q0h | apply q0d | apply q0f) | exact HB.out))) : w.heap.size ≤ gb111));have n3_ := Aside0.mk ((by rw [hg];exact (q0p (by repeat (first | (with_reducible first | exact HB.out | apply q0h | apply q0d | apply q0f) | exact HB.out))) : w.heap.size ≤ gb111));clear HB;have HB := n0_;have BK111 := n1_;have GW111 := n2_;have GE111 := n3_;clear n0_ n1_ n2_ n3_;clear hb hbox hg) | ((with_reducible refine gate_dst (N := 3) rfl ?_);refine q03 ?hg (N := 3) ?hd (cs := #[.bool a1_0,.slice A1_1 l1_1.length c1_1]) (t := 29) ?hr ?_;(case hd => rfl);(case hg => rfl);(case hr => first | (go_simp;done) | (go_simp;rfl));intro gb112 hg w22 hbox hb;have n0_ := Aside0.mk (q0q (g := gb111) (o := .cells #[.bool a0_0,.slice A0_1 l0_1.length c0_1] 29 (0,0)) (by (with_reducible repeat (first | refine q0b ?_ _ | refine q0c ?_ | refine q0a ?_ _));exact BK111.out) hb);have n1_ := Aside0.mk (q0s (by repeat (first | (with_reducible first | exact HB.out | apply q0h | apply q0d | apply q0f | refine q0g ?_ GE111.out) | exact HB.out)) hb);have n2_ := Aside0.mk (hbox);have n3_ := Aside0.mk ((by rw [hg];exact (q0p (by repeat (first | (with_reducible first | exact HB.out | apply q0h | apply q0d | apply q0f | refine q0g ?_ GE111.out) | exact HB.out))) : w.heap.size ≤ gb112));have n4_ := Aside0.mk ((by rw [hg];exact (q0p (by repeat (first | (with_reducible first | exact HB.out | apply q0h | apply q0d | apply q0f | refine q0g ?_ GE111.out) | exact HB.out))) : w.heap.size ≤ gb112));have n5_ := Aside0.mk ((by rw [hg];exact Nat.ne_of_lt (q0y (g := gb111) (o := .cells #[.bool a0_0,.slice A0_1 l0_1.length c0_1] 29 (0,0)) (by (with_reducible repeat (first | refine q0b ?_ _ | refine q0c ?_ | refine q0a ?_ _));exact BK111.out)) : gb111 ≠ gb112));have n6_ := Aside0.mk ((by rw [hg];exact Nat.ne_of_gt (q0y (g := gb111) (o := .cells #[.bool a0_0,.slice A0_1 l0_1.length c0_1] 29 (0,0)) (by (with_reducible repeat (first | refine q0b ?_ _ | refine q0c ?_ | refine q0a ?_ _));exact BK111.out)) : gb112 ≠ gb111));clear BK111;clear HB;have BK111 := n0_;have HB := n1_;have BK112 := n2_;have GW112 := n3_;have GE112 := n4_;have NB111_112 := n5_;have NB112_111 := n6_;clear n0_ n1_ n2_ n3_ n4_ n5_ n6_;clear hb hbox hg) | ((with_reducible refine gate_dst (N := 4) rfl ?_);refine q03 ?hg (N := 4) ?hd (cs := #[.bool false,.slice none 0 0]) (t := 29) ?hr ?_;(case hd => rfl);(case hg => rfl);(case hr => first | (go_simp;done) | (go_simp;rfl));intro gb113 hg w23 hbox hb;have n0_ := Aside0.mk (q0q (g := gb111) (o := .cells #[.bool a0_0,.slice A0_1 l0_1.length c0_1] 29 (0,0)) (by (with_reducible repeat (first | refine q0b ?_ _ | refine q0c ?_ | refine q0a ?_ _));exact BK111.out) hb);have n1_ := Aside0.mk (q0q (g := gb112) (o := .cells #[.bool a1_0,.slice A1_1 l1_1.length c1_1] 29 (0,0)) (by (with_reducible repeat (first | refine q0b ?_ _ | refine q0c ?_ | refine q0a ?_ _));exact BK112.out) hb);have n2_ := Aside0.mk (q0s (by repeat (first | (with_reducible first | exact HB.out | apply q0h | apply q0d | apply q0f | refine q0g ?_ GE111.out | refine q0g ?_ GE112.out) | exact HB.out)) hb);have n3_ := Aside0.mk (hbox);have n4_ := Aside0.mk ((by rw [hg];exact (q0p (by repeat (first | (with_reducible first | exact HB.out | apply q0h | apply q0d | apply q0f | refine q0g ?_ GE111.out | refine q0g ?_ GE112.out) | exact HB.out))) : w.heap.size ≤ gb113));have n5_ := Aside0.mk ((by rw [hg];exact (q0p (by repeat (first | (with_reducible first | exact HB.out | apply q0h | apply q0d | apply q0f | refine q0g ?_ GE111.out | refine q0g ?_ GE112.out) | exact HB.out))) : w.heap.size ≤ gb113));have n6_ := Aside0.mk ((by rw [hg];exact Nat.ne_of_lt (q0y (g := gb111) (o := .cells #[.bool a0_0,.slice A0_1 l0_1.length c0_1] 29 (0,0)) (by (with_reducible repeat (first | refine q0b ?_ _ | refine q0c ?_ | refine q0a ?_ _));exact BK111.out)) : gb111 ≠ gb113));have n7_ := Aside0.mk ((by rw [hg];exact Nat.ne_of_gt (q0y (g := gb111) (o := .cells #[.bool a0_0,.slice A0_1 l0_1.length c0_1] 29 (0,0)) (by (with_reducible repeat (first | refine q0b ?_ _ | refine q0c ?_ | refine q0a ?_ _));exact BK111.out)) : gb113 ≠ gb111));have n8_ := Aside0.mk ((by rw [hg];exact Nat.ne_of_lt (q0y (g := gb112) (o := .cells #[.bool a1_0,.slice A1_1 l1_1.length c1_1] 29 (0,0)) (by (with_reducible repeat (first | refine q0b ?_ _ | refine q0c ?_ | refine q0a ?_ _));exact BK112.out)) : gb112 ≠ gb113));have n9_ := Aside0.mk ((by rw [hg];exact Nat.ne_of_gt (q0y (g := gb112) (o := .cells #[.bool a1_0,.slice A1_1 l1_1.length c1_1] 29 (0,0)) (by (with_reducible repeat (first | refine q0b ?_ _ | refine q0c ?_ | refine q0a ?_ _));exact BK112.out)) : gb113 ≠ gb112));clear BK111;clear BK112;clear HB;have BK111 := n0_;have BK112 := n1_;have HB := n2_;have BK113 := n3_;have GW113 := n4_;have GE113 := n5_;have NB111_113 := n6_;have NB113_111 := n7_;have NB112_113 := n8_;have NB113_112 := n9_;clear n0_ n1_ n2_ n3_ n4_ n5_ n6_ n7_ n8_ n9_;clear hb hbox hg;have hnb24 := NB111_112.out;have hnc24 := NB112_111.out;have hnb25 := NB111_113.out;have hnc25 := NB113_111.out;have hcz26_0 : w23.cell? ⟨gb111,0,none⟩ = some (.bool a0_0) := (q0i BK111.out 0).trans rfl;have hcz26_1 : w23.cell? ⟨gb111,1,none⟩ = some (.slice A0_1 l0_1.length c0_1) := (q0i BK111.out 1).trans rfl;have hfz26_0 := q0k BK111.out 0;have hfz26_1 := q0k BK111.out 1;have hnb27 := NB112_113.out;have hnc27 := NB113_112.out;have hcz28_0 : w23.cell? ⟨gb112,0,none⟩ = some (.bool a1_0) := (q0i BK112.out 0).trans rfl;have hcz28_1 : w23.cell? ⟨gb112,1,none⟩ = some (.slice A1_1 l1_1.length c1_1) := (q0i BK112.out 1).trans rfl;have hfz28_0 := q0k BK112.out 0;have hfz28_1 := q0k BK112.out 1) | ((with_reducible refine q00 (f := 59) rfl ?_);refine goesL_ (some 20) rfl rfl Try.func59 (by kernel_rfl) rfl #[.agg #[.bool a0_0,.slice A0_1 l0_1.length c0_1],.agg #[.bool a1_0,.slice A1_1 l1_1.length c1_1]] rfl (by (try simp only [List.map_toArray,List.map_cons,List.map_nil]);first | done | rfl | (simp only [List.length_drop,List.length_take];rfl)) ?_;(with_reducible refine (verdererref03_less.calls k a0_0 _ _ l0_1 a1_0 _ _ l1_1 false _ ?side1 ?side2 ?side3 ?side4 A4.out).mono ?_);(case side1 => repeat (first | exact (Kd.C_below HR0_1.out HB.out) | (with_reducible refine Kd.C_alloc ?_ _) | (with_reducible refine Kd.C_drewN ?_ _) | (with_reducible refine Kd.C_drew ?_)));(case side2 => exact HC0_1.out);(case side3 => repeat (first | exact (Kd.C_below HR1_1.out HB.out) | (with_reducible refine Kd.C_alloc ?_ _) | (with_reducible refine Kd.C_drewN ?_ _) | (with_reducible refine Kd.C_drew ?_)));(case side4 => exact HC1_1.out);rintro e w29 ⟨rfl,hb⟩;refine ⟨_,rfl,?_⟩;have n0_ := Aside0.mk (q0q (g := gb111) (o := .cells #[.bool a0_0,.slice A0_1 l0_1.length c0_1] 29 (0,0)) (by (with_reducible repeat (first | refine q0b ?_ _ | refine q0c ?_ | refine q0a ?_ _));exact BK111.out) hb);have n1_ := Aside0.mk (q0q (g := gb112) (o := .cells #[.bool a1_0,.slice A1_1 l1_1.length c1_1] 29 (0,0)) (by (with_reducible repeat (first | refine q0b ?_ _ | refine q0c ?_ | refine q0a ?_ _));exact BK112.out) hb);have n2_ := Aside0.mk (q0q (g := gb113) (o := .cells #[.bool false,.slice none 0 0] 29 (0,0)) (by (with_reducible repeat (first | refine q0b ?_ _ | refine q0c ?_ | refine q0a ?_ _));exact BK113.out) hb);have n3_ := Aside0.mk (q0s (by repeat (first | (with_reducible first | exact HB.out | apply q0h | apply q0d | apply q0f | refine q0g ?_ GE111.out | refine q0g ?_ GE112.out | refine q0g ?_ GE113.out) | exact HB.out)) hb);clear BK111;clear BK112;clear BK113;clear HB;have BK111 := n0_;have BK112 := n1_;have BK113 := n2_;have HB := n3_;clear n0_ n1_ n2_ n3_;(try clear hb);(try clear hb2);(try clear hk);(try clear hi);have hcz30_0 : w29.cell? ⟨gb111,0,none⟩ = some (.bool a0_0) := (q0i BK111.out 0).trans rfl;have hcz30_1 : w29.cell? ⟨gb111,1,none⟩ = some (.slice A0_1 l0_1.length c0_1) := (q0i BK111.out 1).trans rfl;have hfz30_0 := q0k BK111.out 0;have hfz30_1 := q0k BK111.out 1) | ((with_reducible refine gate_dst (N := 5) rfl ?_);refine q03 ?hg (N := 5) ?hd (cs := #[.bool false,.slice none 0 0]) (t := 29) ?hr ?_;(case hd => rfl);(case hg => rfl);(case hr => first | (go_simp;done) | (go_simp;rfl));intro gb119 hg w31 hbox hb;have n0_ := Aside0.mk (q0q (g := gb111) (o := .cells #[.bool a0_0,.slice A0_1 l0_1.length c0_1] 29 (0,0)) (by (with_reducible repeat (first | refine q0b ?_ _ | refine q0c ?_ | refine q0a ?_ _));exact BK111.out) hb);have n1_ := Aside0.mk (q0q (g := gb112) (o := .cells #[.bool a1_0,.slice A1_1 l1_1.length c1_1] 29 (0,0)) (by (with_reducible repeat (first | refine q0b ?_ _ | refine q0c ?_ | refine q0a ?_ _));exact BK112.out) hb);have n2_ := Aside0.mk (q0q (g := gb113) (o := .cells #[.bool false,.slice none 0 0] 29 (0,0)) (by (with_reducible repeat (first | refine q0b ?_ _ | refine q0c ?_ | refine q0a ?_ _));exact BK113.out) hb);have n3_ := Aside0.mk (q0s (by repeat (first | (with_reducible first | exact HB.out | apply q0h | apply q0d | apply q0f | refine q0g ?_ GE111.out | refine q0g ?_ GE112.out | refine q0g ?_ GE113.out) | exact HB.out)) hb);have n4_ := Aside0.mk (hbox);have n5_ := Aside0.mk ((by rw [hg];exact (q0p (by repeat (first | (with_reducible first | exact HB.out | apply q0h | apply q0d | apply q0f | refine q0g ?_ GE111.out | refine q0g ?_ GE112.out | refine q0g ?_ GE113.out) | exact HB.out))) : w.heap.size ≤ gb119));have n6_ := Aside0.mk ((by rw [hg];exact (q0p (by repeat (first | (with_reducible first | exact HB.out | apply q0h | apply q0d | apply q0f | refine q0g ?_ GE111.out | refine q0g ?_ GE112.out | refine q0g ?_ GE113.out) | exact HB.out))) : w.heap.size ≤ gb119));have n7_ := Aside0.mk ((by rw [hg];exact Nat.ne_of_lt (q0y (g := gb111) (o := .cells #[.bool a0_0,.slice A0_1 l0_1.length c0_1] 29 (0,0)) (by (with_reducible repeat (first | refine q0b ?_ _ | refine q0c ?_ | refine q0a ?_ _));exact BK111.out)) : gb111 ≠ gb119));have n8_ := Aside0.mk ((by rw [hg];exact Nat.ne_of_gt (q0y (g := gb111) (o := .cells #[.bool a0_0,.slice A0_1 l0_1.length c0_1] 29 (0,0)) (by (with_reducible repeat (first | refine q0b ?_ _ | refine q0c ?_ | refine q0a ?_ _));exact BK111.out)) : gb119 ≠ gb111));have n9_ := Aside0.mk ((by rw [hg];exact Nat.ne_of_lt (q0y (g := gb112) (o := .cells #[.bool a1_0,.slice A1_1 l1_1.length c1_1] 29 (0,0)) (by (with_reducible repeat (first | refine q0b ?_ _ | refine q0c ?_ | refine q0a ?_ _));exact BK112.out)) : gb112 ≠ gb119));have n10_ := Aside0.mk ((by rw [hg];exact Nat.ne_of_gt (q0y (g := gb112) (o := .cells #[.bool a1_0,.slice A1_1 l1_1.length c1_1] 29 (0,0)) (by (with_reducible repeat (first | refine q0b ?_ _ | refine q0c ?_ | refine q0a ?_ _));exact BK112.out)) : gb119 ≠ gb112));have n11_ := Aside0.mk ((by rw [hg];exact Nat.ne_of_lt (q0y (g := gb113) (o := .cells #[.bool false,.slice none 0 0] 29 (0,0)) (by (with_reducible repeat (first | refine q0b ?_ _ | refine q0c ?_ | refine q0a ?_ _));exact BK113.out)) : gb113 ≠ gb119));have n12_ := Aside0.mk ((by rw [hg];exact Nat.ne_of_gt (q0y (g := gb113) (o := .cells #[.bool false,.slice none 0 0] 29 (0,0)) (by (with_reducible repeat (first | refine q0b ?_ _ | refine q0c ?_ | refine q0a ?_ _));exact BK113.out)) : gb119 ≠ gb113));clear BK111;clear BK112;clear BK113;clear HB;have BK111 := n0_;have BK112 := n1_;have BK113 := n2_;have HB := n3_;have BK119 := n4_;have GW119 := n5_;have GE119 := n6_;have NB111_119 := n7_;have NB119_111 := n8_;have NB112_119 := n9_;have NB119_112 := n10_;have NB113_119 := n11_;have NB119_113 := n12_;clear n0_ n1_ n2_ n3_ n4_ n5_ n6_ n7_ n8_ n9_ n10_ n11_ n12_;clear hb hbox hg;have hnb32 := NB119_111.out;have hnc32 := NB111_119.out;have hnb33 := NB119_112.out;have hnc33 := NB112_119.out;have hnb34 := NB119_113.out;have hnc34 := NB113_119.out;have hcz35_0 : w31.cell? ⟨gb119,0,none⟩ = some (.bool false) := (q0i BK119.out 0).trans rfl;have hcz35_1 : w31.cell? ⟨gb119,1,none⟩ = some (.slice none 0 0) := (q0i BK119.out 1).trans rfl;have hfz35_0 := q0k BK119.out 0;have hfz35_1 := q0k BK119.out 1))
   go_loopg [6,7] k (fun kq v6 v7 w' => ∃ (x6_1 : Int) (x7_1 : Int) (x120001_1 : List Int) (u120001 : Value),v6 = .int .u64 x6_1 ∧ v7 = .int .i64 x7_1 ∧ Aside0 (verdererref03_Plus.l0 kq x6_1 x7_1 a0_0 l0_1 a1_0 l1_1 a0_0 x120001_1 = some (r1,r2)) ∧ Aside0 (kq ≤ k) ∧ Aside0 (Kd.R (Kd.int .u64) 96 w' w.heap.size (fun _ => True) u120001 x120001_1) ∧ Aside0 (w'.heap[gb111]? = some (.cells #[.bool a0_0,(.slice A0_1 l0_1.length c0_1)] 29 (0,0))) ∧ Aside0 (w'.heap[gb112]? = some (.cells #[.bool a1_0,(.slice A1_1 l1_1.length c1_1)] 29 (0,0))) ∧ Aside0 (w'.heap[gb113]? = some (.cells #[.bool false,(.slice none 0 0)] 29 (0,0))) ∧ Aside0 (w'.heap[gb119]? = some (.cells #[.bool a0_0,u120001] 29 (0,0))) ∧ Aside0 (Below w.heap.size w w'))
   case atStart => exact ⟨(0),(0),(([] : List Int)),(.slice none 0 0),(by first | rfl | (simp;done) | (simp [*];done)),(by first | rfl | (simp;done) | (simp [*];done)),H',⟨Nat.le_refl _⟩,⟨by first | exact Kd.R_nil _ _ _ _ _ | exact Kd.N_nil _ _ _ _ _ | exact Kd.V_nil _ _ _ _ _ | exact Kd.Q_nil _ _ _ _ _ | exact Kd.S_nil _ _ _ _ _⟩,⟨by (with_reducible repeat (first | refine q0b ?_ _ | refine q0c ?_ | refine q0a ?_ _));refine q0u ?_ NB111_119.out _;(with_reducible repeat (first | refine q0b ?_ _ | refine q0c ?_ | refine q0a ?_ _));refine q0u ?_ NB111_119.out _;(with_reducible repeat (first | refine q0b ?_ _ | refine q0c ?_ | refine q0a ?_ _));exact BK111.out⟩,⟨by (with_reducible repeat (first | refine q0b ?_ _ | refine q0c ?_ | refine q0a ?_ _));refine q0u ?_ NB112_119.out _;(with_reducible repeat (first | refine q0b ?_ _ | refine q0c ?_ | refine q0a ?_ _));refine q0u ?_ NB112_119.out _;(with_reducible repeat (first | refine q0b ?_ _ | refine q0c ?_ | refine q0a ?_ _));exact BK112.out⟩,⟨by (with_reducible repeat (first | refine q0b ?_ _ | refine q0c ?_ | refine q0a ?_ _));refine q0u ?_ NB113_119.out _;(with_reducible repeat (first | refine q0b ?_ _ | refine q0c ?_ | refine q0a ?_ _));refine q0u ?_ NB113_119.out _;(with_reducible repeat (first | refine q0b ?_ _ | refine q0c ?_ | refine q0a ?_ _));exact BK113.out⟩,⟨by (with_reducible repeat (first | refine q0b ?_ _ | refine q0c ?_ | refine q0a ?_ _));refine q0t (cs := #[.bool a0_0,.slice none 0 0]) ?_ 1 _ rfl;(with_reducible repeat (first | refine q0b ?_ _ | refine q0c ?_ | refine q0a ?_ _));refine q0t (cs := #[.bool false,.slice none 0 0]) ?_ 0 _ rfl;(with_reducible repeat (first | refine q0b ?_ _ | refine q0c ?_ | refine q0a ?_ _));exact BK119.out⟩,⟨by repeat (first | (with_reducible first | exact HB.out | apply q0h | apply q0d | apply q0f | refine q0g ?_ GE111.out | refine q0g ?_ GE112.out | refine q0g ?_ GE113.out | refine q0g ?_ GE119.out) | exact HB.out)⟩⟩
   case round =>
    clear H'
    try clear c1
    try clear c2
    try clear p2
    try clear c3
    try clear c3b0
    try clear c3b1
    try clear c3b2
    try clear c5
    try clear c10
    try clear c11
    try clear c13
    try clear c16
    try clear c24
    try clear c25
    try clear c27
    try clear c32
    try clear c33
    try clear c34
    try clear hcz12_0
    try clear hcz12_1
    try clear hcz14_0
    try clear hcz14_1
    try clear hcz16_0
    try clear hcz16_1
    try clear hcz17_0
    try clear hcz17_1
    try clear hcz19_0
    try clear hcz19_1
    try clear hcz26_0
    try clear hcz26_1
    try clear hcz28_0
    try clear hcz28_1
    try clear hcz30_0
    try clear hcz30_1
    try clear hcz35_0
    try clear hcz35_1
    try clear hfz12_0
    try clear hfz12_1
    try clear hfz14_0
    try clear hfz14_1
    try clear hfz16_0
    try clear hfz16_1
    try clear hfz17_0
    try clear hfz17_1
    try clear hfz19_0
    try clear hfz19_1
    try clear hfz26_0
    try clear hfz26_1
    try clear hfz28_0
    try clear hfz28_1
    try clear hfz30_0
    try clear hfz30_1
    try clear hfz35_0
    try clear hfz35_1
    obtain ⟨x6_1,x7_1,x120001_1,u120001,rfl,rfl,HA,HK1,HO_120001,BK111,BK112,BK113,BK119,HB⟩ := hrel
    cases gk with
    | zero => exact absurd HA.out (by simp [verdererref03_Plus.l0])
    | succ k1 =>
     have H := HA.out
     clear HA
     simp only [verdererref03_Plus.l0] at H
     by_cases c36 : x7_1 < 20
     ·rw [if_pos c36] at H
      have c36b0 : decide (x7_1 < 20) = true := decide_eq_true c36
      clear c36
      replace H := Option.bind_eq_some_iff.mp H
      obtain ⟨t120,A370,H⟩ := H
      replace H : ((verdererref03_Big_at.f a1_0 l1_1 x7_1).bind fun t121 => (if x120001_1.length < 17592186044416 then (verdererref03_Plus.l0 k1 (IntKind.u64.wrap (1 - (IntKind.u64.wrap (Int.tdiv (IntKind.u64.wrap ((IntKind.u64.wrap ((IntKind.u64.wrap (t120 + 65536)) - t121)) - x6_1)) 65536)))) (wrap64 (x7_1 + 1)) a0_0 l0_1 a1_0 l1_1 a0_0 (x120001_1 ++ [Int.tmod (IntKind.u64.wrap ((IntKind.u64.wrap ((IntKind.u64.wrap (t120 + 65536)) - t121)) - x6_1)) 65536])) else (none))) = some (r1,r2) := H
      have A37 := Aside0.mk A370
      clear A370
      replace H := Option.bind_eq_some_iff.mp H
      obtain ⟨t121,A380,H⟩ := H
      replace H : (if x120001_1.length < 17592186044416 then (verdererref03_Plus.l0 k1 (IntKind.u64.wrap (1 - (IntKind.u64.wrap (Int.tdiv (IntKind.u64.wrap ((IntKind.u64.wrap ((IntKind.u64.wrap (t120 + 65536)) - t121)) - x6_1)) 65536)))) (wrap64 (x7_1 + 1)) a0_0 l0_1 a1_0 l1_1 a0_0 (x120001_1 ++ [Int.tmod (IntKind.u64.wrap ((IntKind.u64.wrap ((IntKind.u64.wrap (t120 + 65536)) - t121)) - x6_1)) 65536])) else (none)) = some (r1,r2) := H
      have A38 := Aside0.mk A380
      clear A380
      by_cases c39 : x120001_1.length < 17592186044416
      ·rw [if_pos c39] at H
       have LMc39 := Aside0.mk c39
       clear c39
       obtain ⟨y122,hy122⟩ : ∃ y_ : List Int,y_ = (x120001_1 ++ [Int.tmod (IntKind.u64.wrap ((IntKind.u64.wrap ((IntKind.u64.wrap (t120 + 65536)) - t121)) - x6_1)) 65536]) := ⟨_,rfl⟩
       replace H : (verdererref03_Plus.l0 k1 (IntKind.u64.wrap (1 - (IntKind.u64.wrap (Int.tdiv (IntKind.u64.wrap ((IntKind.u64.wrap ((IntKind.u64.wrap (t120 + 65536)) - t121)) - x6_1)) 65536)))) (wrap64 (x7_1 + 1)) a0_0 l0_1 a1_0 l1_1 a0_0 y122) = some (r1,r2) := by first | (rw [hy122];with_reducible exact H) | (have H2_ := (Option.bind_some _ _).symm.trans H;rw [hy122];with_reducible exact H2_) | (have H2_ := (Option.bind_some _ _).symm.trans H;with_reducible exact H2_) | with_reducible exact H | (rw [hy122];exact H) | exact H
       have Ny122 := Aside0.mk hy122
       clear hy122
       have H' := Aside0.mk H
       clear H
       try go_wp2
       have n0_ := Aside0.mk (Kd.q0o HO_120001.out)
       have n1_ := Aside0.mk (q0c BK111.out)
       have n2_ := Aside0.mk (q0c BK112.out)
       have n3_ := Aside0.mk (q0c BK113.out)
       have n4_ := Aside0.mk (q0c BK119.out)
       have n5_ := Aside0.mk (q0f HB.out)
       clear HO_120001
       clear BK111
       clear BK112
       clear BK113
       clear BK119
       clear HB
       have HO_120001 := n0_
       have BK111 := n1_
       have BK112 := n2_
       have BK113 := n3_
       have BK119 := n4_
       have HB := n5_
       clear n0_ n1_ n2_ n3_ n4_ n5_
       refine start_ (n := 11) (S := fun w' => w'.cell? ⟨gb111,0,none⟩ = some (.bool a0_0) ∧ w'.cell? ⟨gb111,1,none⟩ = some (.slice A0_1 l0_1.length c0_1) ∧ w'.cell? ⟨gb112,0,none⟩ = some (.bool a1_0) ∧ w'.cell? ⟨gb112,1,none⟩ = some (.slice A1_1 l1_1.length c1_1)) (ds := []) #[false,false,false,false,false,false,false,false,false,false,false] (by kernel_rfl) rfl rfl ⟨(q0i BK111.out 0).trans rfl,(q0i BK111.out 1).trans rfl,(q0i BK112.out 0).trans rfl,(q0i BK112.out 1).trans rfl⟩ (fun hHeld => ?_);refine with_tabW verdererref03_Plus.tab9 verdererref03_Plus.bits9 (fun HT_ HW_ => ?_)
       generalize wr.drew = w40 at HO_120001 BK111 BK112 BK113 BK119 HB hHeld ⊢
       refine pure_ (i := 1) (N := some 32) (v := ?_) (a' := ?_) #[false,true,false,false,false,false,false,false,false,false,false] rfl rfl (q0r HT_.out (by kernel_rfl)) (fun _ _ _ h => h) (Or.inl ⟨by rfl,?_⟩) ?_ ?_
       rotate_left
       ·intro w'
        go_simp
        with_reducible rfl
       rotate_left
       ·simp only [Act.put,zA,zB,zC,i64_w,i32_w]
        rfl
       refine pure_ (i := 5) (N := some 36) (v := ?_) (a' := ?_) #[false,true,false,false,false,true,false,false,false,false,false] rfl rfl (q0r HT_.out (by kernel_rfl)) (fun _ _ _ h => h) (Or.inl ⟨by rfl,?_⟩) ?_ ?_
       rotate_left
       ·intro w'
        go_simp
        with_reducible rfl
       rotate_left
       ·simp only [Act.put,zA,zB,zC,i64_w,i32_w]
        rfl
       refine pure_ (i := 8) (N := some 39) (v := ?_) (a' := ?_) #[false,true,false,false,false,true,false,false,true,false,false] rfl rfl (q0r HT_.out (by kernel_rfl)) (fun _ _ _ h => h) (Or.inl ⟨by rfl,?_⟩) ?_ ?_
       rotate_left
       ·intro w'
        go_simp
        with_reducible rfl
       rotate_left
       ·simp only [Act.put,zA,zB,zC,i64_w,i32_w]
        rfl
       refine take_ (i := 0) (N := some 31) (v := ?_) (a' := ?_) #[true,true,false,false,false,true,false,false,true,false,false] rfl rfl (take_ofW HT_.out HW_.out (by kernel_rfl)) (fun _ _ _ h => h) (Or.inl ⟨by rfl,?_⟩) hHeld ?_ ?_
       rotate_left
       ·rintro w' ⟨s0,s1,s2,s3⟩
        go_simp
        with_reducible rfl
       rotate_left
       ·simp only [Act.put,zA,zB,zC,i64_w,i32_w]
        rfl
       refine take_ (i := 4) (N := some 35) (v := ?_) (a' := ?_) #[true,true,false,false,true,true,false,false,true,false,false] rfl rfl (take_ofW HT_.out HW_.out (by kernel_rfl)) (fun _ _ _ h => h) (Or.inl ⟨by rfl,?_⟩) hHeld ?_ ?_
       rotate_left
       ·rintro w' ⟨s0,s1,s2,s3⟩
        go_simp
        with_reducible rfl
       rotate_left
       ·simp only [Act.put,zA,zB,zC,i64_w,i32_w]
        rfl
       refine one_ (i := 2) (N := some 33) #[true,true,true,false,true,true,false,false,true,false,false] rfl rfl (one_of HT_.out (by kernel_rfl)) (by decide) (fun K hK => ?_)
       refine goes_ Try.func60 (by kernel_rfl) rfl #[.agg #[.bool a0_0,.slice A0_1 l0_1.length c0_1],.int .i64 x7_1] (by rfl) rfl rfl (by (try simp only [List.map_toArray,List.map_cons,List.map_nil]);first | done | rfl | (simp only [List.length_drop,List.length_take];rfl)) ?_
       with_reducible refine (verdererref03_Big_at.calls a0_0 _ _ l0_1 x7_1 t120 _ ?side1 ?side2 A37.out).mono ?_
       (case side1 => repeat (first | exact (Kd.C_below HR0_1.out HB.out) | (with_reducible refine Kd.C_alloc ?_ _) | (with_reducible refine Kd.C_drewN ?_ _) | (with_reducible refine Kd.C_drew ?_)))
       (case side2 => exact HC0_1.out)
       rintro e w41 ⟨rfl,hb⟩
       refine ⟨_,rfl,?_⟩
       have n0_ := Aside0.mk (Kd.q0v (by (with_reducible repeat (first | apply Kd.q0m | apply Kd.q0n | apply Kd.q0o));exact HO_120001.out) hb)
       have n1_ := Aside0.mk (q0q (g := gb111) (o := .cells #[.bool a0_0,.slice A0_1 l0_1.length c0_1] 29 (0,0)) (by (with_reducible repeat (first | refine q0b ?_ _ | refine q0c ?_ | refine q0a ?_ _));exact BK111.out) hb)
       have n2_ := Aside0.mk (q0q (g := gb112) (o := .cells #[.bool a1_0,.slice A1_1 l1_1.length c1_1] 29 (0,0)) (by (with_reducible repeat (first | refine q0b ?_ _ | refine q0c ?_ | refine q0a ?_ _));exact BK112.out) hb)
       have n3_ := Aside0.mk (q0q (g := gb113) (o := .cells #[.bool false,.slice none 0 0] 29 (0,0)) (by (with_reducible repeat (first | refine q0b ?_ _ | refine q0c ?_ | refine q0a ?_ _));exact BK113.out) hb)
       have n4_ := Aside0.mk (q0q (g := gb119) (o := .cells #[.bool a0_0,u120001] 29 (0,0)) (by (with_reducible repeat (first | refine q0b ?_ _ | refine q0c ?_ | refine q0a ?_ _));exact BK119.out) hb)
       have n5_ := Aside0.mk (q0s (by repeat (first | (with_reducible first | exact HB.out | apply q0h | apply q0d | apply q0f | refine q0g ?_ GE111.out | refine q0g ?_ GE112.out | refine q0g ?_ GE113.out | refine q0g ?_ GE119.out) | exact HB.out)) hb)
       clear HO_120001
       clear BK111
       clear BK112
       clear BK113
       clear BK119
       clear HB
       have HO_120001 := n0_
       have BK111 := n1_
       have BK112 := n2_
       have BK113 := n3_
       have BK119 := n4_
       have HB := n5_
       clear n0_ n1_ n2_ n3_ n4_ n5_
       (try clear hb)
       (try clear hb2)
       (try clear hk)
       (try clear hi)
       refine hK.out _ _ ⟨(q0i BK111.out 0).trans rfl,(q0i BK111.out 1).trans rfl,(q0i BK112.out 0).trans rfl,(q0i BK112.out 1).trans rfl⟩ (fun hHeld => ?_)
       clear hK K
       refine norm_ (a' := ?_) ?_ ?_
       rotate_left
       ·show Act.put _ (some 33) _ = _
        simp only [Act.put,zA,zB,zC,i64_w,i32_w]
        rfl
       refine pure_ (i := 3) (N := some 34) (v := ?_) (a' := ?_) #[true,true,true,true,true,true,false,false,true,false,false] rfl rfl (q0r HT_.out (by kernel_rfl)) (fun _ _ _ h => h) (Or.inl ⟨by rfl,?_⟩) ?_ ?_
       rotate_left
       ·intro w'
        go_simp
        with_reducible rfl
       rotate_left
       ·simp only [Act.put,zA,zB,zC,i64_w,i32_w]
        rfl
       refine one_ (i := 6) (N := some 37) #[true,true,true,true,true,true,true,false,true,false,false] rfl rfl (one_of HT_.out (by kernel_rfl)) (by decide) (fun K hK => ?_)
       refine goes_ Try.func60 (by kernel_rfl) rfl #[.agg #[.bool a1_0,.slice A1_1 l1_1.length c1_1],.int .i64 x7_1] (by rfl) rfl rfl (by (try simp only [List.map_toArray,List.map_cons,List.map_nil]);first | done | rfl | (simp only [List.length_drop,List.length_take];rfl)) ?_
       with_reducible refine (verdererref03_Big_at.calls a1_0 _ _ l1_1 x7_1 t121 _ ?side1 ?side2 A38.out).mono ?_
       (case side1 => repeat (first | exact (Kd.C_below HR1_1.out HB.out) | (with_reducible refine Kd.C_alloc ?_ _) | (with_reducible refine Kd.C_drewN ?_ _) | (with_reducible refine Kd.C_drew ?_)))
       (case side2 => exact HC1_1.out)
       rintro e w42 ⟨rfl,hb⟩
       refine ⟨_,rfl,?_⟩
       have n0_ := Aside0.mk (Kd.q0v (by (with_reducible repeat (first | apply Kd.q0m | apply Kd.q0n | apply Kd.q0o));exact HO_120001.out) hb)
       have n1_ := Aside0.mk (q0q (g := gb111) (o := .cells #[.bool a0_0,.slice A0_1 l0_1.length c0_1] 29 (0,0)) (by (with_reducible repeat (first | refine q0b ?_ _ | refine q0c ?_ | refine q0a ?_ _));exact BK111.out) hb)
       have n2_ := Aside0.mk (q0q (g := gb112) (o := .cells #[.bool a1_0,.slice A1_1 l1_1.length c1_1] 29 (0,0)) (by (with_reducible repeat (first | refine q0b ?_ _ | refine q0c ?_ | refine q0a ?_ _));exact BK112.out) hb)
       have n3_ := Aside0.mk (q0q (g := gb113) (o := .cells #[.bool false,.slice none 0 0] 29 (0,0)) (by (with_reducible repeat (first | refine q0b ?_ _ | refine q0c ?_ | refine q0a ?_ _));exact BK113.out) hb)
       have n4_ := Aside0.mk (q0q (g := gb119) (o := .cells #[.bool a0_0,u120001] 29 (0,0)) (by (with_reducible repeat (first | refine q0b ?_ _ | refine q0c ?_ | refine q0a ?_ _));exact BK119.out) hb)
       have n5_ := Aside0.mk (q0s (by repeat (first | (with_reducible first | exact HB.out | apply q0h | apply q0d | apply q0f | refine q0g ?_ GE111.out | refine q0g ?_ GE112.out | refine q0g ?_ GE113.out | refine q0g ?_ GE119.out) | exact HB.out)) hb)
       clear HO_120001
       clear BK111
       clear BK112
       clear BK113
       clear BK119
       clear HB
       have HO_120001 := n0_
       have BK111 := n1_
       have BK112 := n2_
       have BK113 := n3_
       have BK119 := n4_
       have HB := n5_
       clear n0_ n1_ n2_ n3_ n4_ n5_
       (try clear hb)
       (try clear hb2)
       (try clear hk)
       (try clear hi)
       refine hK.out _ _ ⟨(q0i BK111.out 0).trans rfl,(q0i BK111.out 1).trans rfl,(q0i BK112.out 0).trans rfl,(q0i BK112.out 1).trans rfl⟩ (fun hHeld => ?_)
       clear hK K
       refine norm_ (a' := ?_) ?_ ?_
       rotate_left
       ·show Act.put _ (some 37) _ = _
        simp only [Act.put,zA,zB,zC,i64_w,i32_w]
        rfl
       refine pure_ (i := 7) (N := some 38) (v := ?_) (a' := ?_) #[true,true,true,true,true,true,true,true,true,false,false] rfl rfl (q0r HT_.out (by kernel_rfl)) (fun _ _ _ h => h) (Or.inl ⟨by rfl,?_⟩) ?_ ?_
       rotate_left
       ·intro w'
        go_simp
        with_reducible rfl
       rotate_left
       ·simp only [Act.put,zA,zB,zC,i64_w,i32_w]
        rfl
       refine pure_ (i := 9) (N := some 40) (v := ?_) (a' := ?_) #[true,true,true,true,true,true,true,true,true,true,false] rfl rfl (q0r HT_.out (by kernel_rfl)) (fun _ _ _ h => h) (Or.inl ⟨by rfl,?_⟩) ?_ ?_
       rotate_left
       ·intro w'
        go_simp
        with_reducible rfl
       rotate_left
       ·simp only [Act.put,zA,zB,zC,i64_w,i32_w]
        rfl
       refine pure_ (i := 10) (N := some 8) (v := ?_) (a' := ?_) #[true,true,true,true,true,true,true,true,true,true,true] rfl rfl (q0r HT_.out (by kernel_rfl)) (fun _ _ _ h => h) (Or.inl ⟨by rfl,?_⟩) ?_ ?_
       rotate_left
       ·intro w'
        go_simp
        with_reducible rfl
       rotate_left
       ·simp only [Act.put,zA,zB,zC,i64_w,i32_w]
        rfl
       refine done_ (done_of HT_.out (by kernel_rfl)) ?_
       have hnb43 := NB119_111.out
       have hnc43 := NB111_119.out
       have hnb44 := NB119_112.out
       have hnc44 := NB112_119.out
       have hnb45 := NB119_113.out
       have hnc45 := NB113_119.out
       have hcz46_0 : w42.cell? ⟨gb119,0,none⟩ = some (.bool a0_0) := (q0i BK119.out 0).trans rfl
       have hcz46_1 : w42.cell? ⟨gb119,1,none⟩ = some (u120001) := (q0i BK119.out 1).trans rfl
       have hfz46_0 := q0k BK119.out 0
       have hfz46_1 := q0k BK119.out 1
       try go_wp2_with (first | ((with_reducible refine gate_builtin (b := .append) (xs := #[.tmp 42,.tmp 45]) rfl ?_);at_builtin;refine Kd.R_append (Kd.int .u64) (w0 := w) w.heap.size rfl (.tmp 42) (.tmp 45) 27 96 (.int .u64 0) 8 rfl Try.underlying27 info96 rfl (by decide) (by omega) u120001 x120001_1 (Int.tmod (IntKind.u64.wrap ((IntKind.u64.wrap ((IntKind.u64.wrap (t120 + 65536)) - t121)) - x6_1)) 65536) [.int .u64 (Int.tmod (IntKind.u64.wrap ((IntKind.u64.wrap ((IntKind.u64.wrap (t120 + 65536)) - t121)) - x6_1)) 65536)] (fun _ => True) (fun _ => False) rfl rfl ?aP (fun _ hk => hk.elim) ?aF ?aO ?aB ?aS ?aL ?_;(case aP => exact rfl);(case aB => exact (by repeat (first | (with_reducible first | exact HB.out | apply q0h | apply q0d | apply q0f | refine q0g ?_ GE111.out | refine q0g ?_ GE112.out | refine q0g ?_ GE113.out | refine q0g ?_ GE119.out) | exact HB.out)));(case aF => exact (fun _ _ => trivial));(case aO => exact (by (with_reducible repeat (first | apply Kd.q0m | apply Kd.q0n | apply Kd.q0o));exact HO_120001.out));(case aS => exact (q0p (by repeat (first | (with_reducible first | exact HB.out | apply q0h | apply q0d | apply q0f | refine q0g ?_ GE111.out | refine q0g ?_ GE112.out | refine q0g ?_ GE113.out | refine q0g ?_ GE119.out) | exact HB.out))));(case aL => have := LMc39.out;omega);intro v123 w47 ho hb hg hat;rw [← Ny122.out] at ho;have n0_ := Aside0.mk (blk_grown (g := gb111) (o := .cells #[.bool a0_0,.slice A0_1 l0_1.length c0_1] 29 (0,0)) (by (with_reducible repeat (first | refine q0b ?_ _ | refine q0c ?_ | refine q0a ?_ _));exact BK111.out) hg (Kd.R_ne HO_120001.out BK111.out (by decide)));have n1_ := Aside0.mk (blk_grown (g := gb112) (o := .cells #[.bool a1_0,.slice A1_1 l1_1.length c1_1] 29 (0,0)) (by (with_reducible repeat (first | refine q0b ?_ _ | refine q0c ?_ | refine q0a ?_ _));exact BK112.out) hg (Kd.R_ne HO_120001.out BK112.out (by decide)));have n2_ := Aside0.mk (blk_grown (g := gb113) (o := .cells #[.bool false,.slice none 0 0] 29 (0,0)) (by (with_reducible repeat (first | refine q0b ?_ _ | refine q0c ?_ | refine q0a ?_ _));exact BK113.out) hg (Kd.R_ne HO_120001.out BK113.out (by decide)));have n3_ := Aside0.mk (blk_grown (g := gb119) (o := .cells #[.bool a0_0,u120001] 29 (0,0)) (by (with_reducible repeat (first | refine q0b ?_ _ | refine q0c ?_ | refine q0a ?_ _));exact BK119.out) hg (Kd.R_ne HO_120001.out BK119.out (by decide)));have n4_ := Aside0.mk (hb);have n5_ := Aside0.mk (ho);clear BK111;clear BK112;clear BK113;clear BK119;clear HB;clear HO_120001;have BK111 := n0_;have BK112 := n1_;have BK113 := n2_;have BK119 := n3_;have HB := n4_;have HO124 := n5_;clear n0_ n1_ n2_ n3_ n4_ n5_;clear ho hb hg hat;obtain ⟨Ao48,co48,eo48⟩ := Kd.R_slice HO124.out;subst eo48;have hcz49_0 : w47.cell? ⟨gb119,0,none⟩ = some (.bool a0_0) := (q0i BK119.out 0).trans rfl;have hcz49_1 : w47.cell? ⟨gb119,1,none⟩ = some (u120001) := (q0i BK119.out 1).trans rfl;have hfz49_0 := q0k BK119.out 0;have hfz49_1 := q0k BK119.out 1))
       go_roundg k1
       case measure => have := HK1.out;omega
       case rel => exact ⟨(IntKind.u64.wrap (1 - (IntKind.u64.wrap (Int.tdiv (IntKind.u64.wrap ((IntKind.u64.wrap ((IntKind.u64.wrap (t120 + 65536)) - t121)) - x6_1)) 65536)))),(wrap64 (x7_1 + 1)),(y122),(.slice Ao48 y122.length co48),(by first | rfl | (simp;done) | (simp [*];done)),(by first | rfl | (simp;done) | (simp [*];done)),H',⟨by have := HK1.out;omega⟩,⟨by (with_reducible repeat (first | apply Kd.q0m | apply Kd.q0n | apply Kd.q0o));exact Kd.R_mono (Kd.R_far (p := ⟨gb119,1,none⟩) (Kd.R_types HO124.out BK119.out (by decide)) (fun _ hk => hk.2) (.slice Ao48 y122.length co48)) (fun _ hk => trivial)⟩,⟨by (with_reducible repeat (first | refine q0b ?_ _ | refine q0c ?_ | refine q0a ?_ _));refine q0u ?_ NB111_119.out _;(with_reducible repeat (first | refine q0b ?_ _ | refine q0c ?_ | refine q0a ?_ _));exact BK111.out⟩,⟨by (with_reducible repeat (first | refine q0b ?_ _ | refine q0c ?_ | refine q0a ?_ _));refine q0u ?_ NB112_119.out _;(with_reducible repeat (first | refine q0b ?_ _ | refine q0c ?_ | refine q0a ?_ _));exact BK112.out⟩,⟨by (with_reducible repeat (first | refine q0b ?_ _ | refine q0c ?_ | refine q0a ?_ _));refine q0u ?_ NB113_119.out _;(with_reducible repeat (first | refine q0b ?_ _ | refine q0c ?_ | refine q0a ?_ _));exact BK113.out⟩,⟨by (with_reducible repeat (first | refine q0b ?_ _ | refine q0c ?_ | refine q0a ?_ _));refine q0t (cs := #[.bool a0_0,u120001]) ?_ 1 _ rfl;(with_reducible repeat (first | refine q0b ?_ _ | refine q0c ?_ | refine q0a ?_ _));exact BK119.out⟩,⟨by repeat (first | (with_reducible first | exact HB.out | apply q0h | apply q0d | apply q0f | refine q0g ?_ GE111.out | refine q0g ?_ GE112.out | refine q0g ?_ GE113.out | refine q0g ?_ GE119.out) | exact HB.out)⟩⟩
      ·rw [if_neg c39] at H
       exact absurd H (by simp)
     ·rw [if_neg c36] at H
      have c36b0 : decide (x7_1 < 20) = false := decide_eq_false c36
      clear c36
      simp only [Option.some.injEq,Prod.mk.injEq] at H
      obtain ⟨rfl,rfl⟩ := H
      have hnb50 := NB119_111.out
      have hnc50 := NB111_119.out
      have hnb51 := NB119_112.out
      have hnc51 := NB112_119.out
      have hnb52 := NB119_113.out
      have hnc52 := NB113_119.out
      have hcz53_0 : wr.cell? ⟨gb119,0,none⟩ = some (.bool a0_0) := (q0i BK119.out 0).trans rfl
      have hcz53_1 : wr.cell? ⟨gb119,1,none⟩ = some (u120001) := (q0i BK119.out 1).trans rfl
      have hfz53_0 := q0k BK119.out 0
      have hfz53_1 := q0k BK119.out 1
      have hnb54 := NB113_111.out
      have hnc54 := NB111_113.out
      have hnb55 := NB113_112.out
      have hnc55 := NB112_113.out
      have hcz56_0 : wr.cell? ⟨gb113,0,none⟩ = some (.bool false) := (q0i BK113.out 0).trans rfl
      have hcz56_1 : wr.cell? ⟨gb113,1,none⟩ = some (.slice none 0 0) := (q0i BK113.out 1).trans rfl
      have hfz56_0 := q0k BK113.out 0
      have hfz56_1 := q0k BK113.out 1
      obtain ⟨Ao57,co57,eo57⟩ := Kd.R_slice HO_120001.out
      subst eo57
      go_wp2
      refine bodyPost_ret (results_cell_row rfl _ _ gb113 29 #[.bool a0_0,.slice Ao57 x120001_1.length co57] (0,0) _ rfl (by (with_reducible repeat (first | refine q0b ?_ _ | refine q0c ?_ | refine q0a ?_ _));refine q0t (cs := #[.bool a0_0,.slice none 0 0]) ?_ 1 _ rfl;(with_reducible repeat (first | refine q0b ?_ _ | refine q0c ?_ | refine q0a ?_ _));refine q0t (cs := #[.bool false,.slice none 0 0]) ?_ 0 _ rfl;(with_reducible repeat (first | refine q0b ?_ _ | refine q0c ?_ | refine q0a ?_ _));exact BK113.out) Try.underlying29 rfl (by kernel_rfl)) rfl ?_
      exact ⟨_,by first | rfl | (simp [q0w,q0x] <;> rfl) | (simp [*,q0w,q0x] <;> rfl),by (with_reducible repeat (first | apply Kd.q0m | apply Kd.q0n | apply Kd.q0o));exact Kd.R_mono (Kd.R_far (p := ⟨gb113,1,none⟩) (Kd.R_far (p := ⟨gb113,0,none⟩) (Kd.R_types HO_120001.out BK113.out (by decide)) (fun _ hk => hk.2) (.bool a0_0)) (fun _ hk => hk.2) (.slice Ao57 x120001_1.length co57)) (fun _ hk => trivial),by repeat (first | (with_reducible first | exact HB.out | apply q0h | apply q0d | apply q0f | refine q0g ?_ GE111.out | refine q0g ?_ GE112.out | refine q0g ?_ GE113.out | refine q0g ?_ GE119.out) | exact HB.out)⟩
 ·rw [if_neg c3] at H
  have c3b0 : (a0_0 != a1_0) = false := by simpa using c3
  (try (have c3b1 : decide (a0_0 = a1_0) = true := by simpa using c3))
  (try (have c3b2 : (a0_0 == a1_0) = true := by simpa using c3))
  clear c3
  have H' := Aside0.mk H
  clear H
  go_enter Try.func16,Try.ntmps16
  go_wp2_with (first | ((with_reducible refine gate_dst (N := 2) rfl ?_);refine q03 ?hg (N := 2) ?hd (cs := #[.bool a0_0,.slice A0_1 l0_1.length c0_1]) (t := 29) ?hr ?_;(case hd => rfl);(case hg => rfl);(case hr => first | (go_simp;done) | (go_simp;rfl));intro gb111 hg w58 hbox hb;have n0_ := Aside0.mk (q0s (by repeat (first | (with_reducible first | exact HB.out | apply q0h | apply q0d | apply q0f) | exact HB.out)) hb);have n1_ := Aside0.mk (hbox);have n2_ := Aside0.mk ((by rw [hg];exact (q0p (by repeat (first | (with_reducible first | exact HB.out | apply q0h | apply q0d | apply q0f) | exact HB.out))) : w.heap.size ≤ gb111));have n3_ := Aside0.mk ((by rw [hg];exact (q0p (by repeat (first | (with_reducible first | exact HB.out | apply q0h | apply q0d | apply q0f) | exact HB.out))) : w.heap.size ≤ gb111));clear HB;have HB := n0_;have BK111 := n1_;have GW111 := n2_;have GE111 := n3_;clear n0_ n1_ n2_ n3_;clear hb hbox hg) | ((with_reducible refine gate_dst (N := 3) rfl ?_);refine q03 ?hg (N := 3) ?hd (cs := #[.bool a1_0,.slice A1_1 l1_1.length c1_1]) (t := 29) ?hr ?_;(case hd => rfl);(case hg => rfl);(case hr => first | (go_simp;done) | (go_simp;rfl));intro gb112 hg w59 hbox hb;have n0_ := Aside0.mk (q0q (g := gb111) (o := .cells #[.bool a0_0,.slice A0_1 l0_1.length c0_1] 29 (0,0)) (by (with_reducible repeat (first | refine q0b ?_ _ | refine q0c ?_ | refine q0a ?_ _));exact BK111.out) hb);have n1_ := Aside0.mk (q0s (by repeat (first | (with_reducible first | exact HB.out | apply q0h | apply q0d | apply q0f | refine q0g ?_ GE111.out) | exact HB.out)) hb);have n2_ := Aside0.mk (hbox);have n3_ := Aside0.mk ((by rw [hg];exact (q0p (by repeat (first | (with_reducible first | exact HB.out | apply q0h | apply q0d | apply q0f | refine q0g ?_ GE111.out) | exact HB.out))) : w.heap.size ≤ gb112));have n4_ := Aside0.mk ((by rw [hg];exact (q0p (by repeat (first | (with_reducible first | exact HB.out | apply q0h | apply q0d | apply q0f | refine q0g ?_ GE111.out) | exact HB.out))) : w.heap.size ≤ gb112));have n5_ := Aside0.mk ((by rw [hg];exact Nat.ne_of_lt (q0y (g := gb111) (o := .cells #[.bool a0_0,.slice A0_1 l0_1.length c0_1] 29 (0,0)) (by (with_reducible repeat (first | refine q0b ?_ _ | refine q0c ?_ | refine q0a ?_ _));exact BK111.out)) : gb111 ≠ gb112));have n6_ := Aside0.mk ((by rw [hg];exact Nat.ne_of_gt (q0y (g := gb111) (o := .cells #[.bool a0_0,.slice A0_1 l0_1.length c0_1] 29 (0,0)) (by (with_reducible repeat (first | refine q0b ?_ _ | refine q0c ?_ | refine q0a ?_ _));exact BK111.out)) : gb112 ≠ gb111));clear BK111;clear HB;have BK111 := n0_;have HB := n1_;have BK112 := n2_;have GW112 := n3_;have GE112 := n4_;have NB111_112 := n5_;have NB112_111 := n6_;clear n0_ n1_ n2_ n3_ n4_ n5_ n6_;clear hb hbox hg) | ((with_reducible refine gate_dst (N := 4) rfl ?_);refine q03 ?hg (N := 4) ?hd (cs := #[.bool false,.slice none 0 0]) (t := 29) ?hr ?_;(case hd => rfl);(case hg => rfl);(case hr => first | (go_simp;done) | (go_simp;rfl));intro gb113 hg w60 hbox hb;have n0_ := Aside0.mk (q0q (g := gb111) (o := .cells #[.bool a0_0,.slice A0_1 l0_1.length c0_1] 29 (0,0)) (by (with_reducible repeat (first | refine q0b ?_ _ | refine q0c ?_ | refine q0a ?_ _));exact BK111.out) hb);have n1_ := Aside0.mk (q0q (g := gb112) (o := .cells #[.bool a1_0,.slice A1_1 l1_1.length c1_1] 29 (0,0)) (by (with_reducible repeat (first | refine q0b ?_ _ | refine q0c ?_ | refine q0a ?_ _));exact BK112.out) hb);have n2_ := Aside0.mk (q0s (by repeat (first | (with_reducible first | exact HB.out | apply q0h | apply q0d | apply q0f | refine q0g ?_ GE111.out | refine q0g ?_ GE112.out) | exact HB.out)) hb);have n3_ := Aside0.mk (hbox);have n4_ := Aside0.mk ((by rw [hg];exact (q0p (by repeat (first | (with_reducible first | exact HB.out | apply q0h | apply q0d | apply q0f | refine q0g ?_ GE111.out | refine q0g ?_ GE112.out) | exact HB.out))) : w.heap.size ≤ gb113));have n5_ := Aside0.mk ((by rw [hg];exact (q0p (by repeat (first | (with_reducible first | exact HB.out | apply q0h | apply q0d | apply q0f | refine q0g ?_ GE111.out | refine q0g ?_ GE112.out) | exact HB.out))) : w.heap.size ≤ gb113));have n6_ := Aside0.mk ((by rw [hg];exact Nat.ne_of_lt (q0y (g := gb111) (o := .cells #[.bool a0_0,.slice A0_1 l0_1.length c0_1] 29 (0,0)) (by (with_reducible repeat (first | refine q0b ?_ _ | refine q0c ?_ | refine q0a ?_ _));exact BK111.out)) : gb111 ≠ gb113));have n7_ := Aside0.mk ((by rw [hg];exact Nat.ne_of_gt (q0y (g := gb111) (o := .cells #[.bool a0_0,.slice A0_1 l0_1.length c0_1] 29 (0,0)) (by (with_reducible repeat (first | refine q0b ?_ _ | refine q0c ?_ | refine q0a ?_ _));exact BK111.out)) : gb113 ≠ gb111));have n8_ := Aside0.mk ((by rw [hg];exact Nat.ne_of_lt (q0y (g := gb112) (o := .cells #[.bool a1_0,.slice A1_1 l1_1.length c1_1] 29 (0,0)) (by (with_reducible repeat (first | refine q0b ?_ _ | refine q0c ?_ | refine q0a ?_ _));exact BK112.out)) : gb112 ≠ gb113));have n9_ := Aside0.mk ((by rw [hg];exact Nat.ne_of_gt (q0y (g := gb112) (o := .cells #[.bool a1_0,.slice A1_1 l1_1.length c1_1] 29 (0,0)) (by (with_reducible repeat (first | refine q0b ?_ _ | refine q0c ?_ | refine q0a ?_ _));exact BK112.out)) : gb113 ≠ gb112));clear BK111;clear BK112;clear HB;have BK111 := n0_;have BK112 := n1_;have HB := n2_;have BK113 := n3_;have GW113 := n4_;have GE113 := n5_;have NB111_113 := n6_;have NB113_111 := n7_;have NB112_113 := n8_;have NB113_112 := n9_;clear n0_ n1_ n2_ n3_ n4_ n5_ n6_ n7_ n8_ n9_;clear hb hbox hg;have hnb61 := NB111_112.out;have hnc61 := NB112_111.out;have hnb62 := NB111_113.out;have hnc62 := NB113_111.out;have hcz63_0 : w60.cell? ⟨gb111,0,none⟩ = some (.bool a0_0) := (q0i BK111.out 0).trans rfl;have hcz63_1 : w60.cell? ⟨gb111,1,none⟩ = some (.slice A0_1 l0_1.length c0_1) := (q0i BK111.out 1).trans rfl;have hfz63_0 := q0k BK111.out 0;have hfz63_1 := q0k BK111.out 1;have hnb64 := NB112_113.out;have hnc64 := NB113_112.out;have hcz65_0 : w60.cell? ⟨gb112,0,none⟩ = some (.bool a1_0) := (q0i BK112.out 0).trans rfl;have hcz65_1 : w60.cell? ⟨gb112,1,none⟩ = some (.slice A1_1 l1_1.length c1_1) := (q0i BK112.out 1).trans rfl;have hfz65_0 := q0k BK112.out 0;have hfz65_1 := q0k BK112.out 1) | ((with_reducible refine gate_dst (N := 9) rfl ?_);refine q03 ?hg (N := 9) ?hd (cs := #[.bool false,.slice none 0 0]) (t := 29) ?hr ?_;(case hd => rfl);(case hg => rfl);(case hr => first | (go_simp;done) | (go_simp;rfl));intro gb125 hg w66 hbox hb;have n0_ := Aside0.mk (q0q (g := gb111) (o := .cells #[.bool a0_0,.slice A0_1 l0_1.length c0_1] 29 (0,0)) (by (with_reducible repeat (first | refine q0b ?_ _ | refine q0c ?_ | refine q0a ?_ _));exact BK111.out) hb);have n1_ := Aside0.mk (q0q (g := gb112) (o := .cells #[.bool a1_0,.slice A1_1 l1_1.length c1_1] 29 (0,0)) (by (with_reducible repeat (first | refine q0b ?_ _ | refine q0c ?_ | refine q0a ?_ _));exact BK112.out) hb);have n2_ := Aside0.mk (q0q (g := gb113) (o := .cells #[.bool false,.slice none 0 0] 29 (0,0)) (by (with_reducible repeat (first | refine q0b ?_ _ | refine q0c ?_ | refine q0a ?_ _));exact BK113.out) hb);have n3_ := Aside0.mk (q0s (by repeat (first | (with_reducible first | exact HB.out | apply q0h | apply q0d | apply q0f | refine q0g ?_ GE111.out | refine q0g ?_ GE112.out | refine q0g ?_ GE113.out) | exact HB.out)) hb);have n4_ := Aside0.mk (hbox);have n5_ := Aside0.mk ((by rw [hg];exact (q0p (by repeat (first | (with_reducible first | exact HB.out | apply q0h | apply q0d | apply q0f | refine q0g ?_ GE111.out | refine q0g ?_ GE112.out | refine q0g ?_ GE113.out) | exact HB.out))) : w.heap.size ≤ gb125));have n6_ := Aside0.mk ((by rw [hg];exact (q0p (by repeat (first | (with_reducible first | exact HB.out | apply q0h | apply q0d | apply q0f | refine q0g ?_ GE111.out | refine q0g ?_ GE112.out | refine q0g ?_ GE113.out) | exact HB.out))) : w.heap.size ≤ gb125));have n7_ := Aside0.mk ((by rw [hg];exact Nat.ne_of_lt (q0y (g := gb111) (o := .cells #[.bool a0_0,.slice A0_1 l0_1.length c0_1] 29 (0,0)) (by (with_reducible repeat (first | refine q0b ?_ _ | refine q0c ?_ | refine q0a ?_ _));exact BK111.out)) : gb111 ≠ gb125));have n8_ := Aside0.mk ((by rw [hg];exact Nat.ne_of_gt (q0y (g := gb111) (o := .cells #[.bool a0_0,.slice A0_1 l0_1.length c0_1] 29 (0,0)) (by (with_reducible repeat (first | refine q0b ?_ _ | refine q0c ?_ | refine q0a ?_ _));exact BK111.out)) : gb125 ≠ gb111));have n9_ := Aside0.mk ((by rw [hg];exact Nat.ne_of_lt (q0y (g := gb112) (o := .cells #[.bool a1_0,.slice A1_1 l1_1.length c1_1] 29 (0,0)) (by (with_reducible repeat (first | refine q0b ?_ _ | refine q0c ?_ | refine q0a ?_ _));exact BK112.out)) : gb112 ≠ gb125));have n10_ := Aside0.mk ((by rw [hg];exact Nat.ne_of_gt (q0y (g := gb112) (o := .cells #[.bool a1_0,.slice A1_1 l1_1.length c1_1] 29 (0,0)) (by (with_reducible repeat (first | refine q0b ?_ _ | refine q0c ?_ | refine q0a ?_ _));exact BK112.out)) : gb125 ≠ gb112));have n11_ := Aside0.mk ((by rw [hg];exact Nat.ne_of_lt (q0y (g := gb113) (o := .cells #[.bool false,.slice none 0 0] 29 (0,0)) (by (with_reducible repeat (first | refine q0b ?_ _ | refine q0c ?_ | refine q0a ?_ _));exact BK113.out)) : gb113 ≠ gb125));have n12_ := Aside0.mk ((by rw [hg];exact Nat.ne_of_gt (q0y (g := gb113) (o := .cells #[.bool false,.slice none 0 0] 29 (0,0)) (by (with_reducible repeat (first | refine q0b ?_ _ | refine q0c ?_ | refine q0a ?_ _));exact BK113.out)) : gb125 ≠ gb113));clear BK111;clear BK112;clear BK113;clear HB;have BK111 := n0_;have BK112 := n1_;have BK113 := n2_;have HB := n3_;have BK125 := n4_;have GW125 := n5_;have GE125 := n6_;have NB111_125 := n7_;have NB125_111 := n8_;have NB112_125 := n9_;have NB125_112 := n10_;have NB113_125 := n11_;have NB125_113 := n12_;clear n0_ n1_ n2_ n3_ n4_ n5_ n6_ n7_ n8_ n9_ n10_ n11_ n12_;clear hb hbox hg;have hnb67 := NB125_111.out;have hnc67 := NB111_125.out;have hnb68 := NB125_112.out;have hnc68 := NB112_125.out;have hnb69 := NB125_113.out;have hnc69 := NB113_125.out;have hcz70_0 : w66.cell? ⟨gb125,0,none⟩ = some (.bool false) := (q0i BK125.out 0).trans rfl;have hcz70_1 : w66.cell? ⟨gb125,1,none⟩ = some (.slice none 0 0) := (q0i BK125.out 1).trans rfl;have hfz70_0 := q0k BK125.out 0;have hfz70_1 := q0k BK125.out 1))
  go_loopg [10,11] k (fun kq v10 v11 w' => ∃ (x10_1 : Int) (x11_1 : Int) (x126001_1 : List Int) (u126001 : Value),v10 = .int .u64 x10_1 ∧ v11 = .int .i64 x11_1 ∧ Aside0 (verdererref03_Plus.l1 kq x10_1 x11_1 a0_0 l0_1 a1_0 l1_1 a0_0 x126001_1 = some (r1,r2)) ∧ Aside0 (kq ≤ k) ∧ Aside0 (Kd.R (Kd.int .u64) 96 w' w.heap.size (fun _ => True) u126001 x126001_1) ∧ Aside0 (w'.heap[gb111]? = some (.cells #[.bool a0_0,(.slice A0_1 l0_1.length c0_1)] 29 (0,0))) ∧ Aside0 (w'.heap[gb112]? = some (.cells #[.bool a1_0,(.slice A1_1 l1_1.length c1_1)] 29 (0,0))) ∧ Aside0 (w'.heap[gb113]? = some (.cells #[.bool false,(.slice none 0 0)] 29 (0,0))) ∧ Aside0 (w'.heap[gb125]? = some (.cells #[.bool a0_0,u126001] 29 (0,0))) ∧ Aside0 (Below w.heap.size w w'))
  case atStart => exact ⟨(0),(0),(([] : List Int)),(.slice none 0 0),(by first | rfl | (simp;done) | (simp [*];done)),(by first | rfl | (simp;done) | (simp [*];done)),H',⟨Nat.le_refl _⟩,⟨by first | exact Kd.R_nil _ _ _ _ _ | exact Kd.N_nil _ _ _ _ _ | exact Kd.V_nil _ _ _ _ _ | exact Kd.Q_nil _ _ _ _ _ | exact Kd.S_nil _ _ _ _ _⟩,⟨by (with_reducible repeat (first | refine q0b ?_ _ | refine q0c ?_ | refine q0a ?_ _));refine q0u ?_ NB111_125.out _;(with_reducible repeat (first | refine q0b ?_ _ | refine q0c ?_ | refine q0a ?_ _));refine q0u ?_ NB111_125.out _;(with_reducible repeat (first | refine q0b ?_ _ | refine q0c ?_ | refine q0a ?_ _));exact BK111.out⟩,⟨by (with_reducible repeat (first | refine q0b ?_ _ | refine q0c ?_ | refine q0a ?_ _));refine q0u ?_ NB112_125.out _;(with_reducible repeat (first | refine q0b ?_ _ | refine q0c ?_ | refine q0a ?_ _));refine q0u ?_ NB112_125.out _;(with_reducible repeat (first | refine q0b ?_ _ | refine q0c ?_ | refine q0a ?_ _));exact BK112.out⟩,⟨by (with_reducible repeat (first | refine q0b ?_ _ | refine q0c ?_ | refine q0a ?_ _));refine q0u ?_ NB113_125.out _;(with_reducible repeat (first | refine q0b ?_ _ | refine q0c ?_ | refine q0a ?_ _));refine q0u ?_ NB113_125.out _;(with_reducible repeat (first | refine q0b ?_ _ | refine q0c ?_ | refine q0a ?_ _));exact BK113.out⟩,⟨by (with_reducible repeat (first | refine q0b ?_ _ | refine q0c ?_ | refine q0a ?_ _));refine q0t (cs := #[.bool a0_0,.slice none 0 0]) ?_ 1 _ rfl;(with_reducible repeat (first | refine q0b ?_ _ | refine q0c ?_ | refine q0a ?_ _));refine q0t (cs := #[.bool false,.slice none 0 0]) ?_ 0 _ rfl;(with_reducible repeat (first | refine q0b ?_ _ | refine q0c ?_ | refine q0a ?_ _));exact BK125.out⟩,⟨by repeat (first | (with_reducible first | exact HB.out | apply q0h | apply q0d | apply q0f | refine q0g ?_ GE111.out | refine q0g ?_ GE112.out | refine q0g ?_ GE113.out | refine q0g ?_ GE125.out) | exact HB.out)⟩⟩
  case round =>
   clear H'
   try clear c1
   try clear c2
   try clear p2
   try clear c3
   try clear c3b0
   try clear c3b1
   try clear c3b2
   try clear c4
   try clear c5
   try clear c6
   try clear p6
   try clear c10
   try clear c11
   try clear c13
   try clear c16
   try clear c24
   try clear c25
   try clear c27
   try clear c32
   try clear c33
   try clear c34
   try clear c36
   try clear c36b0
   try clear c39
   try clear c43
   try clear c44
   try clear c45
   try clear c50
   try clear c51
   try clear c52
   try clear c54
   try clear c55
   try clear c59
   try clear c60
   try clear c61
   try clear c62
   try clear c64
   try clear p64
   try clear c67
   try clear c68
   try clear c69
   try clear hcz12_0
   try clear hcz12_1
   try clear hcz14_0
   try clear hcz14_1
   try clear hcz16_0
   try clear hcz16_1
   try clear hcz17_0
   try clear hcz17_1
   try clear hcz19_0
   try clear hcz19_1
   try clear hcz26_0
   try clear hcz26_1
   try clear hcz28_0
   try clear hcz28_1
   try clear hcz30_0
   try clear hcz30_1
   try clear hcz35_0
   try clear hcz35_1
   try clear hcz46_0
   try clear hcz46_1
   try clear hcz49_0
   try clear hcz49_1
   try clear hcz53_0
   try clear hcz53_1
   try clear hcz56_0
   try clear hcz56_1
   try clear hcz63_0
   try clear hcz63_1
   try clear hcz65_0
   try clear hcz65_1
   try clear hcz70_0
   try clear hcz70_1
   try clear hfz12_0
   try clear hfz12_1
   try clear hfz14_0
   try clear hfz14_1
   try clear hfz16_0
   try clear hfz16_1
   try clear hfz17_0
   try clear hfz17_1
   try clear hfz19_0
   try clear hfz19_1
   try clear hfz26_0
   try clear hfz26_1
   try clear hfz28_0
   try clear hfz28_1
   try clear hfz30_0
   try clear hfz30_1
   try clear hfz35_0
   try clear hfz35_1
   try clear hfz46_0
   try clear hfz46_1
   try clear hfz49_0
   try clear hfz49_1
   try clear hfz53_0
   try clear hfz53_1
   try clear hfz56_0
   try clear hfz56_1
   try clear hfz63_0
   try clear hfz63_1
   try clear hfz65_0
   try clear hfz65_1
   try clear hfz70_0
   try clear hfz70_1
   try clear p2
   obtain ⟨x10_1,x11_1,x126001_1,u126001,rfl,rfl,HA,HK1,HO_126001,BK111,BK112,BK113,BK125,HB⟩ := hrel
   cases gk with
   | zero => exact absurd HA.out (by simp [verdererref03_Plus.l1])
   | succ k1 =>
    have H := HA.out
    clear HA
    simp only [verdererref03_Plus.l1] at H
    by_cases c71 : x11_1 < 20
    ·rw [if_pos c71] at H
     have c71b0 : decide (x11_1 < 20) = true := decide_eq_true c71
     clear c71
     replace H := Option.bind_eq_some_iff.mp H
     obtain ⟨t126,A720,H⟩ := H
     replace H : ((verdererref03_Big_at.f a1_0 l1_1 x11_1).bind fun t127 => (if x126001_1.length < 17592186044416 then (verdererref03_Plus.l1 k1 (IntKind.u64.wrap (Int.tdiv (IntKind.u64.wrap ((IntKind.u64.wrap (t126 + t127)) + x10_1)) 65536)) (wrap64 (x11_1 + 1)) a0_0 l0_1 a1_0 l1_1 a0_0 (x126001_1 ++ [Int.tmod (IntKind.u64.wrap ((IntKind.u64.wrap (t126 + t127)) + x10_1)) 65536])) else (none))) = some (r1,r2) := H
     have A72 := Aside0.mk A720
     clear A720
     replace H := Option.bind_eq_some_iff.mp H
     obtain ⟨t127,A730,H⟩ := H
     replace H : (if x126001_1.length < 17592186044416 then (verdererref03_Plus.l1 k1 (IntKind.u64.wrap (Int.tdiv (IntKind.u64.wrap ((IntKind.u64.wrap (t126 + t127)) + x10_1)) 65536)) (wrap64 (x11_1 + 1)) a0_0 l0_1 a1_0 l1_1 a0_0 (x126001_1 ++ [Int.tmod (IntKind.u64.wrap ((IntKind.u64.wrap (t126 + t127)) + x10_1)) 65536])) else (none)) = some (r1,r2) := H
     have A73 := Aside0.mk A730
     clear A730
     by_cases c74 : x126001_1.length < 17592186044416
     ·rw [if_pos c74] at H
      have LMc74 := Aside0.mk c74
      clear c74
      obtain ⟨y128,hy128⟩ : ∃ y_ : List Int,y_ = (x126001_1 ++ [Int.tmod (IntKind.u64.wrap ((IntKind.u64.wrap (t126 + t127)) + x10_1)) 65536]) := ⟨_,rfl⟩
      replace H : (verdererref03_Plus.l1 k1 (IntKind.u64.wrap (Int.tdiv (IntKind.u64.wrap ((IntKind.u64.wrap (t126 + t127)) + x10_1)) 65536)) (wrap64 (x11_1 + 1)) a0_0 l0_1 a1_0 l1_1 a0_0 y128) = some (r1,r2) := by first | (rw [hy128];with_reducible exact H) | (have H2_ := (Option.bind_some _ _).symm.trans H;rw [hy128];with_reducible exact H2_) | (have H2_ := (Option.bind_some _ _).symm.trans H;with_reducible exact H2_) | with_reducible exact H | (rw [hy128];exact H) | exact H
      have Ny128 := Aside0.mk hy128
      clear hy128
      have H' := Aside0.mk H
      clear H
      try go_wp2
      have n0_ := Aside0.mk (Kd.q0o HO_126001.out)
      have n1_ := Aside0.mk (q0c BK111.out)
      have n2_ := Aside0.mk (q0c BK112.out)
      have n3_ := Aside0.mk (q0c BK113.out)
      have n4_ := Aside0.mk (q0c BK125.out)
      have n5_ := Aside0.mk (q0f HB.out)
      clear HO_126001
      clear BK111
      clear BK112
      clear BK113
      clear BK125
      clear HB
      have HO_126001 := n0_
      have BK111 := n1_
      have BK112 := n2_
      have BK113 := n3_
      have BK125 := n4_
      have HB := n5_
      clear n0_ n1_ n2_ n3_ n4_ n5_
      refine start_ (n := 10) (S := fun w' => w'.cell? ⟨gb111,0,none⟩ = some (.bool a0_0) ∧ w'.cell? ⟨gb111,1,none⟩ = some (.slice A0_1 l0_1.length c0_1) ∧ w'.cell? ⟨gb112,0,none⟩ = some (.bool a1_0) ∧ w'.cell? ⟨gb112,1,none⟩ = some (.slice A1_1 l1_1.length c1_1)) (ds := []) #[false,false,false,false,false,false,false,false,false,false] (by kernel_rfl) rfl rfl ⟨(q0i BK111.out 0).trans rfl,(q0i BK111.out 1).trans rfl,(q0i BK112.out 0).trans rfl,(q0i BK112.out 1).trans rfl⟩ (fun hHeld => ?_);refine with_tabW verdererref03_Plus.tab18 verdererref03_Plus.bits18 (fun HT_ HW_ => ?_)
      generalize wr.drew = w75 at HO_126001 BK111 BK112 BK113 BK125 HB hHeld ⊢
      refine pure_ (i := 1) (N := some 60) (v := ?_) (a' := ?_) #[false,true,false,false,false,false,false,false,false,false] rfl rfl (q0r HT_.out (by kernel_rfl)) (fun _ _ _ h => h) (Or.inl ⟨by rfl,?_⟩) ?_ ?_
      rotate_left
      ·intro w'
       go_simp
       with_reducible rfl
      rotate_left
      ·simp only [Act.put,zA,zB,zC,i64_w,i32_w]
       rfl
      refine pure_ (i := 4) (N := some 63) (v := ?_) (a' := ?_) #[false,true,false,false,true,false,false,false,false,false] rfl rfl (q0r HT_.out (by kernel_rfl)) (fun _ _ _ h => h) (Or.inl ⟨by rfl,?_⟩) ?_ ?_
      rotate_left
      ·intro w'
       go_simp
       with_reducible rfl
      rotate_left
      ·simp only [Act.put,zA,zB,zC,i64_w,i32_w]
       rfl
      refine pure_ (i := 7) (N := some 66) (v := ?_) (a' := ?_) #[false,true,false,false,true,false,false,true,false,false] rfl rfl (q0r HT_.out (by kernel_rfl)) (fun _ _ _ h => h) (Or.inl ⟨by rfl,?_⟩) ?_ ?_
      rotate_left
      ·intro w'
       go_simp
       with_reducible rfl
      rotate_left
      ·simp only [Act.put,zA,zB,zC,i64_w,i32_w]
       rfl
      refine take_ (i := 0) (N := some 59) (v := ?_) (a' := ?_) #[true,true,false,false,true,false,false,true,false,false] rfl rfl (take_ofW HT_.out HW_.out (by kernel_rfl)) (fun _ _ _ h => h) (Or.inl ⟨by rfl,?_⟩) hHeld ?_ ?_
      rotate_left
      ·rintro w' ⟨s0,s1,s2,s3⟩
       go_simp
       with_reducible rfl
      rotate_left
      ·simp only [Act.put,zA,zB,zC,i64_w,i32_w]
       rfl
      refine take_ (i := 3) (N := some 62) (v := ?_) (a' := ?_) #[true,true,false,true,true,false,false,true,false,false] rfl rfl (take_ofW HT_.out HW_.out (by kernel_rfl)) (fun _ _ _ h => h) (Or.inl ⟨by rfl,?_⟩) hHeld ?_ ?_
      rotate_left
      ·rintro w' ⟨s0,s1,s2,s3⟩
       go_simp
       with_reducible rfl
      rotate_left
      ·simp only [Act.put,zA,zB,zC,i64_w,i32_w]
       rfl
      refine one_ (i := 2) (N := some 61) #[true,true,true,true,true,false,false,true,false,false] rfl rfl (one_of HT_.out (by kernel_rfl)) (by decide) (fun K hK => ?_)
      refine goes_ Try.func60 (by kernel_rfl) rfl #[.agg #[.bool a0_0,.slice A0_1 l0_1.length c0_1],.int .i64 x11_1] (by rfl) rfl rfl (by (try simp only [List.map_toArray,List.map_cons,List.map_nil]);first | done | rfl | (simp only [List.length_drop,List.length_take];rfl)) ?_
      with_reducible refine (verdererref03_Big_at.calls a0_0 _ _ l0_1 x11_1 t126 _ ?side1 ?side2 A72.out).mono ?_
      (case side1 => repeat (first | exact (Kd.C_below HR0_1.out HB.out) | (with_reducible refine Kd.C_alloc ?_ _) | (with_reducible refine Kd.C_drewN ?_ _) | (with_reducible refine Kd.C_drew ?_)))
      (case side2 => exact HC0_1.out)
      rintro e w76 ⟨rfl,hb⟩
      refine ⟨_,rfl,?_⟩
      have n0_ := Aside0.mk (Kd.q0v (by (with_reducible repeat (first | apply Kd.q0m | apply Kd.q0n | apply Kd.q0o));exact HO_126001.out) hb)
      have n1_ := Aside0.mk (q0q (g := gb111) (o := .cells #[.bool a0_0,.slice A0_1 l0_1.length c0_1] 29 (0,0)) (by (with_reducible repeat (first | refine q0b ?_ _ | refine q0c ?_ | refine q0a ?_ _));exact BK111.out) hb)
      have n2_ := Aside0.mk (q0q (g := gb112) (o := .cells #[.bool a1_0,.slice A1_1 l1_1.length c1_1] 29 (0,0)) (by (with_reducible repeat (first | refine q0b ?_ _ | refine q0c ?_ | refine q0a ?_ _));exact BK112.out) hb)
      have n3_ := Aside0.mk (q0q (g := gb113) (o := .cells #[.bool false,.slice none 0 0] 29 (0,0)) (by (with_reducible repeat (first | refine q0b ?_ _ | refine q0c ?_ | refine q0a ?_ _));exact BK113.out) hb)
      have n4_ := Aside0.mk (q0q (g := gb125) (o := .cells #[.bool a0_0,u126001] 29 (0,0)) (by (with_reducible repeat (first | refine q0b ?_ _ | refine q0c ?_ | refine q0a ?_ _));exact BK125.out) hb)
      have n5_ := Aside0.mk (q0s (by repeat (first | (with_reducible first | exact HB.out | apply q0h | apply q0d | apply q0f | refine q0g ?_ GE111.out | refine q0g ?_ GE112.out | refine q0g ?_ GE113.out | refine q0g ?_ GE125.out) | exact HB.out)) hb)
      clear HO_126001
      clear BK111
      clear BK112
      clear BK113
      clear BK125
      clear HB
      have HO_126001 := n0_
      have BK111 := n1_
      have BK112 := n2_
      have BK113 := n3_
      have BK125 := n4_
      have HB := n5_
      clear n0_ n1_ n2_ n3_ n4_ n5_
      (try clear hb)
      (try clear hb2)
      (try clear hk)
      (try clear hi)
      refine hK.out _ _ ⟨(q0i BK111.out 0).trans rfl,(q0i BK111.out 1).trans rfl,(q0i BK112.out 0).trans rfl,(q0i BK112.out 1).trans rfl⟩ (fun hHeld => ?_)
      clear hK K
      refine norm_ (a' := ?_) ?_ ?_
      rotate_left
      ·show Act.put _ (some 61) _ = _
       simp only [Act.put,zA,zB,zC,i64_w,i32_w]
       rfl
      refine one_ (i := 5) (N := some 64) #[true,true,true,true,true,true,false,true,false,false] rfl rfl (one_of HT_.out (by kernel_rfl)) (by decide) (fun K hK => ?_)
      refine goes_ Try.func60 (by kernel_rfl) rfl #[.agg #[.bool a1_0,.slice A1_1 l1_1.length c1_1],.int .i64 x11_1] (by rfl) rfl rfl (by (try simp only [List.map_toArray,List.map_cons,List.map_nil]);first | done | rfl | (simp only [List.length_drop,List.length_take];rfl)) ?_
      with_reducible refine (verdererref03_Big_at.calls a1_0 _ _ l1_1 x11_1 t127 _ ?side1 ?side2 A73.out).mono ?_
      (case side1 => repeat (first | exact (Kd.C_below HR1_1.out HB.out) | (with_reducible refine Kd.C_alloc ?_ _) | (with_reducible refine Kd.C_drewN ?_ _) | (with_reducible refine Kd.C_drew ?_)))
      (case side2 => exact HC1_1.out)
      rintro e w77 ⟨rfl,hb⟩
      refine ⟨_,rfl,?_⟩
      have n0_ := Aside0.mk (Kd.q0v (by (with_reducible repeat (first | apply Kd.q0m | apply Kd.q0n | apply Kd.q0o));exact HO_126001.out) hb)
      have n1_ := Aside0.mk (q0q (g := gb111) (o := .cells #[.bool a0_0,.slice A0_1 l0_1.length c0_1] 29 (0,0)) (by (with_reducible repeat (first | refine q0b ?_ _ | refine q0c ?_ | refine q0a ?_ _));exact BK111.out) hb)
      have n2_ := Aside0.mk (q0q (g := gb112) (o := .cells #[.bool a1_0,.slice A1_1 l1_1.length c1_1] 29 (0,0)) (by (with_reducible repeat (first | refine q0b ?_ _ | refine q0c ?_ | refine q0a ?_ _));exact BK112.out) hb)
      have n3_ := Aside0.mk (q0q (g := gb113) (o := .cells #[.bool false,.slice none 0 0] 29 (0,0)) (by (with_reducible repeat (first | refine q0b ?_ _ | refine q0c ?_ | refine q0a ?_ _));exact BK113.out) hb)
      have n4_ := Aside0.mk (q0q (g := gb125) (o := .cells #[.bool a0_0,u126001] 29 (0,0)) (by (with_reducible repeat (first | refine q0b ?_ _ | refine q0c ?_ | refine q0a ?_ _));exact BK125.out) hb)
      have n5_ := Aside0.mk (q0s (by repeat (first | (with_reducible first | exact HB.out | apply q0h | apply q0d | apply q0f | refine q0g ?_ GE111.out | refine q0g ?_ GE112.out | refine q0g ?_ GE113.out | refine q0g ?_ GE125.out) | exact HB.out)) hb)
      clear HO_126001
      clear BK111
      clear BK112
      clear BK113
      clear BK125
      clear HB
      have HO_126001 := n0_
      have BK111 := n1_
      have BK112 := n2_
      have BK113 := n3_
      have BK125 := n4_
      have HB := n5_
      clear n0_ n1_ n2_ n3_ n4_ n5_
      (try clear hb)
      (try clear hb2)
      (try clear hk)
      (try clear hi)
      refine hK.out _ _ ⟨(q0i BK111.out 0).trans rfl,(q0i BK111.out 1).trans rfl,(q0i BK112.out 0).trans rfl,(q0i BK112.out 1).trans rfl⟩ (fun hHeld => ?_)
      clear hK K
      refine norm_ (a' := ?_) ?_ ?_
      rotate_left
      ·show Act.put _ (some 64) _ = _
       simp only [Act.put,zA,zB,zC,i64_w,i32_w]
       rfl
      refine pure_ (i := 6) (N := some 65) (v := ?_) (a' := ?_) #[true,true,true,true,true,true,true,true,false,false] rfl rfl (q0r HT_.out (by kernel_rfl)) (fun _ _ _ h => h) (Or.inl ⟨by rfl,?_⟩) ?_ ?_
      rotate_left
      ·intro w'
       go_simp
       with_reducible rfl
      rotate_left
      ·simp only [Act.put,zA,zB,zC,i64_w,i32_w]
       rfl
      refine pure_ (i := 8) (N := some 67) (v := ?_) (a' := ?_) #[true,true,true,true,true,true,true,true,true,false] rfl rfl (q0r HT_.out (by kernel_rfl)) (fun _ _ _ h => h) (Or.inl ⟨by rfl,?_⟩) ?_ ?_
      rotate_left
      ·intro w'
       go_simp
       with_reducible rfl
      rotate_left
      ·simp only [Act.put,zA,zB,zC,i64_w,i32_w]
       rfl
      refine pure_ (i := 9) (N := some 12) (v := ?_) (a' := ?_) #[true,true,true,true,true,true,true,true,true,true] rfl rfl (q0r HT_.out (by kernel_rfl)) (fun _ _ _ h => h) (Or.inl ⟨by rfl,?_⟩) ?_ ?_
      rotate_left
      ·intro w'
       go_simp
       with_reducible rfl
      rotate_left
      ·simp only [Act.put,zA,zB,zC,i64_w,i32_w]
       rfl
      refine done_ (done_of HT_.out (by kernel_rfl)) ?_
      have hnb78 := NB125_111.out
      have hnc78 := NB111_125.out
      have hnb79 := NB125_112.out
      have hnc79 := NB112_125.out
      have hnb80 := NB125_113.out
      have hnc80 := NB113_125.out
      have hcz81_0 : w77.cell? ⟨gb125,0,none⟩ = some (.bool a0_0) := (q0i BK125.out 0).trans rfl
      have hcz81_1 : w77.cell? ⟨gb125,1,none⟩ = some (u126001) := (q0i BK125.out 1).trans rfl
      have hfz81_0 := q0k BK125.out 0
      have hfz81_1 := q0k BK125.out 1
      try go_wp2_with (first | ((with_reducible refine gate_builtin (b := .append) (xs := #[.tmp 69,.tmp 72]) rfl ?_);at_builtin;refine Kd.R_append (Kd.int .u64) (w0 := w) w.heap.size rfl (.tmp 69) (.tmp 72) 27 96 (.int .u64 0) 8 rfl Try.underlying27 info96 rfl (by decide) (by omega) u126001 x126001_1 (Int.tmod (IntKind.u64.wrap ((IntKind.u64.wrap (t126 + t127)) + x10_1)) 65536) [.int .u64 (Int.tmod (IntKind.u64.wrap ((IntKind.u64.wrap (t126 + t127)) + x10_1)) 65536)] (fun _ => True) (fun _ => False) rfl rfl ?aP (fun _ hk => hk.elim) ?aF ?aO ?aB ?aS ?aL ?_;(case aP => exact rfl);(case aB => exact (by repeat (first | (with_reducible first | exact HB.out | apply q0h | apply q0d | apply q0f | refine q0g ?_ GE111.out | refine q0g ?_ GE112.out | refine q0g ?_ GE113.out | refine q0g ?_ GE125.out) | exact HB.out)));(case aF => exact (fun _ _ => trivial));(case aO => exact (by (with_reducible repeat (first | apply Kd.q0m | apply Kd.q0n | apply Kd.q0o));exact HO_126001.out));(case aS => exact (q0p (by repeat (first | (with_reducible first | exact HB.out | apply q0h | apply q0d | apply q0f | refine q0g ?_ GE111.out | refine q0g ?_ GE112.out | refine q0g ?_ GE113.out | refine q0g ?_ GE125.out) | exact HB.out))));(case aL => have := LMc74.out;omega);intro v129 w82 ho hb hg hat;rw [← Ny128.out] at ho;have n0_ := Aside0.mk (blk_grown (g := gb111) (o := .cells #[.bool a0_0,.slice A0_1 l0_1.length c0_1] 29 (0,0)) (by (with_reducible repeat (first | refine q0b ?_ _ | refine q0c ?_ | refine q0a ?_ _));exact BK111.out) hg (Kd.R_ne HO_126001.out BK111.out (by decide)));have n1_ := Aside0.mk (blk_grown (g := gb112) (o := .cells #[.bool a1_0,.slice A1_1 l1_1.length c1_1] 29 (0,0)) (by (with_reducible repeat (first | refine q0b ?_ _ | refine q0c ?_ | refine q0a ?_ _));exact BK112.out) hg (Kd.R_ne HO_126001.out BK112.out (by decide)));have n2_ := Aside0.mk (blk_grown (g := gb113) (o := .cells #[.bool false,.slice none 0 0] 29 (0,0)) (by (with_reducible repeat (first | refine q0b ?_ _ | refine q0c ?_ | refine q0a ?_ _));exact BK113.out) hg (Kd.R_ne HO_126001.out BK113.out (by decide)));have n3_ := Aside0.mk (blk_grown (g := gb125) (o := .cells #[.bool a0_0,u126001] 29 (0,0)) (by (with_reducible repeat (first | refine q0b ?_ _ | refine q0c ?_ | refine q0a ?_ _));exact BK125.out) hg (Kd.R_ne HO_126001.out BK125.out (by decide)));have n4_ := Aside0.mk (hb);have n5_ := Aside0.mk (ho);clear BK111;clear BK112;clear BK113;clear BK125;clear HB;clear HO_126001;have BK111 := n0_;have BK112 := n1_;have BK113 := n2_;have BK125 := n3_;have HB := n4_;have HO130 := n5_;clear n0_ n1_ n2_ n3_ n4_ n5_;clear ho hb hg hat;obtain ⟨Ao83,co83,eo83⟩ := Kd.R_slice HO130.out;subst eo83;have hcz84_0 : w82.cell? ⟨gb125,0,none⟩ = some (.bool a0_0) := (q0i BK125.out 0).trans rfl;have hcz84_1 : w82.cell? ⟨gb125,1,none⟩ = some (u126001) := (q0i BK125.out 1).trans rfl;have hfz84_0 := q0k BK125.out 0;have hfz84_1 := q0k BK125.out 1))
      go_roundg k1
      case measure => have := HK1.out;omega
      case rel => exact ⟨(IntKind.u64.wrap (Int.tdiv (IntKind.u64.wrap ((IntKind.u64.wrap (t126 + t127)) + x10_1)) 65536)),(wrap64 (x11_1 + 1)),(y128),(.slice Ao83 y128.length co83),(by first | rfl | (simp;done) | (simp [*];done)),(by first | rfl | (simp;done) | (simp [*];done)),H',⟨by have := HK1.out;omega⟩,⟨by (with_reducible repeat (first | apply Kd.q0m | apply Kd.q0n | apply Kd.q0o));exact Kd.R_mono (Kd.R_far (p := ⟨gb125,1,none⟩) (Kd.R_types HO130.out BK125.out (by decide)) (fun _ hk => hk.2) (.slice Ao83 y128.length co83)) (fun _ hk => trivial)⟩,⟨by (with_reducible repeat (first | refine q0b ?_ _ | refine q0c ?_ | refine q0a ?_ _));refine q0u ?_ NB111_125.out _;(with_reducible repeat (first | refine q0b ?_ _ | refine q0c ?_ | refine q0a ?_ _));exact BK111.out⟩,⟨by (with_reducible repeat (first | refine q0b ?_ _ | refine q0c ?_ | refine q0a ?_ _));refine q0u ?_ NB112_125.out _;(with_reducible repeat (first | refine q0b ?_ _ | refine q0c ?_ | refine q0a ?_ _));exact BK112.out⟩,⟨by (with_reducible repeat (first | refine q0b ?_ _ | refine q0c ?_ | refine q0a ?_ _));refine q0u ?_ NB113_125.out _;(with_reducible repeat (first | refine q0b ?_ _ | refine q0c ?_ | refine q0a ?_ _));exact BK113.out⟩,⟨by (with_reducible repeat (first | refine q0b ?_ _ | refine q0c ?_ | refine q0a ?_ _));refine q0t (cs := #[.bool a0_0,u126001]) ?_ 1 _ rfl;(with_reducible repeat (first | refine q0b ?_ _ | refine q0c ?_ | refine q0a ?_ _));exact BK125.out⟩,⟨by repeat (first | (with_reducible first | exact HB.out | apply q0h | apply q0d | apply q0f | refine q0g ?_ GE111.out | refine q0g ?_ GE112.out | refine q0g ?_ GE113.out | refine q0g ?_ GE125.out) | exact HB.out)⟩⟩
     ·rw [if_neg c74] at H
      exact absurd H (by simp)
    ·rw [if_neg c71] at H
     have c71b0 : decide (x11_1 < 20) = false := decide_eq_false c71
     clear c71
     simp only [Option.some.injEq,Prod.mk.injEq] at H
     obtain ⟨rfl,rfl⟩ := H
     have hnb85 := NB125_111.out
     have hnc85 := NB111_125.out
     have hnb86 := NB125_112.out
     have hnc86 := NB112_125.out
     have hnb87 := NB125_113.out
     have hnc87 := NB113_125.out
     have hcz88_0 : wr.cell? ⟨gb125,0,none⟩ = some (.bool a0_0) := (q0i BK125.out 0).trans rfl
     have hcz88_1 : wr.cell? ⟨gb125,1,none⟩ = some (u126001) := (q0i BK125.out 1).trans rfl
     have hfz88_0 := q0k BK125.out 0
     have hfz88_1 := q0k BK125.out 1
     have hnb89 := NB113_111.out
     have hnc89 := NB111_113.out
     have hnb90 := NB113_112.out
     have hnc90 := NB112_113.out
     have hcz91_0 : wr.cell? ⟨gb113,0,none⟩ = some (.bool false) := (q0i BK113.out 0).trans rfl
     have hcz91_1 : wr.cell? ⟨gb113,1,none⟩ = some (.slice none 0 0) := (q0i BK113.out 1).trans rfl
     have hfz91_0 := q0k BK113.out 0
     have hfz91_1 := q0k BK113.out 1
     obtain ⟨Ao92,co92,eo92⟩ := Kd.R_slice HO_126001.out
     subst eo92
     go_wp2
     refine bodyPost_ret (results_cell_row rfl _ _ gb113 29 #[.bool a0_0,.slice Ao92 x126001_1.length co92] (0,0) _ rfl (by (with_reducible repeat (first | refine q0b ?_ _ | refine q0c ?_ | refine q0a ?_ _));refine q0t (cs := #[.bool a0_0,.slice none 0 0]) ?_ 1 _ rfl;(with_reducible repeat (first | refine q0b ?_ _ | refine q0c ?_ | refine q0a ?_ _));refine q0t (cs := #[.bool false,.slice none 0 0]) ?_ 0 _ rfl;(with_reducible repeat (first | refine q0b ?_ _ | refine q0c ?_ | refine q0a ?_ _));exact BK113.out) Try.underlying29 rfl (by kernel_rfl)) rfl ?_
     exact ⟨_,by first | rfl | (simp [q0w,q0x] <;> rfl) | (simp [*,q0w,q0x] <;> rfl),by (with_reducible repeat (first | apply Kd.q0m | apply Kd.q0n | apply Kd.q0o));exact Kd.R_mono (Kd.R_far (p := ⟨gb113,1,none⟩) (Kd.R_far (p := ⟨gb113,0,none⟩) (Kd.R_types HO_126001.out BK113.out (by decide)) (fun _ hk => hk.2) (.bool a0_0)) (fun _ hk => hk.2) (.slice Ao92 x126001_1.length co92)) (fun _ hk => trivial),by repeat (first | (with_reducible first | exact HB.out | apply q0h | apply q0d | apply q0f | refine q0g ?_ GE111.out | refine q0g ?_ GE112.out | refine q0g ?_ GE113.out | refine q0g ?_ GE125.out) | exact HB.out)⟩
end Go.Proofs.Ytcenlehfbgnphaa.Z
end
section
namespace Go.Proofs.Ytcenlehfbgnphaa.Z
open Go.RowKit Go.Proofs.YtcenlehfbgnphaaW.PrintWords Go.Proofs.YtcenlehfbgnphaaW.PrintLast Go.Proofs.YtcenlehfbgnphaaW.PrintMore
attribute [local go_sem] max2_int min2_int max_two min_two max_three min_three max_four min_four
set_option linter.unusedVariables false
set_option linter.unusedSimpArgs false
def verdererref03_Big_Sign.l0 : Nat → Int → Bool → List Int → Option (Int)
 | 0,_,_,_ => none
 | k + 1,x3,x336000,x336001 => if x3 < 20 then ((verdererref03_Big_at.f x336000 x336001 x3).bind fun t336 => (if t336 > 0 then (if x336000 = true then (some (-1)) else (some 1)) else (verdererref03_Big_Sign.l0 k (wrap64 (x3 + 1)) x336000 x336001))) else (some 0)
def verdererref03_Big_Sign.f (k : Nat) (a0_0 : Bool) (l0_1 : List Int) : Option (Int) := verdererref03_Big_Sign.l0 k 0 a0_0 l0_1
theorem verdererref03_Big_Sign.mono_l : ∀ k,(∀ y0 y1 y2,LeO (verdererref03_Big_Sign.l0 k y0 y1 y2) (verdererref03_Big_Sign.l0 (k + 1) y0 y1 y2))
 | 0 => fun _ _ _ r h => by simp [verdererref03_Big_Sign.l0] at h
 | k + 1 => by
  have ih0 := verdererref03_Big_Sign.mono_l k
  ·intro y0 y1 y2
   unfold verdererref03_Big_Sign.l0
   repeat' first
   | (with_reducible exact ih0 _ _ _)
   | (with_reducible exact LeO.refl _)
   | (with_reducible exact LeO.none _)
   | (with_reducible refine LeO.ite ?_ ?_)
   | (with_reducible refine LeO.bind ?_ (fun _ => ?_))
   | exact ih0 _ _ _
   | exact LeO.none _
   | refine LeO.ite ?_ ?_
   | refine LeO.bind ?_ (fun _ => ?_)
theorem verdererref03_Big_Sign.mono : ∀ a0 a1 k,LeO (verdererref03_Big_Sign.f k a0 a1) (verdererref03_Big_Sign.f (k + 1) a0 a1) := by
 intro a0 a1 k
 have ih0 := verdererref03_Big_Sign.mono_l k
 unfold verdererref03_Big_Sign.f
 repeat' first
   | (with_reducible exact ih0 _ _ _)
   | (with_reducible exact LeO.refl _)
   | (with_reducible exact LeO.none _)
   | (with_reducible refine LeO.ite ?_ ?_)
   | (with_reducible refine LeO.bind ?_ (fun _ => ?_))
   | exact ih0 _ _ _
   | exact LeO.none _
   | refine LeO.ite ?_ ?_
   | refine LeO.bind ?_ (fun _ => ?_)
set_option maxHeartbeats 8000000 in
set_option maxRecDepth 100000 in
theorem verdererref03_Big_Sign.calls (k : Nat) (a0_0 : Bool) (A0_1 : Option Addr) (c0_1 : Nat) (l0_1 : List Int) (r : Int) (w : World) (hr0_1 : Kd.C (Kd.int .u64) w A0_1 l0_1.length l0_1) (hc0_1 : l0_1.length ≤ c0_1) (h : verdererref03_Big_Sign.f k a0_0 l0_1 = some r) :
  Calls Try.prog 21 #[.agg #[.bool a0_0,.slice A0_1 l0_1.length c0_1]] w fun e w' => e = .returned (.int .i64 r) ∧ Below w.heap.size w w' := by
 have hu29 := Try.underlying29
 have HR0_1 := Aside0.mk hr0_1
 have HC0_1 := Aside0.mk hc0_1
 clear hr0_1 hc0_1
 have HB := Aside0.mk (Below.refl w.heap.size w)
 have H : (verdererref03_Big_Sign.l0 k 0 a0_0 l0_1) = some r := h
 clear h
 have H' := Aside0.mk H
 clear H
 go_enter Try.func21,Try.ntmps21
 go_wp2_with (first | ((with_reducible refine gate_dst (N := 1) rfl ?_);refine q03 ?hg (N := 1) ?hd (cs := #[.bool a0_0,.slice A0_1 l0_1.length c0_1]) (t := 29) ?hr ?_;(case hd => rfl);(case hg => rfl);(case hr => first | (go_simp;done) | (go_simp;rfl));intro gb335 hg w2 hbox hb;have n0_ := Aside0.mk (q0s (by repeat (first | (with_reducible first | exact HB.out | apply q0h | apply q0d | apply q0f) | exact HB.out)) hb);have n1_ := Aside0.mk (hbox);have n2_ := Aside0.mk ((by rw [hg];exact (q0p (by repeat (first | (with_reducible first | exact HB.out | apply q0h | apply q0d | apply q0f) | exact HB.out))) : w.heap.size ≤ gb335));have n3_ := Aside0.mk ((by rw [hg];exact (q0p (by repeat (first | (with_reducible first | exact HB.out | apply q0h | apply q0d | apply q0f) | exact HB.out))) : w.heap.size ≤ gb335));clear HB;have HB := n0_;have BK335 := n1_;have GW335 := n2_;have GE335 := n3_;clear n0_ n1_ n2_ n3_;clear hb hbox hg))
 go_loopg [3] k (fun kq v3 w' => ∃ (x3_1 : Int),v3 = .int .i64 x3_1 ∧ Aside0 (verdererref03_Big_Sign.l0 kq x3_1 a0_0 l0_1 = some r) ∧ Aside0 (kq ≤ k) ∧ Aside0 (w'.heap[gb335]? = some (.cells #[.bool a0_0,(.slice A0_1 l0_1.length c0_1)] 29 (0,0))) ∧ Aside0 (Below w.heap.size w w'))
 case atStart => exact ⟨(0),(by first | rfl | (simp;done) | (simp [*];done)),H',⟨Nat.le_refl _⟩,⟨by (with_reducible repeat (first | refine q0b ?_ _ | refine q0c ?_ | refine q0a ?_ _));exact BK335.out⟩,⟨by repeat (first | (with_reducible first | exact HB.out | apply q0h | apply q0d | apply q0f | refine q0g ?_ GE335.out) | exact HB.out)⟩⟩
 case round =>
  clear H'
  try clear c2
  try clear p2
  obtain ⟨x3_1,rfl,HA,HK1,BK335,HB⟩ := hrel
  cases gk with
  | zero => exact absurd HA.out (by simp [verdererref03_Big_Sign.l0])
  | succ k1 =>
   have H := HA.out
   clear HA
   simp only [verdererref03_Big_Sign.l0] at H
   by_cases c3 : x3_1 < 20
   ·rw [if_pos c3] at H
    have c3b0 : decide (x3_1 < 20) = true := decide_eq_true c3
    clear c3
    replace H := Option.bind_eq_some_iff.mp H
    obtain ⟨t336,A40,H⟩ := H
    replace H : (if t336 > 0 then (if a0_0 = true then (some (-1)) else (some 1)) else (verdererref03_Big_Sign.l0 k1 (wrap64 (x3_1 + 1)) a0_0 l0_1)) = some r := H
    have A4 := Aside0.mk A40
    clear A40
    by_cases c5 : t336 > 0
    ·rw [if_pos c5] at H
     have c5b0 : decide (0 < t336) = true := decide_eq_true c5
     clear c5
     by_cases c6 : a0_0 = true
     ·subst c6
      have H1 : (some (-1)) = some r := by rw [if_pos rfl] at H;exact H
      clear H
      have H := H1
      clear H1
      obtain rfl := Option.some.inj H
      have hcz7_0 : wr.cell? ⟨gb335,0,none⟩ = some (.bool true) := (q0i BK335.out 0).trans rfl
      have hcz7_1 : wr.cell? ⟨gb335,1,none⟩ = some (.slice A0_1 l0_1.length c0_1) := (q0i BK335.out 1).trans rfl
      have hfz7_0 := q0k BK335.out 0
      have hfz7_1 := q0k BK335.out 1
      go_wp2_with (first | ((with_reducible refine q00 (f := 60) rfl ?_);refine goesL_ (some 10) rfl rfl Try.func60 (by kernel_rfl) rfl #[.agg #[.bool true,.slice A0_1 l0_1.length c0_1],.int .i64 x3_1] rfl (by (try simp only [List.map_toArray,List.map_cons,List.map_nil]);first | done | rfl | (simp only [List.length_drop,List.length_take];rfl)) ?_;(with_reducible refine (verdererref03_Big_at.calls true _ _ l0_1 x3_1 t336 _ ?side1 ?side2 A4.out).mono ?_);(case side1 => repeat (first | exact (Kd.C_below HR0_1.out HB.out) | (with_reducible refine Kd.C_alloc ?_ _) | (with_reducible refine Kd.C_drewN ?_ _) | (with_reducible refine Kd.C_drew ?_)));(case side2 => exact HC0_1.out);rintro e w8 ⟨rfl,hb⟩;refine ⟨_,rfl,?_⟩;have n0_ := Aside0.mk (q0q (g := gb335) (o := .cells #[.bool true,.slice A0_1 l0_1.length c0_1] 29 (0,0)) (by (with_reducible repeat (first | refine q0b ?_ _ | refine q0c ?_ | refine q0a ?_ _));exact BK335.out) hb);have n1_ := Aside0.mk (q0s (by repeat (first | (with_reducible first | exact HB.out | apply q0h | apply q0d | apply q0f | refine q0g ?_ GE335.out) | exact HB.out)) hb);clear BK335;clear HB;have BK335 := n0_;have HB := n1_;clear n0_ n1_;(try clear hb);(try clear hb2);(try clear hk);(try clear hi);have hcz9_0 : w8.cell? ⟨gb335,0,none⟩ = some (.bool true) := (q0i BK335.out 0).trans rfl;have hcz9_1 : w8.cell? ⟨gb335,1,none⟩ = some (.slice A0_1 l0_1.length c0_1) := (q0i BK335.out 1).trans rfl;have hfz9_0 := q0k BK335.out 0;have hfz9_1 := q0k BK335.out 1))
      go_ret
      exact ⟨by first | rfl | (simp [q0w,q0x] <;> rfl) | (simp [*,q0w,q0x] <;> rfl),by repeat (first | (with_reducible first | exact HB.out | apply q0h | apply q0d | apply q0f | refine q0g ?_ GE335.out) | exact HB.out)⟩
     ·replace c6 := Bool.eq_false_iff.mpr c6
      subst c6
      have H1 : (some 1) = some r := by rw [if_neg (show ¬ (false = true) by decide)] at H;exact H
      clear H
      have H := H1
      clear H1
      obtain rfl := Option.some.inj H
      have hcz10_0 : wr.cell? ⟨gb335,0,none⟩ = some (.bool false) := (q0i BK335.out 0).trans rfl
      have hcz10_1 : wr.cell? ⟨gb335,1,none⟩ = some (.slice A0_1 l0_1.length c0_1) := (q0i BK335.out 1).trans rfl
      have hfz10_0 := q0k BK335.out 0
      have hfz10_1 := q0k BK335.out 1
      go_wp2_with (first | ((with_reducible refine q00 (f := 60) rfl ?_);refine goesL_ (some 10) rfl rfl Try.func60 (by kernel_rfl) rfl #[.agg #[.bool false,.slice A0_1 l0_1.length c0_1],.int .i64 x3_1] rfl (by (try simp only [List.map_toArray,List.map_cons,List.map_nil]);first | done | rfl | (simp only [List.length_drop,List.length_take];rfl)) ?_;(with_reducible refine (verdererref03_Big_at.calls false _ _ l0_1 x3_1 t336 _ ?side1 ?side2 A4.out).mono ?_);(case side1 => repeat (first | exact (Kd.C_below HR0_1.out HB.out) | (with_reducible refine Kd.C_alloc ?_ _) | (with_reducible refine Kd.C_drewN ?_ _) | (with_reducible refine Kd.C_drew ?_)));(case side2 => exact HC0_1.out);rintro e w11 ⟨rfl,hb⟩;refine ⟨_,rfl,?_⟩;have n0_ := Aside0.mk (q0q (g := gb335) (o := .cells #[.bool false,.slice A0_1 l0_1.length c0_1] 29 (0,0)) (by (with_reducible repeat (first | refine q0b ?_ _ | refine q0c ?_ | refine q0a ?_ _));exact BK335.out) hb);have n1_ := Aside0.mk (q0s (by repeat (first | (with_reducible first | exact HB.out | apply q0h | apply q0d | apply q0f | refine q0g ?_ GE335.out) | exact HB.out)) hb);clear BK335;clear HB;have BK335 := n0_;have HB := n1_;clear n0_ n1_;(try clear hb);(try clear hb2);(try clear hk);(try clear hi);have hcz12_0 : w11.cell? ⟨gb335,0,none⟩ = some (.bool false) := (q0i BK335.out 0).trans rfl;have hcz12_1 : w11.cell? ⟨gb335,1,none⟩ = some (.slice A0_1 l0_1.length c0_1) := (q0i BK335.out 1).trans rfl;have hfz12_0 := q0k BK335.out 0;have hfz12_1 := q0k BK335.out 1))
      go_ret
      exact ⟨by first | rfl | (simp [q0w,q0x] <;> rfl) | (simp [*,q0w,q0x] <;> rfl),by repeat (first | (with_reducible first | exact HB.out | apply q0h | apply q0d | apply q0f | refine q0g ?_ GE335.out) | exact HB.out)⟩
    ·rw [if_neg c5] at H
     have c5b0 : decide (0 < t336) = false := decide_eq_false c5
     clear c5
     have H' := Aside0.mk H
     clear H
     have hcz13_0 : wr.cell? ⟨gb335,0,none⟩ = some (.bool a0_0) := (q0i BK335.out 0).trans rfl
     have hcz13_1 : wr.cell? ⟨gb335,1,none⟩ = some (.slice A0_1 l0_1.length c0_1) := (q0i BK335.out 1).trans rfl
     have hfz13_0 := q0k BK335.out 0
     have hfz13_1 := q0k BK335.out 1
     go_wp2_with (first | ((with_reducible refine q00 (f := 60) rfl ?_);refine goesL_ (some 10) rfl rfl Try.func60 (by kernel_rfl) rfl #[.agg #[.bool a0_0,.slice A0_1 l0_1.length c0_1],.int .i64 x3_1] rfl (by (try simp only [List.map_toArray,List.map_cons,List.map_nil]);first | done | rfl | (simp only [List.length_drop,List.length_take];rfl)) ?_;(with_reducible refine (verdererref03_Big_at.calls a0_0 _ _ l0_1 x3_1 t336 _ ?side1 ?side2 A4.out).mono ?_);(case side1 => repeat (first | exact (Kd.C_below HR0_1.out HB.out) | (with_reducible refine Kd.C_alloc ?_ _) | (with_reducible refine Kd.C_drewN ?_ _) | (with_reducible refine Kd.C_drew ?_)));(case side2 => exact HC0_1.out);rintro e w14 ⟨rfl,hb⟩;refine ⟨_,rfl,?_⟩;have n0_ := Aside0.mk (q0q (g := gb335) (o := .cells #[.bool a0_0,.slice A0_1 l0_1.length c0_1] 29 (0,0)) (by (with_reducible repeat (first | refine q0b ?_ _ | refine q0c ?_ | refine q0a ?_ _));exact BK335.out) hb);have n1_ := Aside0.mk (q0s (by repeat (first | (with_reducible first | exact HB.out | apply q0h | apply q0d | apply q0f | refine q0g ?_ GE335.out) | exact HB.out)) hb);clear BK335;clear HB;have BK335 := n0_;have HB := n1_;clear n0_ n1_;(try clear hb);(try clear hb2);(try clear hk);(try clear hi)))
     go_roundg k1
     case measure => have := HK1.out;omega
     case rel => exact ⟨(wrap64 (x3_1 + 1)),(by first | rfl | (simp;done) | (simp [*];done)),H',⟨by have := HK1.out;omega⟩,⟨by (with_reducible repeat (first | refine q0b ?_ _ | refine q0c ?_ | refine q0a ?_ _));exact BK335.out⟩,⟨by repeat (first | (with_reducible first | exact HB.out | apply q0h | apply q0d | apply q0f | refine q0g ?_ GE335.out) | exact HB.out)⟩⟩
   ·rw [if_neg c3] at H
    have c3b0 : decide (x3_1 < 20) = false := decide_eq_false c3
    clear c3
    obtain rfl := Option.some.inj H
    go_wp2
    go_ret
    exact ⟨by first | rfl | (simp [q0w,q0x] <;> rfl) | (simp [*,q0w,q0x] <;> rfl),by repeat (first | (with_reducible first | exact HB.out | apply q0h | apply q0d | apply q0f | refine q0g ?_ GE335.out) | exact HB.out)⟩
end Go.Proofs.Ytcenlehfbgnphaa.Z
end
section
namespace Go.Proofs.Ytcenlehfbgnphaa.Z
open Go.RowKit Go.Proofs.YtcenlehfbgnphaaW.PrintWords Go.Proofs.YtcenlehfbgnphaaW.PrintLast Go.Proofs.YtcenlehfbgnphaaW.PrintMore
attribute [local go_sem] max2_int min2_int max_two min_two max_three min_three max_four min_four
set_option linter.unusedVariables false
set_option linter.unusedSimpArgs false
mutual
def verdererref03_big.j0 : Nat → Int → Int → Option (Bool × List Int)
 | 0,_,_ => none
 | k + 1,x0,x3 => verdererref03_big.l0 k x3 0 (decide (x0 < 0)) ([] : List Int)
def verdererref03_big.l0 : Nat → Int → Int → Bool → List Int → Option (Bool × List Int)
 | 0,_,_,_,_ => none
 | k + 1,x3,x5,x136000,x136001 => if x5 < 4 then (if x136001.length < 17592186044416 then (verdererref03_big.l0 k (IntKind.u64.wrap (Int.tdiv x3 65536)) (wrap64 (x5 + 1)) x136000 (x136001 ++ [Int.tmod x3 65536])) else (none)) else (some (x136000,x136001))
end
def verdererref03_big.f (k : Nat) (a0 : Int) : Option (Bool × List Int) := if a0 < 0 then (verdererref03_big.j0 k a0 (IntKind.u64.wrap (-(IntKind.u64.wrap (a0))))) else (verdererref03_big.j0 k a0 (IntKind.u64.wrap (a0)))
theorem verdererref03_big.mono_l : ∀ k,(∀ y0 y1,LeO (verdererref03_big.j0 k y0 y1) (verdererref03_big.j0 (k + 1) y0 y1)) ∧ (∀ y0 y1 y2 y3,LeO (verdererref03_big.l0 k y0 y1 y2 y3) (verdererref03_big.l0 (k + 1) y0 y1 y2 y3))
 | 0 => ⟨fun _ _ r h => by simp [verdererref03_big.j0] at h,fun _ _ _ _ r h => by simp [verdererref03_big.l0] at h⟩
 | k + 1 => by
  obtain ⟨ih0,ih1⟩ := verdererref03_big.mono_l k
  refine ⟨?_,?_⟩
  ·intro y0 y1
   unfold verdererref03_big.j0
   repeat' first
   | (with_reducible exact ih0 _ _)
   | (with_reducible exact ih1 _ _ _ _)
   | (with_reducible exact LeO.refl _)
   | (with_reducible exact LeO.none _)
   | (with_reducible refine LeO.ite ?_ ?_)
   | (with_reducible refine LeO.bind ?_ (fun _ => ?_))
   | exact ih0 _ _
   | exact ih1 _ _ _ _
   | exact LeO.none _
   | refine LeO.ite ?_ ?_
   | refine LeO.bind ?_ (fun _ => ?_)
  ·intro y0 y1 y2 y3
   unfold verdererref03_big.l0
   repeat' first
   | (with_reducible exact ih0 _ _)
   | (with_reducible exact ih1 _ _ _ _)
   | (with_reducible exact LeO.refl _)
   | (with_reducible exact LeO.none _)
   | (with_reducible refine LeO.ite ?_ ?_)
   | (with_reducible refine LeO.bind ?_ (fun _ => ?_))
   | exact ih0 _ _
   | exact ih1 _ _ _ _
   | exact LeO.none _
   | refine LeO.ite ?_ ?_
   | refine LeO.bind ?_ (fun _ => ?_)
theorem verdererref03_big.mono : ∀ a0 k,LeO (verdererref03_big.f k a0) (verdererref03_big.f (k + 1) a0) := by
 intro a0 k
 obtain ⟨ih0,ih1⟩ := verdererref03_big.mono_l k
 unfold verdererref03_big.f
 repeat' first
   | (with_reducible exact ih0 _ _)
   | (with_reducible exact ih1 _ _ _ _)
   | (with_reducible exact LeO.refl _)
   | (with_reducible exact LeO.none _)
   | (with_reducible refine LeO.ite ?_ ?_)
   | (with_reducible refine LeO.bind ?_ (fun _ => ?_))
   | exact ih0 _ _
   | exact ih1 _ _ _ _
   | exact LeO.none _
   | refine LeO.ite ?_ ?_
   | refine LeO.bind ?_ (fun _ => ?_)
set_option maxHeartbeats 8000000 in
set_option maxRecDepth 100000 in
theorem verdererref03_big.calls (k : Nat) (a0 : Int) (r1 : Bool) (r2 : List Int) (w : World) (h : verdererref03_big.f k a0 = some (r1,r2)) :
  Calls Try.prog 61 #[.int .i64 a0] w fun e w' => ∃ v1_ : Value,e = .returned (.agg #[.bool r1,v1_]) ∧ Kd.R (Kd.int .u64) 96 w' w.heap.size (fun _ => True) v1_ r2 ∧ Below w.heap.size w w' := by
 have hu29 := Try.underlying29
 have HB := Aside0.mk (Below.refl w.heap.size w)
 have H : (if a0 < 0 then (verdererref03_big.j0 k a0 (IntKind.u64.wrap (-(IntKind.u64.wrap (a0))))) else (verdererref03_big.j0 k a0 (IntKind.u64.wrap (a0)))) = some (r1,r2) := h
 clear h
 have HC2 := Aside0.mk H
 clear H
 go_enter Try.func61,Try.ntmps61
 go_upto_if 9 with (first | ((with_reducible refine gate_dst (N := 2) rfl ?_);refine q03 ?hg (N := 2) ?hd (cs := #[.bool false,.slice none 0 0]) (t := 29) ?hr ?_;(case hd => rfl);(case hg => rfl);(case hr => first | (go_simp;done) | (go_simp;rfl));intro gb134 hg w3 hbox hb;have n0_ := Aside0.mk (q0s (by repeat (first | (with_reducible first | exact HB.out | apply q0h | apply q0d | apply q0f) | exact HB.out)) hb);have n1_ := Aside0.mk (hbox);have n2_ := Aside0.mk ((by rw [hg];exact (q0p (by repeat (first | (with_reducible first | exact HB.out | apply q0h | apply q0d | apply q0f) | exact HB.out))) : w.heap.size ≤ gb134));have n3_ := Aside0.mk ((by rw [hg];exact (q0p (by repeat (first | (with_reducible first | exact HB.out | apply q0h | apply q0d | apply q0f) | exact HB.out))) : w.heap.size ≤ gb134));clear HB;have HB := n0_;have BK134 := n1_;have GW134 := n2_;have GE134 := n3_;clear n0_ n1_ n2_ n3_;clear hb hbox hg))
 (try simp only [Act.put,zA,zB,zC])
 go_cut [3] (fun v3 wc => ∃ (kq : Nat) (x3_1 : Int),v3 = .int .u64 x3_1 ∧ Aside0 (verdererref03_big.j0 kq a0 x3_1 = some (r1,r2)) ∧ Aside0 (kq ≤ k) ∧ Aside0 (wc.heap[gb134]? = some (.cells #[.bool false,(.slice none 0 0)] 29 (0,0))) ∧ Aside0 (Below w.heap.size w wc))
 case first =>
  have H := HC2.out
  clear HC2
  by_cases c4 : a0 < 0
  ·rw [if_pos c4] at H
   have c4b0 : decide (a0 < 0) = true := decide_eq_true c4
   clear c4
   (first | rw [c4b0] | (simp only [i64_w,i32_w];rw [c4b0]) | skip)
   have H' := Aside0.mk H
   clear H
   go_wp2
   go_meet
   case rel => exact ⟨_,(IntKind.u64.wrap (-(IntKind.u64.wrap (a0)))),(by first | rfl | (simp;done) | (simp [*];done)),H',⟨by first | omega | exact Nat.le_refl _⟩,⟨by (with_reducible repeat (first | refine q0b ?_ _ | refine q0c ?_ | refine q0a ?_ _));exact BK134.out⟩,⟨by repeat (first | (with_reducible first | exact HB.out | apply q0h | apply q0d | apply q0f | refine q0g ?_ GE134.out) | exact HB.out)⟩⟩
  ·rw [if_neg c4] at H
   have c4b0 : decide (a0 < 0) = false := decide_eq_false c4
   clear c4
   (first | rw [c4b0] | (simp only [i64_w,i32_w];rw [c4b0]) | skip)
   have H' := Aside0.mk H
   clear H
   go_wp2
   go_meet
   case rel => exact ⟨_,(IntKind.u64.wrap (a0)),(by first | rfl | (simp;done) | (simp [*];done)),H',⟨by first | omega | exact Nat.le_refl _⟩,⟨by (with_reducible repeat (first | refine q0b ?_ _ | refine q0c ?_ | refine q0a ?_ _));exact BK134.out⟩,⟨by repeat (first | (with_reducible first | exact HB.out | apply q0h | apply q0d | apply q0f | refine q0g ?_ GE134.out) | exact HB.out)⟩⟩
 case rest =>
  clear HC2
  try clear p2
  try clear c4
  try clear c4b0
  obtain ⟨kq,x3_1,rfl,HA,HJ1,BK134,HB⟩ := hcut
  cases kq with
  | zero => exact absurd HA.out (by simp [verdererref03_big.j0])
  | succ kj1 =>
   have H := HA.out
   clear HA
   simp only [verdererref03_big.j0] at H
   have H' := Aside0.mk H
   clear H
   go_wp2_with (first | ((with_reducible refine gate_dst (N := 4) rfl ?_);refine q03 ?hg (N := 4) ?hd (cs := #[.bool false,.slice none 0 0]) (t := 29) ?hr ?_;(case hd => rfl);(case hg => rfl);(case hr => first | (go_simp;done) | (go_simp;rfl));intro gb135 hg w5 hbox hb;have n0_ := Aside0.mk (q0q (g := gb134) (o := .cells #[.bool false,.slice none 0 0] 29 (0,0)) (by (with_reducible repeat (first | refine q0b ?_ _ | refine q0c ?_ | refine q0a ?_ _));exact BK134.out) hb);have n1_ := Aside0.mk (q0s (by repeat (first | (with_reducible first | exact HB.out | apply q0h | apply q0d | apply q0f | refine q0g ?_ GE134.out) | exact HB.out)) hb);have n2_ := Aside0.mk (hbox);have n3_ := Aside0.mk ((by rw [hg];exact (q0p (by repeat (first | (with_reducible first | exact HB.out | apply q0h | apply q0d | apply q0f | refine q0g ?_ GE134.out) | exact HB.out))) : w.heap.size ≤ gb135));have n4_ := Aside0.mk ((by rw [hg];exact (q0p (by repeat (first | (with_reducible first | exact HB.out | apply q0h | apply q0d | apply q0f | refine q0g ?_ GE134.out) | exact HB.out))) : w.heap.size ≤ gb135));have n5_ := Aside0.mk ((by rw [hg];exact Nat.ne_of_lt (q0y (g := gb134) (o := .cells #[.bool false,.slice none 0 0] 29 (0,0)) (by (with_reducible repeat (first | refine q0b ?_ _ | refine q0c ?_ | refine q0a ?_ _));exact BK134.out)) : gb134 ≠ gb135));have n6_ := Aside0.mk ((by rw [hg];exact Nat.ne_of_gt (q0y (g := gb134) (o := .cells #[.bool false,.slice none 0 0] 29 (0,0)) (by (with_reducible repeat (first | refine q0b ?_ _ | refine q0c ?_ | refine q0a ?_ _));exact BK134.out)) : gb135 ≠ gb134));clear BK134;clear HB;have BK134 := n0_;have HB := n1_;have BK135 := n2_;have GW135 := n3_;have GE135 := n4_;have NB134_135 := n5_;have NB135_134 := n6_;clear n0_ n1_ n2_ n3_ n4_ n5_ n6_;clear hb hbox hg;have hnb6 := NB135_134.out;have hnc6 := NB134_135.out;have hcz7_0 : w5.cell? ⟨gb135,0,none⟩ = some (.bool false) := (q0i BK135.out 0).trans rfl;have hcz7_1 : w5.cell? ⟨gb135,1,none⟩ = some (.slice none 0 0) := (q0i BK135.out 1).trans rfl;have hfz7_0 := q0k BK135.out 0;have hfz7_1 := q0k BK135.out 1))
   go_loopg [3,5] kj1 (fun kq v3 v5 w' => ∃ (x3_2 : Int) (x5_2 : Int) (x136001_2 : List Int) (u136001 : Value),v3 = .int .u64 x3_2 ∧ v5 = .int .i64 x5_2 ∧ Aside0 (verdererref03_big.l0 kq x3_2 x5_2 (decide (a0 < 0)) x136001_2 = some (r1,r2)) ∧ Aside0 (kq ≤ kj1) ∧ Aside0 (Kd.R (Kd.int .u64) 96 w' w.heap.size (fun _ => True) u136001 x136001_2) ∧ Aside0 (w'.heap[gb134]? = some (.cells #[.bool false,(.slice none 0 0)] 29 (0,0))) ∧ Aside0 (w'.heap[gb135]? = some (.cells #[.bool (decide (a0 < 0)),u136001] 29 (0,0))) ∧ Aside0 (Below w.heap.size w w'))
   case atStart => exact ⟨(x3_1),(0),(([] : List Int)),(.slice none 0 0),(by first | rfl | (simp;done) | (simp [*];done)),(by first | rfl | (simp;done) | (simp [*];done)),H',⟨Nat.le_refl _⟩,⟨by first | exact Kd.R_nil _ _ _ _ _ | exact Kd.N_nil _ _ _ _ _ | exact Kd.V_nil _ _ _ _ _ | exact Kd.Q_nil _ _ _ _ _ | exact Kd.S_nil _ _ _ _ _⟩,⟨by (with_reducible repeat (first | refine q0b ?_ _ | refine q0c ?_ | refine q0a ?_ _));refine q0u ?_ NB134_135.out _;(with_reducible repeat (first | refine q0b ?_ _ | refine q0c ?_ | refine q0a ?_ _));refine q0u ?_ NB134_135.out _;(with_reducible repeat (first | refine q0b ?_ _ | refine q0c ?_ | refine q0a ?_ _));exact BK134.out⟩,⟨by (with_reducible repeat (first | refine q0b ?_ _ | refine q0c ?_ | refine q0a ?_ _));refine q0t (cs := #[.bool (decide (a0 < 0)),.slice none 0 0]) ?_ 1 _ rfl;(with_reducible repeat (first | refine q0b ?_ _ | refine q0c ?_ | refine q0a ?_ _));refine q0t (cs := #[.bool false,.slice none 0 0]) ?_ 0 _ rfl;(with_reducible repeat (first | refine q0b ?_ _ | refine q0c ?_ | refine q0a ?_ _));exact BK135.out⟩,⟨by repeat (first | (with_reducible first | exact HB.out | apply q0h | apply q0d | apply q0f | refine q0g ?_ GE134.out | refine q0g ?_ GE135.out) | exact HB.out)⟩⟩
   case round =>
    clear H'
    try clear p2
    try clear c4
    try clear c4b0
    try clear c6
    try clear hcz7_0
    try clear hcz7_1
    try clear hfz7_0
    try clear hfz7_1
    try clear p2
    obtain ⟨x3_2,x5_2,x136001_2,u136001,rfl,rfl,HA,HK2,HO_136001,BK134,BK135,HB⟩ := hrel
    cases gk with
    | zero => exact absurd HA.out (by simp [verdererref03_big.l0])
    | succ k2 =>
     have H := HA.out
     clear HA
     simp only [verdererref03_big.l0] at H
     by_cases c8 : x5_2 < 4
     ·rw [if_pos c8] at H
      have c8b0 : decide (x5_2 < 4) = true := decide_eq_true c8
      clear c8
      by_cases c9 : x136001_2.length < 17592186044416
      ·rw [if_pos c9] at H
       have LMc9 := Aside0.mk c9
       clear c9
       obtain ⟨y136,hy136⟩ : ∃ y_ : List Int,y_ = (x136001_2 ++ [Int.tmod x3_2 65536]) := ⟨_,rfl⟩
       replace H : (verdererref03_big.l0 k2 (IntKind.u64.wrap (Int.tdiv x3_2 65536)) (wrap64 (x5_2 + 1)) (decide (a0 < 0)) y136) = some (r1,r2) := by first | (rw [hy136];with_reducible exact H) | (have H2_ := (Option.bind_some _ _).symm.trans H;rw [hy136];with_reducible exact H2_) | (have H2_ := (Option.bind_some _ _).symm.trans H;with_reducible exact H2_) | with_reducible exact H | (rw [hy136];exact H) | exact H
       have Ny136 := Aside0.mk hy136
       clear hy136
       have H' := Aside0.mk H
       clear H
       have hnb10 := NB135_134.out
       have hnc10 := NB134_135.out
       have hcz11_0 : wr.cell? ⟨gb135,0,none⟩ = some (.bool (decide (a0 < 0))) := (q0i BK135.out 0).trans rfl
       have hcz11_1 : wr.cell? ⟨gb135,1,none⟩ = some (u136001) := (q0i BK135.out 1).trans rfl
       have hfz11_0 := q0k BK135.out 0
       have hfz11_1 := q0k BK135.out 1
       go_wp2_with (first | ((with_reducible refine gate_builtin (b := .append) (xs := #[.tmp 20,.tmp 23]) rfl ?_);at_builtin;refine Kd.R_append (Kd.int .u64) (w0 := w) w.heap.size rfl (.tmp 20) (.tmp 23) 27 96 (.int .u64 0) 8 rfl Try.underlying27 info96 rfl (by decide) (by omega) u136001 x136001_2 (Int.tmod x3_2 65536) [.int .u64 (Int.tmod x3_2 65536)] (fun _ => True) (fun _ => False) rfl rfl ?aP (fun _ hk => hk.elim) ?aF ?aO ?aB ?aS ?aL ?_;(case aP => exact rfl);(case aB => exact (by repeat (first | (with_reducible first | exact HB.out | apply q0h | apply q0d | apply q0f | refine q0g ?_ GE134.out | refine q0g ?_ GE135.out) | exact HB.out)));(case aF => exact (fun _ _ => trivial));(case aO => exact (by (with_reducible repeat (first | apply Kd.q0m | apply Kd.q0n | apply Kd.q0o));exact HO_136001.out));(case aS => exact (q0p (by repeat (first | (with_reducible first | exact HB.out | apply q0h | apply q0d | apply q0f | refine q0g ?_ GE134.out | refine q0g ?_ GE135.out) | exact HB.out))));(case aL => have := LMc9.out;omega);intro v137 w12 ho hb hg hat;rw [← Ny136.out] at ho;have n0_ := Aside0.mk (blk_grown (g := gb134) (o := .cells #[.bool false,.slice none 0 0] 29 (0,0)) (by (with_reducible repeat (first | refine q0b ?_ _ | refine q0c ?_ | refine q0a ?_ _));exact BK134.out) hg (Kd.R_ne HO_136001.out BK134.out (by decide)));have n1_ := Aside0.mk (blk_grown (g := gb135) (o := .cells #[.bool (decide (a0 < 0)),u136001] 29 (0,0)) (by (with_reducible repeat (first | refine q0b ?_ _ | refine q0c ?_ | refine q0a ?_ _));exact BK135.out) hg (Kd.R_ne HO_136001.out BK135.out (by decide)));have n2_ := Aside0.mk (hb);have n3_ := Aside0.mk (ho);clear BK134;clear BK135;clear HB;clear HO_136001;have BK134 := n0_;have BK135 := n1_;have HB := n2_;have HO138 := n3_;clear n0_ n1_ n2_ n3_;clear ho hb hg hat;obtain ⟨Ao13,co13,eo13⟩ := Kd.R_slice HO138.out;subst eo13;have hcz14_0 : w12.cell? ⟨gb135,0,none⟩ = some (.bool (decide (a0 < 0))) := (q0i BK135.out 0).trans rfl;have hcz14_1 : w12.cell? ⟨gb135,1,none⟩ = some (u136001) := (q0i BK135.out 1).trans rfl;have hfz14_0 := q0k BK135.out 0;have hfz14_1 := q0k BK135.out 1))
       go_roundg k2
       case measure => have := HJ1.out;have := HK2.out;omega
       case rel => exact ⟨(IntKind.u64.wrap (Int.tdiv x3_2 65536)),(wrap64 (x5_2 + 1)),(y136),(.slice Ao13 y136.length co13),(by first | rfl | (simp;done) | (simp [*];done)),(by first | rfl | (simp;done) | (simp [*];done)),H',⟨by have := HJ1.out;have := HK2.out;omega⟩,⟨by (with_reducible repeat (first | apply Kd.q0m | apply Kd.q0n | apply Kd.q0o));exact Kd.R_mono (Kd.R_far (p := ⟨gb135,1,none⟩) (Kd.R_types HO138.out BK135.out (by decide)) (fun _ hk => hk.2) (.slice Ao13 y136.length co13)) (fun _ hk => trivial)⟩,⟨by (with_reducible repeat (first | refine q0b ?_ _ | refine q0c ?_ | refine q0a ?_ _));refine q0u ?_ NB134_135.out _;(with_reducible repeat (first | refine q0b ?_ _ | refine q0c ?_ | refine q0a ?_ _));exact BK134.out⟩,⟨by (with_reducible repeat (first | refine q0b ?_ _ | refine q0c ?_ | refine q0a ?_ _));refine q0t (cs := #[.bool (decide (a0 < 0)),u136001]) ?_ 1 _ rfl;(with_reducible repeat (first | refine q0b ?_ _ | refine q0c ?_ | refine q0a ?_ _));exact BK135.out⟩,⟨by repeat (first | (with_reducible first | exact HB.out | apply q0h | apply q0d | apply q0f | refine q0g ?_ GE134.out | refine q0g ?_ GE135.out) | exact HB.out)⟩⟩
      ·rw [if_neg c9] at H
       exact absurd H (by simp)
     ·rw [if_neg c8] at H
      have c8b0 : decide (x5_2 < 4) = false := decide_eq_false c8
      clear c8
      simp only [Option.some.injEq,Prod.mk.injEq] at H
      obtain ⟨rfl,rfl⟩ := H
      have hnb15 := NB135_134.out
      have hnc15 := NB134_135.out
      have hcz16_0 : wr.cell? ⟨gb135,0,none⟩ = some (.bool (decide (a0 < 0))) := (q0i BK135.out 0).trans rfl
      have hcz16_1 : wr.cell? ⟨gb135,1,none⟩ = some (u136001) := (q0i BK135.out 1).trans rfl
      have hfz16_0 := q0k BK135.out 0
      have hfz16_1 := q0k BK135.out 1
      have hcz17_0 : wr.cell? ⟨gb134,0,none⟩ = some (.bool false) := (q0i BK134.out 0).trans rfl
      have hcz17_1 : wr.cell? ⟨gb134,1,none⟩ = some (.slice none 0 0) := (q0i BK134.out 1).trans rfl
      have hfz17_0 := q0k BK134.out 0
      have hfz17_1 := q0k BK134.out 1
      obtain ⟨Ao18,co18,eo18⟩ := Kd.R_slice HO_136001.out
      subst eo18
      go_wp2
      refine bodyPost_ret (results_cell_row rfl _ _ gb134 29 #[.bool (decide (a0 < 0)),.slice Ao18 x136001_2.length co18] (0,0) _ rfl (by (with_reducible repeat (first | refine q0b ?_ _ | refine q0c ?_ | refine q0a ?_ _));refine q0t (cs := #[.bool (decide (a0 < 0)),.slice none 0 0]) ?_ 1 _ rfl;(with_reducible repeat (first | refine q0b ?_ _ | refine q0c ?_ | refine q0a ?_ _));refine q0t (cs := #[.bool false,.slice none 0 0]) ?_ 0 _ rfl;(with_reducible repeat (first | refine q0b ?_ _ | refine q0c ?_ | refine q0a ?_ _));exact BK134.out) Try.underlying29 rfl (by kernel_rfl)) rfl ?_
      exact ⟨_,by first | rfl | (simp [q0w,q0x] <;> rfl) | (simp [*,q0w,q0x] <;> rfl),by (with_reducible repeat (first | apply Kd.q0m | apply Kd.q0n | apply Kd.q0o));exact Kd.R_mono (Kd.R_far (p := ⟨gb134,1,none⟩) (Kd.R_far (p := ⟨gb134,0,none⟩) (Kd.R_types HO_136001.out BK134.out (by decide)) (fun _ hk => hk.2) (.bool (decide (a0 < 0)))) (fun _ hk => hk.2) (.slice Ao18 x136001_2.length co18)) (fun _ hk => trivial),by repeat (first | (with_reducible first | exact HB.out | apply q0h | apply q0d | apply q0f | refine q0g ?_ GE134.out | refine q0g ?_ GE135.out) | exact HB.out)⟩
end Go.Proofs.Ytcenlehfbgnphaa.Z
end
