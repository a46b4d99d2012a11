/- Parts of the proof of QuotaLess: what its functions answer. -/
import Derived.Test.YtcenlehfbgnphaaMQuotaLessa
import Derived.RegionTactic
import Derived.BigRegion
import Derived.Deep.QuietTactic
import Derived.BigQuiet
import Derived.ChangeAlike
import Derived.Laws.Bits64
import Derived.Laws.BitsLemmas
import Derived.ChangeKeysEq
import Derived.Outline
section
namespace Go.Proofs.Ytcenlehfbgnphaa.Z
open Go.RowKit Go.Proofs.YtcenlehfbgnphaaW.PrintWords Go.Proofs.YtcenlehfbgnphaaW.PrintLast Go.Proofs.YtcenlehfbgnphaaW.PrintMore
attribute [local go_sem] max2_int min2_int max_two min_two max_three min_three max_four min_four
set_option linter.unusedVariables false
set_option linter.unusedSimpArgs false
def safe_fits.f (a0 : Int) (a1 : Bool) : Option (Int × Int) := if a1 = true then (some (a0,0)) else (some (0,10))
set_option maxHeartbeats 8000000 in
set_option maxRecDepth 100000 in
theorem safe_fits.calls (a0 : Int) (a1 : Bool) (r1 : Int) (r2 : Int) (w : World) (h : safe_fits.f a0 a1 = some (r1,r2)) :
  Calls Try.prog 62 #[.int .i64 a0,.bool a1] w fun e w' => e = .returned (.tuple #[.int .i64 r1,.int .i64 r2]) ∧ Drawn0 w w' := by
 have H : (if a1 = true then (some (a0,0)) else (some (0,10))) = some (r1,r2) := h
 clear h
 by_cases c3 : a1 = true
 ·subst c3
  have H1 : (some (a0,0)) = some (r1,r2) := by rw [if_pos rfl] at H;exact H
  clear H
  have H := H1
  clear H1
  simp only [Option.some.injEq,Prod.mk.injEq] at H
  obtain ⟨rfl,rfl⟩ := H
  go_enter Try.func62,Try.ntmps62
  go_wp2
  go_ret2
  exact ⟨by first | rfl | (simp;done) | (simp [*];done),by repeat (first | exact Drawn0.refl _ | apply Drawn0.step)⟩
 ·replace c3 := Bool.eq_false_iff.mpr c3
  subst c3
  have H1 : (some (0,10)) = some (r1,r2) := by rw [if_neg (show ¬ (false = true) by decide)] at H;exact H
  clear H
  have H := H1
  clear H1
  simp only [Option.some.injEq,Prod.mk.injEq] at H
  obtain ⟨rfl,rfl⟩ := H
  go_enter Try.func62,Try.ntmps62
  go_wp2
  go_ret2
  exact ⟨by first | rfl | (simp;done) | (simp [*];done),by repeat (first | exact Drawn0.refl _ | apply Drawn0.step)⟩
end Go.Proofs.Ytcenlehfbgnphaa.Z
end
section
namespace Go.Proofs.Ytcenlehfbgnphaa.Z
set_option linter.unusedVariables false
set_option linter.unusedSimpArgs false
open Go.RowKit Go.Proofs.YtcenlehfbgnphaaW.PrintWords Go.Proofs.YtcenlehfbgnphaaW.PrintLast Go.Proofs.YtcenlehfbgnphaaW.PrintMore
def sumCells (x0 x1 x2 : Int) : Array Value := #[.int .i64 x0,.int .i64 x1,.int .i64 x2]
end Go.Proofs.Ytcenlehfbgnphaa.Z
end
section
namespace Go.Proofs.Ytcenlehfbgnphaa.Z
open Go.RowKit Go.Proofs.YtcenlehfbgnphaaW.PrintWords Go.Proofs.YtcenlehfbgnphaaW.PrintLast Go.Proofs.YtcenlehfbgnphaaW.PrintMore
attribute [local go_sem] max2_int min2_int max_two min_two max_three min_three max_four min_four
set_option linter.unusedVariables false
set_option linter.unusedSimpArgs false
def safe_Add.f (a0 : Int) (a1 : Int) : Option (Int × Int) := (safe_fits.f (wrap64 (a0 + a1)) (decide ((Go.bits .and .i64 (Go.bits .xor .i64 a0 (wrap64 (a0 + a1))) (Go.bits .xor .i64 a1 (wrap64 (a0 + a1)))) ≥ 0))).bind fun bt101 => (some (bt101.1,bt101.2))
set_option maxHeartbeats 8000000 in
set_option maxRecDepth 100000 in
theorem safe_Add.calls (a0 : Int) (a1 : Int) (r1 : Int) (r2 : Int) (w : World) (h : safe_Add.f a0 a1 = some (r1,r2)) :
  Calls Try.prog 23 #[.int .i64 a0,.int .i64 a1] w fun e w' => e = .returned (.tuple #[.int .i64 r1,.int .i64 r2]) ∧ Drawn0 w w' := by
 have H : ((safe_fits.f (wrap64 (a0 + a1)) (decide ((Go.bits .and .i64 (Go.bits .xor .i64 a0 (wrap64 (a0 + a1))) (Go.bits .xor .i64 a1 (wrap64 (a0 + a1)))) ≥ 0))).bind fun bt101 => (some (bt101.1,bt101.2))) = some (r1,r2) := h
 clear h
 replace H := Option.bind_eq_some_iff.mp H
 obtain ⟨⟨t101,t102⟩,A30,H⟩ := H
 replace H : (some (t101,t102)) = some (r1,r2) := H
 have A3 := Aside0.mk A30
 clear A30
 simp only [Option.some.injEq,Prod.mk.injEq] at H
 obtain ⟨rfl,rfl⟩ := H
 go_enter Try.func23,Try.ntmps23
 go_wp2_with (first | ((with_reducible refine q00 (f := 62) rfl ?_);refine goesL_ (some 19) rfl rfl Try.func62 (by kernel_rfl) rfl #[.int .i64 (wrap64 (a0 + a1)),.bool (decide ((Go.bits .and .i64 (Go.bits .xor .i64 a0 (wrap64 (a0 + a1))) (Go.bits .xor .i64 a1 (wrap64 (a0 + a1)))) ≥ 0))] rfl (by (try simp only [List.map_toArray,List.map_cons,List.map_nil]);first | done | rfl | (simp only [List.length_drop,List.length_take];rfl)) ?_;(with_reducible refine (safe_fits.calls (wrap64 (a0 + a1)) (decide ((Go.bits .and .i64 (Go.bits .xor .i64 a0 (wrap64 (a0 + a1))) (Go.bits .xor .i64 a1 (wrap64 (a0 + a1)))) ≥ 0)) t101 t102 _ A3.out).mono ?_);rintro e w' ⟨rfl,⟨nd,rfl⟩⟩;refine ⟨_,rfl,?_⟩))
 go_ret2
 exact ⟨by first | rfl | (simp;done) | (simp [*];done),by repeat (first | exact Drawn0.refl _ | apply Drawn0.step)⟩
end Go.Proofs.Ytcenlehfbgnphaa.Z
end
section
namespace Go.Proofs.Ytcenlehfbgnphaa.Z
open Go.RowKit Go.Proofs.YtcenlehfbgnphaaW.PrintWords Go.Proofs.YtcenlehfbgnphaaW.PrintLast Go.Proofs.YtcenlehfbgnphaaW.PrintMore
attribute [local go_sem] max2_int min2_int max_two min_two max_three min_three max_four min_four
set_option linter.unusedVariables false
set_option linter.unusedSimpArgs false
def safe_Sub.f (a0 : Int) (a1 : Int) : Option (Int × Int) := (safe_fits.f (wrap64 (a0 - a1)) (decide ((Go.bits .and .i64 (Go.bits .xor .i64 a0 a1) (Go.bits .xor .i64 a0 (wrap64 (a0 - a1)))) ≥ 0))).bind fun bt153 => (some (bt153.1,bt153.2))
set_option maxHeartbeats 8000000 in
set_option maxRecDepth 100000 in
theorem safe_Sub.calls (a0 : Int) (a1 : Int) (r1 : Int) (r2 : Int) (w : World) (h : safe_Sub.f a0 a1 = some (r1,r2)) :
  Calls Try.prog 25 #[.int .i64 a0,.int .i64 a1] w fun e w' => e = .returned (.tuple #[.int .i64 r1,.int .i64 r2]) ∧ Drawn0 w w' := by
 have H : ((safe_fits.f (wrap64 (a0 - a1)) (decide ((Go.bits .and .i64 (Go.bits .xor .i64 a0 a1) (Go.bits .xor .i64 a0 (wrap64 (a0 - a1)))) ≥ 0))).bind fun bt153 => (some (bt153.1,bt153.2))) = some (r1,r2) := h
 clear h
 replace H := Option.bind_eq_some_iff.mp H
 obtain ⟨⟨t153,t154⟩,A30,H⟩ := H
 replace H : (some (t153,t154)) = some (r1,r2) := H
 have A3 := Aside0.mk A30
 clear A30
 simp only [Option.some.injEq,Prod.mk.injEq] at H
 obtain ⟨rfl,rfl⟩ := H
 go_enter Try.func25,Try.ntmps25
 go_wp2_with (first | ((with_reducible refine q00 (f := 62) rfl ?_);refine goesL_ (some 19) rfl rfl Try.func62 (by kernel_rfl) rfl #[.int .i64 (wrap64 (a0 - a1)),.bool (decide ((Go.bits .and .i64 (Go.bits .xor .i64 a0 a1) (Go.bits .xor .i64 a0 (wrap64 (a0 - a1)))) ≥ 0))] rfl (by (try simp only [List.map_toArray,List.map_cons,List.map_nil]);first | done | rfl | (simp only [List.length_drop,List.length_take];rfl)) ?_;(with_reducible refine (safe_fits.calls (wrap64 (a0 - a1)) (decide ((Go.bits .and .i64 (Go.bits .xor .i64 a0 a1) (Go.bits .xor .i64 a0 (wrap64 (a0 - a1)))) ≥ 0)) t153 t154 _ A3.out).mono ?_);rintro e w' ⟨rfl,⟨nd,rfl⟩⟩;refine ⟨_,rfl,?_⟩))
 go_ret2
 exact ⟨by first | rfl | (simp;done) | (simp [*];done),by repeat (first | exact Drawn0.refl _ | apply Drawn0.step)⟩
end Go.Proofs.Ytcenlehfbgnphaa.Z
end
section
namespace Go.Proofs.Ytcenlehfbgnphaa.Z
open Go.RowKit Go.Proofs.YtcenlehfbgnphaaW.PrintWords Go.Proofs.YtcenlehfbgnphaaW.PrintLast Go.Proofs.YtcenlehfbgnphaaW.PrintMore
def In64 (x : Int) : Prop := -9223372036854775808 ≤ x ∧ x ≤ 9223372036854775807
theorem wrap_toInt (x : BitVec 64) : IntKind.i64.wrap (x.toNat : Int) = x.toInt := by
 rw [Go.IntKind.wrap_i64,BitVec.toInt_eq_toNat_bmod,Int.bmod_def]
 have := x.isLt
 split <;> omega
theorem and_i64 (a b : Int) : Go.bits .and .i64 a b = (BitVec.ofInt 64 a &&& BitVec.ofInt 64 b).toInt := wrap_toInt _
end Go.Proofs.Ytcenlehfbgnphaa.Z
end
section
namespace Go.Proofs.Ytcenlehfbgnphaa.Z
set_option linter.unusedVariables false
set_option linter.unusedSimpArgs false
open Go.RowKit Go.Proofs.YtcenlehfbgnphaaW.PrintWords Go.Proofs.YtcenlehfbgnphaaW.PrintLast Go.Proofs.YtcenlehfbgnphaaW.PrintMore
theorem only_refl (a : World) (g : Nat) : a.grownBy a (some g) := ⟨rfl,rfl,rfl,Nat.le_refl _,fun _ _ _ => rfl⟩
theorem only_drew {a w : World} {row : Option Nat} (h : a.grownBy w row) : a.grownBy w.drew row := ⟨h.os,h.tape,h.output,h.size,h.block⟩
theorem only_setCell {a w : World} {g : Nat} {p : Addr} (h : a.grownBy w (some g)) (hp : p.block = g ∨ a.heap.size ≤ p.block) (u : Value) : a.grownBy (w.setCell p u) (some g) :=
 ⟨h.os,h.tape,h.output,by simpa [World.setCell] using h.size,fun i hi hne => (Below.heap_setCell w p u i (by
  rintro rfl
  rcases hp with hp | hp
  ·exact hne (by rw [hp])
  ·omega)).trans (h.block i hi hne)⟩
theorem only_below {a w : World} {g B : Nat} (h : a.grownBy w (some g)) (hB : B ≤ g) (hg : g < a.heap.size) : Below B a w :=
 ⟨h.os,h.tape,h.output,h.size,fun i hi => h.block i (by omega) (by intro e;injection e with e;omega)⟩
theorem only_other {a w : World} {g k : Nat} {o : Obj} (h : a.grownBy w (some g)) (hk : a.heap[k]? = some o) (hne : k ≠ g) : w.heap[k]? = some o := by
 have hl : k < a.heap.size := by
  rcases Nat.lt_or_ge k a.heap.size with c | c
  ·exact c
  ·rw [Array.getElem?_eq_none c] at hk;exact absurd hk (by simp)
 rw [h.block k hl (by intro e;injection e with e;exact hne e)];exact hk
set_option maxHeartbeats 4000000 in
set_option maxRecDepth 100000 in
theorem sum_putg (g : Nat) (x0 x1 x2 n t L M X : Int) (w : World) (h : w.heap[g]? = some (.cells (sumCells x0 x1 x2) 26 (0,0))) (t0 : -1073741824 ≤ t) (t1 : t ≤ 1073741824)
  (hL : wrap64 (x2 + wrap64 (bits BinOp.and IntKind.i64 n 4294967295 * t)) = L) (hM : wrap64 (wrap64 (x1 + wrap64 (n / 4294967296 * t)) + L / 4294967296) = M) (hX : wrap64 (x0 + M / 4294967296) = X) :
  Calls Try.prog 15 #[.pointer (some ⟨g,0,none⟩),.int .i64 n,.int .i64 t] w fun e w' => e = .returned (.int .i64 0) ∧ w'.heap[g]? = some (.cells (sumCells X (bits BinOp.and IntKind.i64 M 4294967295) (bits BinOp.and IntKind.i64 L 4294967295)) 26 (0,0)) ∧ w.grownBy w' (some g) := by
 have z0 := q0k h 0
 have z1 := q0k h 1
 have z2 := q0k h 2
 have c0 := q0i h 0
 have c1 := q0i h 1
 have c2 := q0i h 2
 simp only [sumCells,List.getElem?_toArray,List.getElem?_cons_zero,List.getElem?_cons_succ] at c0 c1 c2
 have H := Aside0.mk h
 have HL := Aside0.mk hL
 have HM := Aside0.mk hM
 have HX := Aside0.mk hX
 clear h hL hM hX
 go_enter Try.func15,Try.ntmps15
 go_wp2
 rw [HL.out,HM.out]
 go_region
 rw [HX.out]
 have H1 : (w.setCell ⟨g,0,none⟩ (.int .i64 X)).heap[g]? = some (.cells #[.int .i64 X,.int .i64 x1,.int .i64 x2] 26 (0,0)) := q0t H.out 0 _ rfl
 have B1 := only_setCell (p := ⟨g,0,none⟩) (only_refl w g) (Or.inl rfl) (.int .i64 X)
 generalize w.setCell ⟨g,0,none⟩ (.int .i64 X) = W0 at H1 B1 ⊢
 have H1' := q0c H1
 have B1' := only_drew B1
 generalize W0.drew = W1 at H1' B1' ⊢
 clear H1 B1 H
 have H2 := q0c H1'
 have B2 := only_drew B1'
 go_wp2
 refine start_ (n := 14) (S := fun w' => True) (ds := []) #[false,false,false,false,false,false,false,false,false,false,false,false,false,false] (by kernel_rfl) rfl rfl trivial (fun hHeld => ?_)
 refine pure_ (i := 0) (N := some 53) (v := ?_) (a' := ?_) #[true,false,false,false,false,false,false,false,false,false,false,false,false,false] rfl rfl (by kernel_rfl) (fun _ _ _ h => h) (Or.inl ⟨by rfl,?_⟩) ?_ ?_
 rotate_left
 ·intro w'
  go_simp
  with_reducible rfl
 rotate_left
 ·simp only [Act.put,zA,zB,zC,i64_w,i32_w]
  rfl
 refine pure_ (i := 1) (N := some 54) (v := ?_) (a' := ?_) #[true,true,false,false,false,false,false,false,false,false,false,false,false,false] rfl rfl (by kernel_rfl) (fun _ _ _ h => h) (Or.inl ⟨by rfl,?_⟩) ?_ ?_
 rotate_left
 ·intro w'
  go_simp
  with_reducible rfl
 rotate_left
 ·simp only [Act.put,zA,zB,zC,i64_w,i32_w]
  rfl
 refine pure_ (i := 2) (N := some 55) (v := ?_) (a' := ?_) #[true,true,true,false,false,false,false,false,false,false,false,false,false,false] rfl rfl (by kernel_rfl) (fun _ _ _ h => h) (Or.inl ⟨by rfl,?_⟩) ?_ ?_
 rotate_left
 ·intro w'
  go_simp
  with_reducible rfl
 rotate_left
 ·simp only [Act.put,zA,zB,zC,i64_w,i32_w]
  rfl
 refine pure_ (i := 3) (N := some 56) (v := ?_) (a' := ?_) #[true,true,true,true,false,false,false,false,false,false,false,false,false,false] rfl rfl (by kernel_rfl) (fun _ _ _ h => h) (Or.inl ⟨by rfl,?_⟩) ?_ ?_
 rotate_left
 ·intro w'
  go_simp
  with_reducible rfl
 rotate_left
 ·simp only [Act.put,zA,zB,zC,i64_w,i32_w]
  rfl
 refine pure_ (i := 4) (N := some 57) (v := ?_) (a' := ?_) #[true,true,true,true,true,false,false,false,false,false,false,false,false,false] rfl rfl (by kernel_rfl) (fun _ _ _ h => h) (Or.inl ⟨by rfl,?_⟩) ?_ ?_
 rotate_left
 ·intro w'
  go_simp
  with_reducible rfl
 rotate_left
 ·simp only [Act.put,zA,zB,zC,i64_w,i32_w]
  rfl
 refine pure_ (i := 5) (N := some 58) (v := ?_) (a' := ?_) #[true,true,true,true,true,true,false,false,false,false,false,false,false,false] rfl rfl (by kernel_rfl) (fun _ _ _ h => h) (Or.inl ⟨by rfl,?_⟩) ?_ ?_
 rotate_left
 ·intro w'
  go_simp
  with_reducible rfl
 rotate_left
 ·simp only [Act.put,zA,zB,zC,i64_w,i32_w]
  rfl
 refine pure_ (i := 6) (N := some 59) (v := ?_) (a' := ?_) #[true,true,true,true,true,true,true,false,false,false,false,false,false,false] rfl rfl (by kernel_rfl) (fun _ _ _ h => h) (Or.inl ⟨by rfl,?_⟩) ?_ ?_
 rotate_left
 ·intro w'
  go_simp
  with_reducible rfl
 rotate_left
 ·simp only [Act.put,zA,zB,zC,i64_w,i32_w]
  rfl
 refine pure_ (i := 7) (N := some 60) (v := ?_) (a' := ?_) #[true,true,true,true,true,true,true,true,false,false,false,false,false,false] rfl rfl (by kernel_rfl) (fun _ _ _ h => h) (Or.inl ⟨by rfl,?_⟩) ?_ ?_
 rotate_left
 ·intro w'
  go_simp
  with_reducible rfl
 rotate_left
 ·simp only [Act.put,zA,zB,zC,i64_w,i32_w]
  rfl
 refine pure_ (i := 8) (N := some 61) (v := ?_) (a' := ?_) #[true,true,true,true,true,true,true,true,true,false,false,false,false,false] rfl rfl (by kernel_rfl) (fun _ _ _ h => h) (Or.inl ⟨by rfl,?_⟩) ?_ ?_
 rotate_left
 ·intro w'
  go_simp
  with_reducible rfl
 rotate_left
 ·simp only [Act.put,zA,zB,zC,i64_w,i32_w]
  rfl
 refine pure_ (i := 10) (N := some 62) (v := ?_) (a' := ?_) #[true,true,true,true,true,true,true,true,true,false,true,false,false,false] rfl rfl (by kernel_rfl) (fun _ _ _ h => h) (Or.inl ⟨by rfl,?_⟩) ?_ ?_
 rotate_left
 ·intro w'
  go_simp
  with_reducible rfl
 rotate_left
 ·simp only [Act.put,zA,zB,zC,i64_w,i32_w]
  rfl
 refine pure_ (i := 11) (N := some 63) (v := ?_) (a' := ?_) #[true,true,true,true,true,true,true,true,true,false,true,true,false,false] rfl rfl (by kernel_rfl) (fun _ _ _ h => h) (Or.inl ⟨by rfl,?_⟩) ?_ ?_
 rotate_left
 ·intro w'
  go_simp
  with_reducible rfl
 rotate_left
 ·simp only [Act.put,zA,zB,zC,i64_w,i32_w]
  rfl
 refine one_ (i := 9) (N := none) #[true,true,true,true,true,true,true,true,true,true,true,true,false,false] rfl rfl (by kernel_rfl) (by decide) (fun K hK => ?_)
 refine skip_ (w1 := (W1.drew).setCell ⟨g,1,none⟩ (.int .i64 (bits BinOp.and IntKind.i64 M 4294967295))) (by rfl) rfl ?_ ?_
 ·have z := q0k H2 1
  have c := q0i H2 1
  simp only [List.getElem?_toArray,List.getElem?_cons_zero,List.getElem?_cons_succ] at c
  go_simp
  try with_reducible rfl
 refine hK.out _ _ trivial (fun hHeld => ?_)
 clear hK K
 have H3 : ((W1.drew).setCell ⟨g,1,none⟩ (.int .i64 (bits BinOp.and IntKind.i64 M 4294967295))).heap[g]? = some (.cells #[.int .i64 X,.int .i64 (bits BinOp.and IntKind.i64 M 4294967295),.int .i64 x2] 26 (0,0)) := q0t H2 1 _ rfl
 have B3 := only_setCell (p := ⟨g,1,none⟩) B2 (Or.inl rfl) (.int .i64 (bits BinOp.and IntKind.i64 M 4294967295))
 generalize (W1.drew).setCell ⟨g,1,none⟩ (.int .i64 (bits BinOp.and IntKind.i64 M 4294967295)) = W2 at H3 B3 ⊢
 refine pure_ (i := 12) (N := some 64) (v := ?_) (a' := ?_) #[true,true,true,true,true,true,true,true,true,true,true,true,true,false] rfl rfl (by kernel_rfl) (fun _ _ _ h => h) (Or.inl ⟨by rfl,?_⟩) ?_ ?_
 rotate_left
 ·intro w'
  go_simp
  with_reducible rfl
 rotate_left
 ·simp only [Act.put,zA,zB,zC,i64_w,i32_w]
  rfl
 refine one_ (i := 13) (N := none) #[true,true,true,true,true,true,true,true,true,true,true,true,true,true] rfl rfl (by kernel_rfl) (by decide) (fun K hK => ?_)
 refine skip_ (w1 := (W2).setCell ⟨g,2,none⟩ (.int .i64 (bits BinOp.and IntKind.i64 L 4294967295))) (by rfl) rfl ?_ ?_
 ·have z := q0k H3 2
  have c := q0i H3 2
  simp only [List.getElem?_toArray,List.getElem?_cons_zero,List.getElem?_cons_succ] at c
  go_simp
  try with_reducible rfl
 refine hK.out _ _ trivial (fun hHeld => ?_)
 clear hK K
 refine done_ (by kernel_rfl) ?_
 go_wp2
 go_ret
 exact ⟨rfl,q0t H3 2 _ rfl,only_setCell B3 (Or.inl rfl) _⟩
end Go.Proofs.Ytcenlehfbgnphaa.Z
end
section
namespace Go.Proofs.Ytcenlehfbgnphaa.Z
set_option linter.unusedVariables false
set_option linter.unusedSimpArgs false
open Go.RowKit Go.Proofs.YtcenlehfbgnphaaW.PrintWords Go.Proofs.YtcenlehfbgnphaaW.PrintLast Go.Proofs.YtcenlehfbgnphaaW.PrintMore
theorem toNat_ofInt64 (a : Int) : ((BitVec.ofInt 64 a).toNat : Int) = a % 18446744073709551616 := by
 rw [BitVec.toNat_ofInt]
 have : 0 ≤ a % ((2 ^ 64 : Nat) : Int) := Int.emod_nonneg _ (by decide)
 rw [Int.toNat_of_nonneg this]
 rfl
theorem toInt_small (x : BitVec 64) (h : x.toNat < 9223372036854775808) : x.toInt = (x.toNat : Int) := by
 rw [BitVec.toInt_eq_toNat_bmod,Int.bmod_def]
 split <;> omega
theorem and_low64 (n : Int) : bits BinOp.and IntKind.i64 n 4294967295 = n % 4294967296 := by
 rw [and_i64]
 have e : (BitVec.ofInt 64 n &&& BitVec.ofInt 64 4294967295).toNat = (BitVec.ofInt 64 n).toNat % 4294967296 := by
  rw [BitVec.toNat_and,show (BitVec.ofInt 64 4294967295).toNat = 2 ^ 32 - 1 by decide +kernel,Nat.and_two_pow_sub_one_eq_mod]
 have h := toNat_ofInt64 n
 rw [toInt_small _ (by rw [e];omega),e]
 omega
structure SumAt (w : World) (g : Nat) (S : Int) : Prop where
 out : ∃ x0 x1 x2,w.heap[g]? = some (.cells (sumCells x0 x1 x2) 26 (0,0)) ∧ 0 ≤ x1 ∧ x1 < 4294967296 ∧ 0 ≤ x2 ∧ x2 < 4294967296 ∧ S = x0 * 18446744073709551616 + x1 * 4294967296 + x2
structure SumOk (S : Int) : Prop where
 lo : -1267650600228229401496703205376 ≤ S
 hi : S ≤ 1267650600228229401496703205376
theorem SumAt.new (w : World) : SumAt (w.alloc (Obj.cells (sumCells 0 0 0) 26 (0,0))) w.heap.size 0 := ⟨0,0,0,blk_new w _,by omega,by omega,by omega,by omega,by omega⟩
theorem SumAt.drawn {w w' : World} {g : Nat} {S : Int} (h : SumAt w g S) (d : Drawn0 w w') : SumAt w' g S := by
 obtain ⟨n,rfl⟩ := d.out
 obtain ⟨x0,x1,x2,hh,r⟩ := h.out
 exact ⟨x0,x1,x2,q0b hh n,r⟩
theorem SumAt.lt {w : World} {g : Nat} {S : Int} (h : SumAt w g S) : g < w.heap.size := by
 obtain ⟨x0,x1,x2,hh,r⟩ := h.out
 rcases Nat.lt_or_ge g w.heap.size with c | c
 ·exact c
 ·rw [Array.getElem?_eq_none c] at hh;exact absurd hh (by simp)
theorem prod_bd {a t A : Int} (a0 : -A ≤ a) (a1 : a ≤ A) (t0 : -1073741824 ≤ t) (t1 : t ≤ 1073741824) : -(A * 1073741824) ≤ a * t ∧ a * t ≤ A * 1073741824 := by
 have hA : 0 ≤ A := by omega
 have h1 : (a.natAbs : Int) * (t.natAbs : Int) ≤ A * 1073741824 := Int.mul_le_mul (by omega) (by omega) (by omega) hA
 have h2 : ((a * t).natAbs : Int) = (a.natAbs : Int) * (t.natAbs : Int) := by rw [Int.natAbs_mul];rfl
 omega
theorem putM_parts (x0 x1 x2 P Q : Int) (a0 : 0 ≤ x1) (a1 : x1 < 4294967296) (b0 : 0 ≤ x2) (b1 : x2 < 4294967296) (p0 : -4611686018427387904 ≤ P) (p1 : P ≤ 4611686018427387904) (q0 : -2305843009213693952 ≤ Q) (q1 : Q ≤ 2305843009213693952) (c0 : -1000000000000000000 ≤ x0) (c1 : x0 ≤ 1000000000000000000) :
  wrap64 (x2 + wrap64 P) = x2 + P ∧ wrap64 (wrap64 (x1 + wrap64 Q) + (x2 + P) / 4294967296) = x1 + Q + (x2 + P) / 4294967296 ∧ wrap64 (x0 + (x1 + Q + (x2 + P) / 4294967296) / 4294967296) = x0 + (x1 + Q + (x2 + P) / 4294967296) / 4294967296 := by
 refine ⟨?_,?_,?_⟩ <;> unfold wrap64 <;> omega
theorem sum_put (g : Nat) (S n t : Int) (w : World) (h : SumAt w g S) (hs : SumOk S) (hn : In64 n) (t0 : -1073741824 ≤ t) (t1 : t ≤ 1073741824) :
  Calls Try.prog 15 #[.pointer (some ⟨g,0,none⟩),.int .i64 n,.int .i64 t] w fun e w' => e = .returned (.int .i64 0) ∧ SumAt w' g (S + n * t) ∧ w.grownBy w' (some g) := by
 obtain ⟨x0,x1,x2,hh,a0,a1,b0,b1,hS⟩ := h.out
 obtain ⟨n0,n1⟩ := hn
 obtain ⟨s0,s1⟩ := hs
 obtain ⟨p0,p1⟩ := prod_bd (a := n % 4294967296) (A := 4294967296) (by omega) (by omega) t0 t1
 obtain ⟨q0,q1⟩ := prod_bd (a := n / 4294967296) (A := 2147483648) (by omega) (by omega) t0 t1
 have hnt : n * t = n / 4294967296 * t * 4294967296 + n % 4294967296 * t := by
  have e : n = n / 4294967296 * 4294967296 + n % 4294967296 := by omega
  generalize n / 4294967296 = u at *
  generalize n % 4294967296 = v at *
  rw [e,Int.add_mul,Int.mul_right_comm]
 obtain ⟨hL,hM,hX⟩ := putM_parts x0 x1 x2 (n % 4294967296 * t) (n / 4294967296 * t) a0 a1 b0 b1 (by omega) (by omega) (by omega) (by omega) (by omega) (by omega)
 have hL' : wrap64 (x2 + wrap64 (bits BinOp.and IntKind.i64 n 4294967295 * t)) = x2 + n % 4294967296 * t := by rw [and_low64];exact hL
 refine (sum_putg g x0 x1 x2 n t _ _ _ w hh t0 t1 hL' hM hX).mono ?_
 rintro e w' ⟨rfl,hc,hg⟩
 refine ⟨rfl,⟨⟨_,_,_,hc,?_⟩⟩,hg⟩
 rw [and_low64,and_low64,hnt,hS]
 clear hL hL' hM hX hc hg
 generalize n % 4294967296 * t = P at *
 generalize n / 4294967296 * t = Q at *
 omega
end Go.Proofs.Ytcenlehfbgnphaa.Z
end
section
namespace Go.Proofs.Ytcenlehfbgnphaa.Z
set_option linter.unusedVariables false
set_option linter.unusedSimpArgs false
open Go.RowKit Go.Proofs.YtcenlehfbgnphaaW.PrintWords Go.Proofs.YtcenlehfbgnphaaW.PrintLast Go.Proofs.YtcenlehfbgnphaaW.PrintMore
set_option maxRecDepth 100000 in
theorem sum_eqd (d : Nat) (x0 x1 x2 : Int) (w : World) : (Op.equalIn (d + 1 + 1) 24 (Value.agg #[Value.int IntKind.i64 x0,Value.int IntKind.i64 x1,Value.int IntKind.i64 x2]) (Value.agg #[Value.int IntKind.i64 0,Value.int IntKind.i64 0,Value.int IntKind.i64 0])).run Try.prog w = .ok (x0 == 0 && (x1 == 0 && x2 == 0)) w := by
 have hu : Try.prog.underlying 24 = some (.array 3 2) := by kernel_rfl
 obtain ⟨i,hi⟩ : ∃ i,Try.prog.info? 2 = some i := by
  have : (Try.prog.info? 2).isSome = true := by kernel_rfl
  exact Option.isSome_iff_exists.1 this
 have hc : Try.prog.cellsOf 2 = 1 := by kernel_rfl
 have h2 : Try.prog.underlying 2 = some (.int .i64) := by kernel_rfl
 have p0 (a b c : Value) : (part 2 #[a,b,c] 0).run Try.prog w = .ok a w := by kernel_rfl
 have p1 (a b c : Value) : (part 2 #[a,b,c] 1).run Try.prog w = .ok b w := by kernel_rfl
 have p2 (a b c : Value) : (part 2 #[a,b,c] 2).run Try.prog w = .ok c w := by kernel_rfl
 have hr : List.range 3 = [0,1,2] := rfl
 rw [run_equalIn_array w (d + 1) _ _ hu hi,hc,hr]
 simp only [Op.eqItems,Sem.run_bind,Nat.zero_mul,Nat.one_mul,Nat.mul_one,p0,p1,p2,Result.andThen_ok,run_equalIn_int w d 2 .i64 .i64 _ _ h2,Sem.run_ite]
 cases x0 == 0 <;> cases x1 == 0 <;> cases x2 == 0 <;> simp [Sem.run_bind,p1,p2,run_equalIn_int w d 2 .i64 .i64 _ _ h2,Sem.run_pure]
set_option maxRecDepth 100000 in
theorem sum_eqs (x0 x1 x2 : Int) (w : World) : (Op.equalIn 10000 24 (Value.agg #[Value.int IntKind.i64 x0,Value.int IntKind.i64 x1,Value.int IntKind.i64 x2]) (Value.agg #[Value.int IntKind.i64 0,Value.int IntKind.i64 0,Value.int IntKind.i64 0])).run Try.prog w = .ok (x0 == 0 && (x1 == 0 && x2 == 0)) w := sum_eqd 9998 x0 x1 x2 w
set_option maxHeartbeats 2000000 in
set_option maxRecDepth 100000 in
theorem sum_sign_z (g : Nat) (w : World) (h : w.heap[g]? = some (.cells (sumCells 0 0 0) 26 (0,0))) :
  Calls Try.prog 20 #[.pointer (some ⟨g,0,none⟩)] w fun e w' => e = .returned (.int .i64 0) ∧ Drawn0 w w' := by
 have c0 := q0i h 0
 have c1 := q0i h 1
 have c2 := q0i h 2
 simp only [sumCells,List.getElem?_toArray,List.getElem?_cons_zero,List.getElem?_cons_succ] at c0 c1 c2
 have heq : ∀ w : World,(Op.equalIn 10000 24 (Value.agg #[Value.int IntKind.i64 0,Value.int IntKind.i64 0,Value.int IntKind.i64 0]) (Value.agg #[Value.int IntKind.i64 0,Value.int IntKind.i64 0,Value.int IntKind.i64 0])).run Try.prog w = .ok true w := sum_eqs 0 0 0
 clear h
 go_enter Try.func20,Try.ntmps20
 go_wp2
 go_ret
 exact ⟨rfl,Drawn0.refl _⟩
set_option maxHeartbeats 2000000 in
set_option maxRecDepth 100000 in
theorem sum_sign_n (g : Nat) (x0 x1 x2 : Int) (w : World) (h : w.heap[g]? = some (.cells (sumCells x0 x1 x2) 26 (0,0))) (hz : (x0 == 0 && (x1 == 0 && x2 == 0)) = false) (hn : decide (x0 < 0) = true) :
  Calls Try.prog 20 #[.pointer (some ⟨g,0,none⟩)] w fun e w' => e = .returned (.int .i64 (-1)) ∧ Drawn0 w w' := by
 have c0 := q0i h 0
 have c1 := q0i h 1
 have c2 := q0i h 2
 simp only [sumCells,List.getElem?_toArray,List.getElem?_cons_zero,List.getElem?_cons_succ] at c0 c1 c2
 have heq : ∀ w : World,(Op.equalIn 10000 24 (Value.agg #[Value.int IntKind.i64 x0,Value.int IntKind.i64 x1,Value.int IntKind.i64 x2]) (Value.agg #[Value.int IntKind.i64 0,Value.int IntKind.i64 0,Value.int IntKind.i64 0])).run Try.prog w = .ok false w := fun w => by rw [sum_eqs,hz]
 clear h hz
 go_enter Try.func20,Try.ntmps20
 go_wp2
 go_ret
 exact ⟨rfl,Drawn0.refl _⟩
set_option maxHeartbeats 2000000 in
set_option maxRecDepth 100000 in
theorem sum_sign_p (g : Nat) (x0 x1 x2 : Int) (w : World) (h : w.heap[g]? = some (.cells (sumCells x0 x1 x2) 26 (0,0))) (hz : (x0 == 0 && (x1 == 0 && x2 == 0)) = false) (hn : decide (x0 < 0) = false) :
  Calls Try.prog 20 #[.pointer (some ⟨g,0,none⟩)] w fun e w' => e = .returned (.int .i64 1) ∧ Drawn0 w w' := by
 have c0 := q0i h 0
 have c1 := q0i h 1
 have c2 := q0i h 2
 simp only [sumCells,List.getElem?_toArray,List.getElem?_cons_zero,List.getElem?_cons_succ] at c0 c1 c2
 have heq : ∀ w : World,(Op.equalIn 10000 24 (Value.agg #[Value.int IntKind.i64 x0,Value.int IntKind.i64 x1,Value.int IntKind.i64 x2]) (Value.agg #[Value.int IntKind.i64 0,Value.int IntKind.i64 0,Value.int IntKind.i64 0])).run Try.prog w = .ok false w := fun w => by rw [sum_eqs,hz]
 clear h hz
 go_enter Try.func20,Try.ntmps20
 go_wp2
 go_ret
 exact ⟨rfl,Drawn0.refl _⟩
def sgnF (S : Int) : Int := if S < 0 then -1 else if S = 0 then 0 else 1
theorem sum_sgn (g : Nat) (S : Int) (w : World) (h : SumAt w g S) : Calls Try.prog 20 #[.pointer (some ⟨g,0,none⟩)] w fun e w' => e = .returned (.int .i64 (sgnF S)) ∧ Drawn0 w w' := by
 obtain ⟨x0,x1,x2,hh,a0,a1,b0,b1,hS⟩ := h.out
 unfold sgnF
 by_cases z : S = 0
 ·obtain rfl : x0 = 0 := by omega
  obtain rfl : x1 = 0 := by omega
  obtain rfl : x2 = 0 := by omega
  rw [if_neg (by omega),if_pos z]
  exact sum_sign_z g w hh
 ·have hz : (x0 == 0 && (x1 == 0 && x2 == 0)) = false := by
   rw [Bool.eq_false_iff]
   intro hc
   simp only [Bool.and_eq_true,beq_iff_eq] at hc
   omega
  by_cases n : x0 < 0
  ·rw [if_pos (by omega)]
   exact sum_sign_n g x0 x1 x2 w hh hz (decide_eq_true n)
  ·rw [if_neg (by omega),if_neg z]
   exact sum_sign_p g x0 x1 x2 w hh hz (decide_eq_false n)
end Go.Proofs.Ytcenlehfbgnphaa.Z
end
section
namespace Go.Proofs.Ytcenlehfbgnphaa.Z
set_option linter.unusedVariables false
set_option linter.unusedSimpArgs false
open Go.RowKit Go.Proofs.YtcenlehfbgnphaaW.PrintWords Go.Proofs.YtcenlehfbgnphaaW.PrintLast Go.Proofs.YtcenlehfbgnphaaW.PrintMore
theorem sumOk4 {a b c d : Int} (ha : In64 a) (hb : In64 b) (hc : In64 c) (hd : In64 d) : SumOk (0 + a * 1) ∧ SumOk (0 + a * 1 + b * -1) ∧ SumOk (0 + a * 1 + b * -1 + c * -1) := by
 obtain ⟨a0,a1⟩ := ha
 obtain ⟨b0,b1⟩ := hb
 obtain ⟨c0,c1⟩ := hc
 refine ⟨⟨by omega,by omega⟩,⟨by omega,by omega⟩,⟨by omega,by omega⟩⟩
def lessB (a b c d : Int) : Bool := decide (a - b < c - d)
theorem less_sgn (a b c d : Int) : decide (sgnF (0 + a * 1 + b * -1 + c * -1 + d * 1) < 0) = lessB a b c d := by
 unfold sgnF lessB
 rw [decide_eq_decide]
 split
 ·omega
 ·split <;> omega
set_option maxHeartbeats 4000000 in
set_option maxRecDepth 100000 in
theorem quota_less0 (s0 s1 t0 t1 : ByteArray) (a b c d : Int) (w : World) (ha : In64 a) (hb : In64 b) (hc : In64 c) (hd : In64 d) :
  Calls Try.prog 77 #[.agg #[.string s0,.string s1,.int .i64 b,.int .i64 a],.agg #[.string t0,.string t1,.int .i64 d,.int .i64 c]] w fun e w' => e = .returned (.bool (lessB a b c d)) ∧ Below w.heap.size w w' := by
 have hu45 := Try.underlying45
 obtain ⟨B,hB⟩ : ∃ B,w.heap.size = B := ⟨_,rfl⟩
 have e0 := q0a (q0a (blk_new w (.cells #[.string s0,.string s1,.int .i64 b,.int .i64 a] 45)) (.cells #[.string t0,.string t1,.int .i64 d,.int .i64 c] 45)) (.cells (sumCells 0 0 0) 26)
 have e1 := q0a (blk_new (w.alloc (.cells #[.string s0,.string s1,.int .i64 b,.int .i64 a] 45)) (.cells #[.string t0,.string t1,.int .i64 d,.int .i64 c] 45)) (.cells (sumCells 0 0 0) 26)
 have e2 := SumAt.new ((w.alloc (.cells #[.string s0,.string s1,.int .i64 b,.int .i64 a] 45)).alloc (.cells #[.string t0,.string t1,.int .i64 d,.int .i64 c] 45))
 have eB : Below B w (((w.alloc (.cells #[.string s0,.string s1,.int .i64 b,.int .i64 a] 45)).alloc (.cells #[.string t0,.string t1,.int .i64 d,.int .i64 c] 45)).alloc (.cells (sumCells 0 0 0) 26)) := by
  rw [← hB];exact q0h (q0h (q0h (Below.refl _ _) _) _) _
 rw [show (w.alloc (Obj.cells #[.string s0,.string s1,.int .i64 b,.int .i64 a] 45)).heap.size = B + 1 by rw [← hB];simp] at e1
 rw [show ((w.alloc (Obj.cells #[.string s0,.string s1,.int .i64 b,.int .i64 a] 45)).alloc (Obj.cells #[.string t0,.string t1,.int .i64 d,.int .i64 c] 45)).heap.size = B + 1 + 1 by rw [← hB];simp] at e2
 rw [hB] at e0
 have E0 := Aside0.mk e0
 have E1 := Aside0.mk e1
 have E2 := Aside0.mk e2
 have EB := Aside0.mk eB
 have HB0 := Aside0.mk hB
 have K := Aside0.mk (sumOk4 ha hb hc hd)
 have HA := Aside0.mk (And.intro ha (And.intro hb (And.intro hc hd)))
 clear e0 e1 e2 eB ha hb hc hd
 have c03 := q0i E0.out 3
 have c02 := q0i E0.out 2
 have c13 := q0i E1.out 3
 have c12 := q0i E1.out 2
 simp only [List.getElem?_toArray,List.getElem?_cons_zero,List.getElem?_cons_succ] at c03 c02 c13 c12
 go_enter Try.func77,Try.ntmps77
 go_wp2_with (fail)
 clear hB
 change Calls Try.prog 15 _ (((w.alloc (.cells #[.string s0,.string s1,.int .i64 b,.int .i64 a] 45)).alloc (.cells #[.string t0,.string t1,.int .i64 d,.int .i64 c] 45)).alloc (.cells (sumCells 0 0 0) 26)) _
 generalize ((w.alloc (.cells #[.string s0,.string s1,.int .i64 b,.int .i64 a] 45)).alloc (.cells #[.string t0,.string t1,.int .i64 d,.int .i64 c] 45)).alloc (.cells (sumCells 0 0 0) 26) = w0 at *
 refine (sum_put (B + 1 + 1) (0) a (1) w0 E2.out ⟨by decide,by decide⟩ HA.out.1 (by decide) (by decide)).mono ?_
 rintro e w1 ⟨rfl,hs,hg⟩
 have E0' := Aside0.mk (only_other hg E0.out (by omega))
 have E1' := Aside0.mk (only_other hg E1.out (by omega))
 have EB' := Aside0.mk (EB.out.trans (only_below (B := B) hg (by omega) E2.out.lt))
 have E2' := Aside0.mk hs
 clear c03 c02 c13 c12 E0 E1 EB E2 hs hg
 have E0 := E0'
 have E1 := E1'
 have EB := EB'
 have E2 := E2'
 clear E0' E1' EB' E2'
 have c03 := q0i E0.out 3
 have c02 := q0i E0.out 2
 have c13 := q0i E1.out 3
 have c12 := q0i E1.out 2
 simp only [List.getElem?_toArray,List.getElem?_cons_zero,List.getElem?_cons_succ] at c03 c02 c13 c12
 go_wp2_with (fail)
 refine (sum_put (B + 1 + 1) (0 + a * 1) b (-1) w1 E2.out K.out.1 HA.out.2.1 (by decide) (by decide)).mono ?_
 rintro e w2 ⟨rfl,hs,hg⟩
 have E0' := Aside0.mk (only_other hg E0.out (by omega))
 have E1' := Aside0.mk (only_other hg E1.out (by omega))
 have EB' := Aside0.mk (EB.out.trans (only_below (B := B) hg (by omega) E2.out.lt))
 have E2' := Aside0.mk hs
 clear c03 c02 c13 c12 E0 E1 EB E2 hs hg
 have E0 := E0'
 have E1 := E1'
 have EB := EB'
 have E2 := E2'
 clear E0' E1' EB' E2'
 have c03 := q0i E0.out 3
 have c02 := q0i E0.out 2
 have c13 := q0i E1.out 3
 have c12 := q0i E1.out 2
 simp only [List.getElem?_toArray,List.getElem?_cons_zero,List.getElem?_cons_succ] at c03 c02 c13 c12
 go_wp2_with (fail)
 refine (sum_put (B + 1 + 1) (0 + a * 1 + b * -1) c (-1) w2 E2.out K.out.2.1 HA.out.2.2.1 (by decide) (by decide)).mono ?_
 rintro e w3 ⟨rfl,hs,hg⟩
 have E0' := Aside0.mk (only_other hg E0.out (by omega))
 have E1' := Aside0.mk (only_other hg E1.out (by omega))
 have EB' := Aside0.mk (EB.out.trans (only_below (B := B) hg (by omega) E2.out.lt))
 have E2' := Aside0.mk hs
 clear c03 c02 c13 c12 E0 E1 EB E2 hs hg
 have E0 := E0'
 have E1 := E1'
 have EB := EB'
 have E2 := E2'
 clear E0' E1' EB' E2'
 have c03 := q0i E0.out 3
 have c02 := q0i E0.out 2
 have c13 := q0i E1.out 3
 have c12 := q0i E1.out 2
 simp only [List.getElem?_toArray,List.getElem?_cons_zero,List.getElem?_cons_succ] at c03 c02 c13 c12
 go_wp2_with (fail)
 refine (sum_put (B + 1 + 1) (0 + a * 1 + b * -1 + c * -1) d (1) w3 E2.out K.out.2.2 HA.out.2.2.2 (by decide) (by decide)).mono ?_
 rintro e w4 ⟨rfl,hs,hg⟩
 have E0' := Aside0.mk (only_other hg E0.out (by omega))
 have E1' := Aside0.mk (only_other hg E1.out (by omega))
 have EB' := Aside0.mk (EB.out.trans (only_below (B := B) hg (by omega) E2.out.lt))
 have E2' := Aside0.mk hs
 clear c03 c02 c13 c12 E0 E1 EB E2 hs hg
 have E0 := E0'
 have E1 := E1'
 have EB := EB'
 have E2 := E2'
 clear E0' E1' EB' E2'
 have c03 := q0i E0.out 3
 have c02 := q0i E0.out 2
 have c13 := q0i E1.out 3
 have c12 := q0i E1.out 2
 simp only [List.getElem?_toArray,List.getElem?_cons_zero,List.getElem?_cons_succ] at c03 c02 c13 c12
 go_wp2_with (fail)
 refine (sum_sgn (B + 1 + 1) _ w4 E2.out).mono ?_
 rintro e w5 ⟨rfl,hd⟩
 have HL := Aside0.mk (less_sgn a b c d)
 obtain ⟨n,rfl⟩ := hd.out
 clear hd
 generalize sgnF (0 + a * 1 + b * -1 + c * -1 + d * 1) = s at *
 go_wp2_with (fail)
 go_ret
 exact ⟨by rw [← HL.out];rfl,by rw [HB0.out];exact EB.out.trans ⟨rfl,rfl,rfl,Nat.le_refl _,fun _ _ => rfl⟩⟩
def quota_less.f (a0_0 : ByteArray) (a0_1 : ByteArray) (a0_2 : Int) (a0_3 : Int) (a1_0 : ByteArray) (a1_1 : ByteArray) (a1_2 : Int) (a1_3 : Int) : Option (Bool) :=
 if (-9223372036854775808 ≤ a0_2 ∧ a0_2 ≤ 9223372036854775807) ∧ (-9223372036854775808 ≤ a0_3 ∧ a0_3 ≤ 9223372036854775807) ∧ (-9223372036854775808 ≤ a1_2 ∧ a1_2 ≤ 9223372036854775807) ∧ (-9223372036854775808 ≤ a1_3 ∧ a1_3 ≤ 9223372036854775807) then some (lessB a0_3 a0_2 a1_3 a1_2) else none
theorem quota_less.calls (a0_0 : ByteArray) (a0_1 : ByteArray) (a0_2 : Int) (a0_3 : Int) (a1_0 : ByteArray) (a1_1 : ByteArray) (a1_2 : Int) (a1_3 : Int) (r : Bool) (w : World) (h : quota_less.f a0_0 a0_1 a0_2 a0_3 a1_0 a1_1 a1_2 a1_3 = some r) :
  Calls Try.prog 77 #[.agg #[.string a0_0,.string a0_1,.int .i64 a0_2,.int .i64 a0_3],.agg #[.string a1_0,.string a1_1,.int .i64 a1_2,.int .i64 a1_3]] w fun e w' => e = .returned (.bool r) ∧ Below w.heap.size w w' := by
 unfold quota_less.f at h
 split at h
 ·rename_i hc
  obtain ⟨h1,h2,h3,h4⟩ := hc
  obtain rfl := Option.some.inj h
  exact quota_less0 a0_0 a0_1 a1_0 a1_1 a0_3 a0_2 a1_3 a1_2 w h2 h1 h4 h3
 ·exact absurd h (by simp)
end Go.Proofs.Ytcenlehfbgnphaa.Z
end
section
namespace Go.Proofs.Ytcenlehfbgnphaa.Z
open Go.RowKit Go.Proofs.YtcenlehfbgnphaaW.PrintWords Go.Proofs.YtcenlehfbgnphaaW.PrintLast Go.Proofs.YtcenlehfbgnphaaW.PrintMore
attribute [local go_sem] max2_int min2_int max_two min_two max_three min_three max_four min_four
set_option linter.unusedVariables false
set_option linter.unusedSimpArgs false
def quota_Worst.l0 : Nat → List (S45) → Int → Int → ByteArray → ByteArray → Int → Int → Option (ByteArray × ByteArray × Int × Int × Int)
 | 0,_,_,_,_,_,_,_ => none
 | k + 1,x15,x16,x17,x244000,x244001,x244002,x244003 => if x17 < x16 then (if 0 ≤ x17 then (if x17 < (x15.length : Int) then ((quota_less.f ((q0e x15 x17).f0) ((q0e x15 x17).f1) ((q0e x15 x17).f2) ((q0e x15 x17).f3) x244000 x244001 x244002 x244003).bind fun t250 => (if t250 = true then (quota_Worst.l0 k x15 x16 (wrap64 (x17 + 1)) ((q0e x15 x17).f0) ((q0e x15 x17).f1) ((q0e x15 x17).f2) ((q0e x15 x17).f3)) else (quota_Worst.l0 k x15 x16 (wrap64 (x17 + 1)) x244000 x244001 x244002 x244003))) else (none)) else (none)) else (some (x244000,x244001,x244002,x244003,0))
def quota_Worst.f (k : Nat) (l0 : List (S45)) : Option (ByteArray × ByteArray × Int × Int × Int) := if (l0.length : Int) = 0 then (some ((⟨#[]⟩ : ByteArray),(⟨#[]⟩ : ByteArray),0,0,5)) else (if 0 < (l0.length : Int) then (if 1 ≤ (l0.length : Int) then ((some (l0.drop 1 : List (S45))).bind fun y244 => (quota_Worst.l0 k y244 (y244.length : Int) 0 ((q0e l0 0).f0) ((q0e l0 0).f1) ((q0e l0 0).f2) ((q0e l0 0).f3))) else (none)) else (none))
theorem quota_Worst.mono_l : ∀ k,(∀ y0 y1 y2 y3 y4 y5 y6,LeO (quota_Worst.l0 k y0 y1 y2 y3 y4 y5 y6) (quota_Worst.l0 (k + 1) y0 y1 y2 y3 y4 y5 y6))
 | 0 => fun _ _ _ _ _ _ _ r h => by simp [quota_Worst.l0] at h
 | k + 1 => by
  have ih0 := quota_Worst.mono_l k
  ·intro y0 y1 y2 y3 y4 y5 y6
   unfold quota_Worst.l0
   repeat' first
   | (with_reducible exact ih0 _ _ _ _ _ _ _)
   | (with_reducible exact LeO.refl _)
   | (with_reducible exact LeO.none _)
   | (with_reducible refine LeO.ite ?_ ?_)
   | (with_reducible refine LeO.bind ?_ (fun _ => ?_))
   | exact ih0 _ _ _ _ _ _ _
   | exact LeO.none _
   | refine LeO.ite ?_ ?_
   | refine LeO.bind ?_ (fun _ => ?_)
theorem quota_Worst.mono : ∀ a0 k,LeO (quota_Worst.f k a0) (quota_Worst.f (k + 1) a0) := by
 intro a0 k
 have ih0 := quota_Worst.mono_l k
 unfold quota_Worst.f
 repeat' first
   | (with_reducible exact ih0 _ _ _ _ _ _ _)
   | (with_reducible exact LeO.refl _)
   | (with_reducible exact LeO.none _)
   | (with_reducible refine LeO.ite ?_ ?_)
   | (with_reducible refine LeO.bind ?_ (fun _ => ?_))
   | exact ih0 _ _ _ _ _ _ _
   | exact LeO.none _
   | refine LeO.ite ?_ ?_
   | refine LeO.bind ?_ (fun _ => ?_)
set_option maxHeartbeats 8000000 in
set_option maxRecDepth 100000 in
theorem quota_Worst.calls (k : Nat) (A0 : Option Addr) (c0 : Nat) (l0 : List (S45)) (r1 : ByteArray) (r2 : ByteArray) (r3 : Int) (r4 : Int) (r5 : Int) (w : World) (hr0 : Kd.C k45 w A0 l0.length l0) (hc0 : l0.length ≤ c0) (h : quota_Worst.f k l0 = some (r1,r2,r3,r4,r5)) :
  Calls Try.prog 47 #[.slice A0 l0.length c0] w fun e w' => e = .returned (.tuple #[.agg #[.string r1,.string r2,.int .i64 r3,.int .i64 r4],.int .i64 r5]) ∧ Below w.heap.size w w' := by
 have hu45 := Try.underlying45
 have HR0 := Aside0.mk hr0
 have HC0 := Aside0.mk hc0
 clear hr0 hc0
 have HB := Aside0.mk (Below.refl w.heap.size w)
 have H : (if (l0.length : Int) = 0 then (some ((⟨#[]⟩ : ByteArray),(⟨#[]⟩ : ByteArray),0,0,5)) else (if 0 < (l0.length : Int) then (if 1 ≤ (l0.length : Int) then ((some (l0.drop 1 : List (S45))).bind fun y244 => (quota_Worst.l0 k y244 (y244.length : Int) 0 ((q0e l0 0).f0) ((q0e l0 0).f1) ((q0e l0 0).f2) ((q0e l0 0).f3))) else (none)) else (none))) = some (r1,r2,r3,r4,r5) := h
 clear h
 by_cases c2 : (l0.length : Int) = 0
 ·rw [if_pos c2] at H
  have c2b0 : ((l0.length : Int) == 0) = true := beq_iff_eq.mpr c2
  have c2b1 : ((l0.length : Int) != 0) = false := bne_eq_false_iff_eq.mpr c2
  clear c2
  simp only [Option.some.injEq,Prod.mk.injEq] at H
  obtain ⟨rfl,rfl,rfl,rfl,rfl⟩ := H
  go_enter Try.func47,Try.ntmps47
  go_wp2_with (first | ((with_reducible refine gate_dst (N := 2) rfl ?_);refine q03 ?hg (N := 2) ?hd (cs := #[.string (⟨#[]⟩ : ByteArray),.string (⟨#[]⟩ : ByteArray),.int .i64 0,.int .i64 0]) (t := 45) ?hr ?_;(case hd => rfl);(case hg => rfl);(case hr => first | (go_simp;done) | (go_simp;rfl));intro gb241 hg w3 hbox hb;have n0_ := Aside0.mk (q0s (by repeat (first | (with_reducible first | exact HB.out | apply q0h | apply q0d | apply q0f) | exact HB.out)) hb);have n1_ := Aside0.mk (hbox);have n2_ := Aside0.mk ((by rw [hg];exact (q0p (by repeat (first | (with_reducible first | exact HB.out | apply q0h | apply q0d | apply q0f) | exact HB.out))) : w.heap.size ≤ gb241));have n3_ := Aside0.mk ((by rw [hg];exact (q0p (by repeat (first | (with_reducible first | exact HB.out | apply q0h | apply q0d | apply q0f) | exact HB.out))) : w.heap.size ≤ gb241));clear HB;have HB := n0_;have BK241 := n1_;have GW241 := n2_;have GE241 := n3_;clear n0_ n1_ n2_ n3_;clear hb hbox hg;have hcz4_0 : w3.cell? ⟨gb241,0,none⟩ = some (.string (⟨#[]⟩ : ByteArray)) := (q0i BK241.out 0).trans rfl;have hcz4_1 : w3.cell? ⟨gb241,1,none⟩ = some (.string (⟨#[]⟩ : ByteArray)) := (q0i BK241.out 1).trans rfl;have hcz4_2 : w3.cell? ⟨gb241,2,none⟩ = some (.int .i64 0) := (q0i BK241.out 2).trans rfl;have hcz4_3 : w3.cell? ⟨gb241,3,none⟩ = some (.int .i64 0) := (q0i BK241.out 3).trans rfl;have hfz4_0 := q0k BK241.out 0;have hfz4_1 := q0k BK241.out 1;have hfz4_2 := q0k BK241.out 2;have hfz4_3 := q0k BK241.out 3))
  refine bodyPost_ret (results_ct rfl _ _ gb241 45 #[.string (⟨#[]⟩ : ByteArray),.string (⟨#[]⟩ : ByteArray),.int .i64 0,.int .i64 0] (0,0) _ rfl (by (with_reducible repeat (first | refine q0b ?_ _ | refine q0c ?_ | refine q0a ?_ _));refine q0t (cs := #[.string (⟨#[]⟩ : ByteArray),.string (⟨#[]⟩ : ByteArray),.int .i64 0,.int .i64 0]) ?_ 3 _ rfl;(with_reducible repeat (first | refine q0b ?_ _ | refine q0c ?_ | refine q0a ?_ _));refine q0t (cs := #[.string (⟨#[]⟩ : ByteArray),.string (⟨#[]⟩ : ByteArray),.int .i64 0,.int .i64 0]) ?_ 2 _ rfl;(with_reducible repeat (first | refine q0b ?_ _ | refine q0c ?_ | refine q0a ?_ _));refine q0t (cs := #[.string (⟨#[]⟩ : ByteArray),.string (⟨#[]⟩ : ByteArray),.int .i64 0,.int .i64 0]) ?_ 1 _ rfl;(with_reducible repeat (first | refine q0b ?_ _ | refine q0c ?_ | refine q0a ?_ _));refine q0t (cs := #[.string (⟨#[]⟩ : ByteArray),.string (⟨#[]⟩ : ByteArray),.int .i64 0,.int .i64 0]) ?_ 0 _ rfl;(with_reducible repeat (first | refine q0b ?_ _ | refine q0c ?_ | refine q0a ?_ _));exact BK241.out) Try.underlying45 rfl (by kernel_rfl)) rfl ?_
  exact ⟨by first | rfl | (simp [q0w,q0x] <;> rfl) | (simp [*,q0w,q0x] <;> rfl),by repeat (first | (with_reducible first | exact HB.out | apply q0h | apply q0d | apply q0f | refine q0g ?_ GE241.out) | exact HB.out)⟩
 ·rw [if_neg c2] at H
  have c2b0 : ((l0.length : Int) == 0) = false := beq_eq_false_iff_ne.mpr c2
  have c2b1 : ((l0.length : Int) != 0) = true := bne_iff_ne.mpr c2
  have c2b2 : ¬ (l0 = []) := fun h_ => c2 (by rw [h_];rfl)
  by_cases c5 : 0 < (l0.length : Int)
  ·rw [if_pos c5] at H
   have c5b0 : decide (0 < (l0.length : Int)) = true := decide_eq_true c5
   have c5b1 : decide (0 < l0.length) = true := decide_eq_true (by omega)
   clear c5
   by_cases c6 : 1 ≤ (l0.length : Int)
   ·rw [if_pos c6] at H
    have c6b0 := eq_true c6
    have c6b1 : decide (1 ≤ (l0.length : Int)) = true := decide_eq_true c6
    clear c6
    obtain ⟨y244,hy244⟩ : ∃ y_ : List (S45),y_ = (l0.drop 1) := ⟨_,rfl⟩
    replace H : (quota_Worst.l0 k y244 (y244.length : Int) 0 ((q0e l0 0).f0) ((q0e l0 0).f1) ((q0e l0 0).f2) ((q0e l0 0).f3)) = some (r1,r2,r3,r4,r5) := by first | (rw [hy244];with_reducible exact H) | (have H2_ := (Option.bind_some _ _).symm.trans H;rw [hy244];with_reducible exact H2_) | (have H2_ := (Option.bind_some _ _).symm.trans H;with_reducible exact H2_) | with_reducible exact H | (rw [hy244];exact H) | exact H
    have Ny244 := Aside0.mk hy244
    clear hy244
    have H' := Aside0.mk H
    clear H
    go_enter Try.func47,Try.ntmps47
    go_wp2_with (first | ((with_reducible refine gate_dst (N := 2) rfl ?_);refine q03 ?hg (N := 2) ?hd (cs := #[.string (⟨#[]⟩ : ByteArray),.string (⟨#[]⟩ : ByteArray),.int .i64 0,.int .i64 0]) (t := 45) ?hr ?_;(case hd => rfl);(case hg => rfl);(case hr => first | (go_simp;done) | (go_simp;rfl));intro gb241 hg w7 hbox hb;have n0_ := Aside0.mk (q0s (by repeat (first | (with_reducible first | exact HB.out | apply q0h | apply q0d | apply q0f) | exact HB.out)) hb);have n1_ := Aside0.mk (hbox);have n2_ := Aside0.mk ((by rw [hg];exact (q0p (by repeat (first | (with_reducible first | exact HB.out | apply q0h | apply q0d | apply q0f) | exact HB.out))) : w.heap.size ≤ gb241));have n3_ := Aside0.mk ((by rw [hg];exact (q0p (by repeat (first | (with_reducible first | exact HB.out | apply q0h | apply q0d | apply q0f) | exact HB.out))) : w.heap.size ≤ gb241));clear HB;have HB := n0_;have BK241 := n1_;have GW241 := n2_;have GE241 := n3_;clear n0_ n1_ n2_ n3_;clear hb hbox hg;have p242 : 0 ≤ (0 : Int) := (by omega);have q242 : 0 < (l0.length : Int) := of_decide_eq_true (by first | (with_reducible assumption) | assumption);obtain ⟨ad242,e242,hx242_0,hx242_1,hx242_2,hx242_3⟩ := at_T45 HR0.out 0 p242 q242;cases e242;have qi242 : (0 < l0.length) = True := eq_true (by omega);(try rw [show ((0 : Int)).toNat = 0 from rfl] at hx242_0);(try rw [show 0 * 4 = 0 from rfl] at hx242_0);(try rw [Addr.add_zero'] at hx242_0);(try rw [show ((0 : Int)).toNat = 0 from rfl] at hx242_1);(try rw [show 0 * 4 = 0 from rfl] at hx242_1);(try rw [Addr.add_zero'] at hx242_1);(try rw [show ((0 : Int)).toNat = 0 from rfl] at hx242_2);(try rw [show 0 * 4 = 0 from rfl] at hx242_2);(try rw [Addr.add_zero'] at hx242_2);(try rw [show ((0 : Int)).toNat = 0 from rfl] at hx242_3);(try rw [show 0 * 4 = 0 from rfl] at hx242_3);(try rw [Addr.add_zero'] at hx242_3);replace hx242_0 := (HB.out.cell (World.block_lt_of_cell? w _ hx242_0)).trans hx242_0;replace hx242_1 := (HB.out.cell (World.block_lt_of_cell? w _ hx242_1)).trans hx242_1;replace hx242_2 := (HB.out.cell (World.block_lt_of_cell? w _ hx242_2)).trans hx242_2;replace hx242_3 := (HB.out.cell (World.block_lt_of_cell? w _ hx242_3)).trans hx242_3;replace p242 := eq_true p242;replace q242 := eq_true q242) | ((with_reducible refine gate_dst (N := 4) rfl ?_);refine q03 ?hg (N := 4) ?hd (cs := #[.string (⟨#[]⟩ : ByteArray),.string (⟨#[]⟩ : ByteArray),.int .i64 0,.int .i64 0]) (t := 45) ?hr ?_;(case hd => rfl);(case hg => rfl);(case hr => first | (go_simp;done) | (go_simp;rfl));intro gb243 hg w8 hbox hb;have n0_ := Aside0.mk (q0q (g := gb241) (o := .cells #[.string (⟨#[]⟩ : ByteArray),.string (⟨#[]⟩ : ByteArray),.int .i64 0,.int .i64 0] 45 (0,0)) (by (with_reducible repeat (first | refine q0b ?_ _ | refine q0c ?_ | refine q0a ?_ _));exact BK241.out) hb);have n1_ := Aside0.mk (q0s (by repeat (first | (with_reducible first | exact HB.out | apply q0h | apply q0d | apply q0f | refine q0g ?_ GE241.out) | exact HB.out)) hb);have n2_ := Aside0.mk (hbox);have n3_ := Aside0.mk ((by rw [hg];exact (q0p (by repeat (first | (with_reducible first | exact HB.out | apply q0h | apply q0d | apply q0f | refine q0g ?_ GE241.out) | exact HB.out))) : w.heap.size ≤ gb243));have n4_ := Aside0.mk ((by rw [hg];exact (q0p (by repeat (first | (with_reducible first | exact HB.out | apply q0h | apply q0d | apply q0f | refine q0g ?_ GE241.out) | exact HB.out))) : w.heap.size ≤ gb243));have n5_ := Aside0.mk ((by rw [hg];exact Nat.ne_of_lt (q0y (g := gb241) (o := .cells #[.string (⟨#[]⟩ : ByteArray),.string (⟨#[]⟩ : ByteArray),.int .i64 0,.int .i64 0] 45 (0,0)) (by (with_reducible repeat (first | refine q0b ?_ _ | refine q0c ?_ | refine q0a ?_ _));exact BK241.out)) : gb241 ≠ gb243));have n6_ := Aside0.mk ((by rw [hg];exact Nat.ne_of_gt (q0y (g := gb241) (o := .cells #[.string (⟨#[]⟩ : ByteArray),.string (⟨#[]⟩ : ByteArray),.int .i64 0,.int .i64 0] 45 (0,0)) (by (with_reducible repeat (first | refine q0b ?_ _ | refine q0c ?_ | refine q0a ?_ _));exact BK241.out)) : gb243 ≠ gb241));clear BK241;clear HB;have BK241 := n0_;have HB := n1_;have BK243 := n2_;have GW243 := n3_;have GE243 := n4_;have NB241_243 := n5_;have NB243_241 := n6_;clear n0_ n1_ n2_ n3_ n4_ n5_ n6_;clear hb hbox hg;have hnb9 := NB243_241.out;have hnc9 := NB241_243.out;have hcz10_0 : w8.cell? ⟨gb243,0,none⟩ = some (.string (⟨#[]⟩ : ByteArray)) := (q0i BK243.out 0).trans rfl;have hcz10_1 : w8.cell? ⟨gb243,1,none⟩ = some (.string (⟨#[]⟩ : ByteArray)) := (q0i BK243.out 1).trans rfl;have hcz10_2 : w8.cell? ⟨gb243,2,none⟩ = some (.int .i64 0) := (q0i BK243.out 2).trans rfl;have hcz10_3 : w8.cell? ⟨gb243,3,none⟩ = some (.int .i64 0) := (q0i BK243.out 3).trans rfl;have hfz10_0 := q0k BK243.out 0;have hfz10_1 := q0k BK243.out 1;have hfz10_2 := q0k BK243.out 2;have hfz10_3 := q0k BK243.out 3) | ((with_reducible refine gate_store (t := 45) (p := 4) rfl ?_);refine store_event (t := 45) (p := 4) (v := ?vo_w11) (w1 := ((((w8.setCell ⟨gb243,0,none⟩ (.string ((q0e l0 0).f0))).setCell ⟨gb243,1,none⟩ (.string ((q0e l0 0).f1))).setCell ⟨gb243,2,none⟩ (.int .i64 ((q0e l0 0).f2))).setCell ⟨gb243,3,none⟩ (.int .i64 ((q0e l0 0).f3)))) ?hg ?ho ?hn ?hr ?_;(case ho => rfl);(case hg => rfl);(case hn => rfl);(case hr => first | (go_simp;done) | (go_simp;rfl));intro w11 hw;have n0_ : Aside0 (w11.heap[gb241]? = some (.cells #[.string (⟨#[]⟩ : ByteArray),.string (⟨#[]⟩ : ByteArray),.int .i64 0,.int .i64 0] 45 (0,0))) := ⟨(by rw [hw];exact (by (with_reducible repeat (first | refine q0b ?_ _ | refine q0c ?_ | refine q0a ?_ _));refine q0u ?_ NB241_243.out _;(with_reducible repeat (first | refine q0b ?_ _ | refine q0c ?_ | refine q0a ?_ _));refine q0u ?_ NB241_243.out _;(with_reducible repeat (first | refine q0b ?_ _ | refine q0c ?_ | refine q0a ?_ _));refine q0u ?_ NB241_243.out _;(with_reducible repeat (first | refine q0b ?_ _ | refine q0c ?_ | refine q0a ?_ _));refine q0u ?_ NB241_243.out _;(with_reducible repeat (first | refine q0b ?_ _ | refine q0c ?_ | refine q0a ?_ _));exact BK241.out))⟩;have n1_ : Aside0 (w11.heap[gb243]? = some (.cells #[.string ((q0e l0 0).f0),.string ((q0e l0 0).f1),.int .i64 ((q0e l0 0).f2),.int .i64 ((q0e l0 0).f3)] 45 (0,0))) := ⟨(by rw [hw];exact (by (with_reducible repeat (first | refine q0b ?_ _ | refine q0c ?_ | refine q0a ?_ _));refine q0t (cs := #[.string ((q0e l0 0).f0),.string ((q0e l0 0).f1),.int .i64 ((q0e l0 0).f2),.int .i64 0]) ?_ 3 _ rfl;(with_reducible repeat (first | refine q0b ?_ _ | refine q0c ?_ | refine q0a ?_ _));refine q0t (cs := #[.string ((q0e l0 0).f0),.string ((q0e l0 0).f1),.int .i64 0,.int .i64 0]) ?_ 2 _ rfl;(with_reducible repeat (first | refine q0b ?_ _ | refine q0c ?_ | refine q0a ?_ _));refine q0t (cs := #[.string ((q0e l0 0).f0),.string (⟨#[]⟩ : ByteArray),.int .i64 0,.int .i64 0]) ?_ 1 _ rfl;(with_reducible repeat (first | refine q0b ?_ _ | refine q0c ?_ | refine q0a ?_ _));refine q0t (cs := #[.string (⟨#[]⟩ : ByteArray),.string (⟨#[]⟩ : ByteArray),.int .i64 0,.int .i64 0]) ?_ 0 _ rfl;(with_reducible repeat (first | refine q0b ?_ _ | refine q0c ?_ | refine q0a ?_ _));exact BK243.out))⟩;have n2_ : Aside0 (Below w.heap.size w w11) := ⟨(by rw [hw];exact (by repeat (first | (with_reducible first | exact HB.out | apply q0h | apply q0d | apply q0f | refine q0g ?_ GE241.out | refine q0g ?_ GE243.out) | exact HB.out)))⟩;clear hw;clear BK241;clear BK243;clear HB;have BK241 := n0_;have BK243 := n1_;have HB := n2_;clear n0_ n1_ n2_;have q12 : (1 : Int) ≤ ((l0.length : Int) : Int) := of_decide_eq_true (by first | (with_reducible assumption) | assumption);obtain ⟨i012,hi012,_,hsz12,_⟩ := info_parts info45;have hroom12 : l0.length ≤ c0 := HC0.out;have hC12 : Kd.C k45 _ (some ad242) l0.length l0 := HR0.out;have hcut12 := cut_from (P := Try.prog) 53 45 .i64 Try.underlying53 hi012 4 hsz12 (some ad242) l0.length c0 1 (by omega) q12;have hr12 := Kd.C_drop (m := (1 : Int).toNat) (c := c0) hC12 (by omega) hroom12;obtain ⟨A12,hA12⟩ : ∃ A1,A1 = (if c0 = (1 : Int).toNat then (some ad242) else ((some ad242) : Option Addr).map (·.add ((1 : Int).toNat * 4))) := ⟨_,rfl⟩;obtain ⟨c12,hc12⟩ : ∃ c1,c1 = c0 - (1 : Int).toNat := ⟨_,rfl⟩;have hy12 : y244.length = l0.length - (1 : Int).toNat := (by rw [Ny244.out,List.length_drop] <;> omega);rw [show (l0).drop (1 : Int).toNat = y244 from Ny244.out.symm] at hr12;replace hr12 : Kd.C k45 _ A12 y244.length y244 := (by rw [hA12];exact hr12);rw [← hy12,← hA12,← hc12] at hcut12;have HR247 := Aside0.mk hr12;have HC247 := Aside0.mk (show y244.length ≤ c12 from by rw [hy12,hc12];exact Nat.sub_le_sub_right hroom12 _);clear hr12 hC12 hroom12 hi012 hsz12 hc12;have KY12 := Aside0.mk hy12;have KA12 := Aside0.mk hA12;clear hy12 hA12;replace q12 := eq_true q12))
    go_loopg [17] k (fun kq v17 w' => ∃ (x17_1 : Int) (x244000_1 : ByteArray) (x244001_1 : ByteArray) (x244002_1 : Int) (x244003_1 : Int),v17 = .int .i64 x17_1 ∧ Aside0 (quota_Worst.l0 kq y244 (y244.length : Int) x17_1 x244000_1 x244001_1 x244002_1 x244003_1 = some (r1,r2,r3,r4,r5)) ∧ Aside0 (kq ≤ k) ∧ Aside0 (w'.heap[gb241]? = some (.cells #[.string (⟨#[]⟩ : ByteArray),.string (⟨#[]⟩ : ByteArray),.int .i64 0,.int .i64 0] 45 (0,0))) ∧ Aside0 (w'.heap[gb243]? = some (.cells #[.string x244000_1,.string x244001_1,.int .i64 x244002_1,.int .i64 x244003_1] 45 (0,0))) ∧ Aside0 (Below w.heap.size w w'))
    case atStart => exact ⟨(0),((q0e l0 0).f0),((q0e l0 0).f1),((q0e l0 0).f2),((q0e l0 0).f3),(by first | rfl | (simp;done) | (simp [*];done)),H',⟨Nat.le_refl _⟩,⟨by (with_reducible repeat (first | refine q0b ?_ _ | refine q0c ?_ | refine q0a ?_ _));exact BK241.out⟩,⟨by (with_reducible repeat (first | refine q0b ?_ _ | refine q0c ?_ | refine q0a ?_ _));exact BK243.out⟩,⟨by repeat (first | (with_reducible first | exact HB.out | apply q0h | apply q0d | apply q0f | refine q0g ?_ GE241.out | refine q0g ?_ GE243.out) | exact HB.out)⟩⟩
    case round =>
     clear H'
     try clear c1
     try clear q1
     try clear c2
     try clear c2b0
     try clear c2b1
     try clear c2b2
     try clear p2
     try clear q2
     try clear hx2
     try clear qi2
     try clear c4
     try clear c5
     try clear c5b0
     try clear c5b1
     try clear c6
     try clear c6b0
     try clear c6b1
     try clear c9
     try clear c12
     try clear q12
     try clear hcz10_0
     try clear hcz10_1
     try clear hcz10_2
     try clear hcz10_3
     try clear hcz4_0
     try clear hcz4_1
     try clear hcz4_2
     try clear hcz4_3
     try clear hfz10_0
     try clear hfz10_1
     try clear hfz10_2
     try clear hfz10_3
     try clear hfz4_0
     try clear hfz4_1
     try clear hfz4_2
     try clear hfz4_3
     try clear hx242_0
     try clear hx242_1
     try clear hx242_2
     try clear hx242_3
     try clear p242
     try clear q12
     try clear q242
     obtain ⟨x17_1,x244000_1,x244001_1,x244002_1,x244003_1,rfl,HA,HK1,BK241,BK243,HB⟩ := hrel
     cases gk with
     | zero => exact absurd HA.out (by simp [quota_Worst.l0])
     | succ k1 =>
      have H := HA.out
      clear HA
      simp only [quota_Worst.l0] at H
      by_cases c13 : x17_1 < (y244.length : Int)
      ·rw [if_pos c13] at H
       have c13b0 : decide (x17_1 < (y244.length : Int)) = true := decide_eq_true c13
       clear c13
       by_cases c14 : 0 ≤ x17_1
       ·rw [if_pos c14] at H
        have c14b0 : decide (0 ≤ x17_1) = true := decide_eq_true c14
        clear c14
        by_cases c15 : x17_1 < (y244.length : Int)
        ·rw [if_pos c15] at H
         have c15b0 : decide (x17_1 < (y244.length : Int)) = true := decide_eq_true c15
         clear c15
         replace H := Option.bind_eq_some_iff.mp H
         obtain ⟨t250,A160,H⟩ := H
         replace H : (if t250 = true then (quota_Worst.l0 k1 y244 (y244.length : Int) (wrap64 (x17_1 + 1)) ((q0e y244 x17_1).f0) ((q0e y244 x17_1).f1) ((q0e y244 x17_1).f2) ((q0e y244 x17_1).f3)) else (quota_Worst.l0 k1 y244 (y244.length : Int) (wrap64 (x17_1 + 1)) x244000_1 x244001_1 x244002_1 x244003_1)) = some (r1,r2,r3,r4,r5) := H
         have A16 := Aside0.mk A160
         clear A160
         by_cases c17 : t250 = true
         ·subst c17
          have H1 : (quota_Worst.l0 k1 y244 (y244.length : Int) (wrap64 (x17_1 + 1)) ((q0e y244 x17_1).f0) ((q0e y244 x17_1).f1) ((q0e y244 x17_1).f2) ((q0e y244 x17_1).f3)) = some (r1,r2,r3,r4,r5) := by rw [if_pos rfl] at H;exact H
          clear H
          have H := H1
          clear H1
          have H' := Aside0.mk H
          clear H
          have p248 : 0 ≤ (x17_1 : Int) := of_decide_eq_true (by first | (with_reducible assumption) | assumption)
          have q248 : x17_1 < (y244.length : Int) := of_decide_eq_true (by first | (with_reducible assumption) | assumption)
          obtain ⟨ad248,e248,hx248_0,hx248_1,hx248_2,hx248_3⟩ := at_T45 HR247.out x17_1 p248 q248
          cases e248
          replace hx248_0 := (HB.out.cell (World.block_lt_of_cell? w _ hx248_0)).trans hx248_0
          replace hx248_1 := (HB.out.cell (World.block_lt_of_cell? w _ hx248_1)).trans hx248_1
          replace hx248_2 := (HB.out.cell (World.block_lt_of_cell? w _ hx248_2)).trans hx248_2
          replace hx248_3 := (HB.out.cell (World.block_lt_of_cell? w _ hx248_3)).trans hx248_3
          replace p248 := eq_true p248
          replace q248 := eq_true q248
          go_wp2_with (first | ((with_reducible refine gate_dst (N := 6) rfl ?_);refine q03 ?hg (N := 6) ?hd (cs := #[.string (⟨#[]⟩ : ByteArray),.string (⟨#[]⟩ : ByteArray),.int .i64 0,.int .i64 0]) (t := 45) ?hr ?_;(case hd => rfl);(case hg => rfl);(case hr => first | (go_simp;done) | (go_simp;rfl));intro gb249 hg w18 hbox hb;have n0_ := Aside0.mk (q0q (g := gb241) (o := .cells #[.string (⟨#[]⟩ : ByteArray),.string (⟨#[]⟩ : ByteArray),.int .i64 0,.int .i64 0] 45 (0,0)) (by (with_reducible repeat (first | refine q0b ?_ _ | refine q0c ?_ | refine q0a ?_ _));exact BK241.out) hb);have n1_ := Aside0.mk (q0q (g := gb243) (o := .cells #[.string x244000_1,.string x244001_1,.int .i64 x244002_1,.int .i64 x244003_1] 45 (0,0)) (by (with_reducible repeat (first | refine q0b ?_ _ | refine q0c ?_ | refine q0a ?_ _));exact BK243.out) hb);have n2_ := Aside0.mk (q0s (by repeat (first | (with_reducible first | exact HB.out | apply q0h | apply q0d | apply q0f | refine q0g ?_ GE241.out | refine q0g ?_ GE243.out) | exact HB.out)) hb);have n3_ := Aside0.mk (hbox);have n4_ := Aside0.mk ((by rw [hg];exact (q0p (by repeat (first | (with_reducible first | exact HB.out | apply q0h | apply q0d | apply q0f | refine q0g ?_ GE241.out | refine q0g ?_ GE243.out) | exact HB.out))) : w.heap.size ≤ gb249));have n5_ := Aside0.mk ((by rw [hg];exact (q0p (by repeat (first | (with_reducible first | exact HB.out | apply q0h | apply q0d | apply q0f | refine q0g ?_ GE241.out | refine q0g ?_ GE243.out) | exact HB.out))) : w.heap.size ≤ gb249));have n6_ := Aside0.mk ((by rw [hg];exact Nat.ne_of_lt (q0y (g := gb241) (o := .cells #[.string (⟨#[]⟩ : ByteArray),.string (⟨#[]⟩ : ByteArray),.int .i64 0,.int .i64 0] 45 (0,0)) (by (with_reducible repeat (first | refine q0b ?_ _ | refine q0c ?_ | refine q0a ?_ _));exact BK241.out)) : gb241 ≠ gb249));have n7_ := Aside0.mk ((by rw [hg];exact Nat.ne_of_gt (q0y (g := gb241) (o := .cells #[.string (⟨#[]⟩ : ByteArray),.string (⟨#[]⟩ : ByteArray),.int .i64 0,.int .i64 0] 45 (0,0)) (by (with_reducible repeat (first | refine q0b ?_ _ | refine q0c ?_ | refine q0a ?_ _));exact BK241.out)) : gb249 ≠ gb241));have n8_ := Aside0.mk ((by rw [hg];exact Nat.ne_of_lt (q0y (g := gb243) (o := .cells #[.string x244000_1,.string x244001_1,.int .i64 x244002_1,.int .i64 x244003_1] 45 (0,0)) (by (with_reducible repeat (first | refine q0b ?_ _ | refine q0c ?_ | refine q0a ?_ _));exact BK243.out)) : gb243 ≠ gb249));have n9_ := Aside0.mk ((by rw [hg];exact Nat.ne_of_gt (q0y (g := gb243) (o := .cells #[.string x244000_1,.string x244001_1,.int .i64 x244002_1,.int .i64 x244003_1] 45 (0,0)) (by (with_reducible repeat (first | refine q0b ?_ _ | refine q0c ?_ | refine q0a ?_ _));exact BK243.out)) : gb249 ≠ gb243));clear BK241;clear BK243;clear HB;have BK241 := n0_;have BK243 := n1_;have HB := n2_;have BK249 := n3_;have GW249 := n4_;have GE249 := n5_;have NB241_249 := n6_;have NB249_241 := n7_;have NB243_249 := n8_;have NB249_243 := n9_;clear n0_ n1_ n2_ n3_ n4_ n5_ n6_ n7_ n8_ n9_;clear hb hbox hg;have hnb19 := NB249_241.out;have hnc19 := NB241_249.out;have hnb20 := NB249_243.out;have hnc20 := NB243_249.out;have hcz21_0 : w18.cell? ⟨gb249,0,none⟩ = some (.string (⟨#[]⟩ : ByteArray)) := (q0i BK249.out 0).trans rfl;have hcz21_1 : w18.cell? ⟨gb249,1,none⟩ = some (.string (⟨#[]⟩ : ByteArray)) := (q0i BK249.out 1).trans rfl;have hcz21_2 : w18.cell? ⟨gb249,2,none⟩ = some (.int .i64 0) := (q0i BK249.out 2).trans rfl;have hcz21_3 : w18.cell? ⟨gb249,3,none⟩ = some (.int .i64 0) := (q0i BK249.out 3).trans rfl;have hfz21_0 := q0k BK249.out 0;have hfz21_1 := q0k BK249.out 1;have hfz21_2 := q0k BK249.out 2;have hfz21_3 := q0k BK249.out 3;have hnb22 := NB243_241.out;have hnc22 := NB241_243.out;have hcz23_0 : w18.cell? ⟨gb243,0,none⟩ = some (.string x244000_1) := (q0i BK243.out 0).trans rfl;have hcz23_1 : w18.cell? ⟨gb243,1,none⟩ = some (.string x244001_1) := (q0i BK243.out 1).trans rfl;have hcz23_2 : w18.cell? ⟨gb243,2,none⟩ = some (.int .i64 x244002_1) := (q0i BK243.out 2).trans rfl;have hcz23_3 : w18.cell? ⟨gb243,3,none⟩ = some (.int .i64 x244003_1) := (q0i BK243.out 3).trans rfl;have hfz23_0 := q0k BK243.out 0;have hfz23_1 := q0k BK243.out 1;have hfz23_2 := q0k BK243.out 2;have hfz23_3 := q0k BK243.out 3) | ((with_reducible refine q00 (f := 77) rfl ?_);refine goesL_ (some 23) rfl rfl Try.func77 (by kernel_rfl) rfl #[.agg #[.string ((q0e y244 x17_1).f0),.string ((q0e y244 x17_1).f1),.int .i64 ((q0e y244 x17_1).f2),.int .i64 ((q0e y244 x17_1).f3)],.agg #[.string x244000_1,.string x244001_1,.int .i64 x244002_1,.int .i64 x244003_1]] rfl (by (try simp only [List.map_toArray,List.map_cons,List.map_nil]);first | done | rfl | (simp only [List.length_drop,List.length_take];rfl)) ?_;(with_reducible refine (quota_less.calls ((q0e y244 x17_1).f0) ((q0e y244 x17_1).f1) ((q0e y244 x17_1).f2) ((q0e y244 x17_1).f3) x244000_1 x244001_1 x244002_1 x244003_1 true _ A16.out).mono ?_);rintro e w24 ⟨rfl,hb⟩;refine ⟨_,rfl,?_⟩;have n0_ := Aside0.mk (q0q (g := gb241) (o := .cells #[.string (⟨#[]⟩ : ByteArray),.string (⟨#[]⟩ : ByteArray),.int .i64 0,.int .i64 0] 45 (0,0)) (by (with_reducible repeat (first | refine q0b ?_ _ | refine q0c ?_ | refine q0a ?_ _));refine q0u ?_ NB241_249.out _;(with_reducible repeat (first | refine q0b ?_ _ | refine q0c ?_ | refine q0a ?_ _));refine q0u ?_ NB241_249.out _;(with_reducible repeat (first | refine q0b ?_ _ | refine q0c ?_ | refine q0a ?_ _));refine q0u ?_ NB241_249.out _;(with_reducible repeat (first | refine q0b ?_ _ | refine q0c ?_ | refine q0a ?_ _));refine q0u ?_ NB241_249.out _;(with_reducible repeat (first | refine q0b ?_ _ | refine q0c ?_ | refine q0a ?_ _));exact BK241.out) hb);have n1_ := Aside0.mk (q0q (g := gb243) (o := .cells #[.string x244000_1,.string x244001_1,.int .i64 x244002_1,.int .i64 x244003_1] 45 (0,0)) (by (with_reducible repeat (first | refine q0b ?_ _ | refine q0c ?_ | refine q0a ?_ _));refine q0u ?_ NB243_249.out _;(with_reducible repeat (first | refine q0b ?_ _ | refine q0c ?_ | refine q0a ?_ _));refine q0u ?_ NB243_249.out _;(with_reducible repeat (first | refine q0b ?_ _ | refine q0c ?_ | refine q0a ?_ _));refine q0u ?_ NB243_249.out _;(with_reducible repeat (first | refine q0b ?_ _ | refine q0c ?_ | refine q0a ?_ _));refine q0u ?_ NB243_249.out _;(with_reducible repeat (first | refine q0b ?_ _ | refine q0c ?_ | refine q0a ?_ _));exact BK243.out) hb);have n2_ := Aside0.mk (q0q (g := gb249) (o := .cells #[.string ((q0e y244 x17_1).f0),.string ((q0e y244 x17_1).f1),.int .i64 ((q0e y244 x17_1).f2),.int .i64 ((q0e y244 x17_1).f3)] 45 (0,0)) (by (with_reducible repeat (first | refine q0b ?_ _ | refine q0c ?_ | refine q0a ?_ _));refine q0t (cs := #[.string ((q0e y244 x17_1).f0),.string ((q0e y244 x17_1).f1),.int .i64 ((q0e y244 x17_1).f2),.int .i64 0]) ?_ 3 _ rfl;(with_reducible repeat (first | refine q0b ?_ _ | refine q0c ?_ | refine q0a ?_ _));refine q0t (cs := #[.string ((q0e y244 x17_1).f0),.string ((q0e y244 x17_1).f1),.int .i64 0,.int .i64 0]) ?_ 2 _ rfl;(with_reducible repeat (first | refine q0b ?_ _ | refine q0c ?_ | refine q0a ?_ _));refine q0t (cs := #[.string ((q0e y244 x17_1).f0),.string (⟨#[]⟩ : ByteArray),.int .i64 0,.int .i64 0]) ?_ 1 _ rfl;(with_reducible repeat (first | refine q0b ?_ _ | refine q0c ?_ | refine q0a ?_ _));refine q0t (cs := #[.string (⟨#[]⟩ : ByteArray),.string (⟨#[]⟩ : ByteArray),.int .i64 0,.int .i64 0]) ?_ 0 _ rfl;(with_reducible repeat (first | refine q0b ?_ _ | refine q0c ?_ | refine q0a ?_ _));exact BK249.out) hb);have n3_ := Aside0.mk (q0s (by repeat (first | (with_reducible first | exact HB.out | apply q0h | apply q0d | apply q0f | refine q0g ?_ GE241.out | refine q0g ?_ GE243.out | refine q0g ?_ GE249.out) | exact HB.out)) hb);clear BK241;clear BK243;clear BK249;clear HB;have BK241 := n0_;have BK243 := n1_;have BK249 := n2_;have HB := n3_;clear n0_ n1_ n2_ n3_;(try clear hb);(try clear hb2);(try clear hk);(try clear hi);have hcz25_0 : w24.cell? ⟨gb249,0,none⟩ = some (.string ((q0e y244 x17_1).f0)) := (q0i BK249.out 0).trans rfl;have hcz25_1 : w24.cell? ⟨gb249,1,none⟩ = some (.string ((q0e y244 x17_1).f1)) := (q0i BK249.out 1).trans rfl;have hcz25_2 : w24.cell? ⟨gb249,2,none⟩ = some (.int .i64 ((q0e y244 x17_1).f2)) := (q0i BK249.out 2).trans rfl;have hcz25_3 : w24.cell? ⟨gb249,3,none⟩ = some (.int .i64 ((q0e y244 x17_1).f3)) := (q0i BK249.out 3).trans rfl;have hfz25_0 := q0k BK249.out 0;have hfz25_1 := q0k BK249.out 1;have hfz25_2 := q0k BK249.out 2;have hfz25_3 := q0k BK249.out 3;have hcz26_0 : w24.cell? ⟨gb243,0,none⟩ = some (.string x244000_1) := (q0i BK243.out 0).trans rfl;have hcz26_1 : w24.cell? ⟨gb243,1,none⟩ = some (.string x244001_1) := (q0i BK243.out 1).trans rfl;have hcz26_2 : w24.cell? ⟨gb243,2,none⟩ = some (.int .i64 x244002_1) := (q0i BK243.out 2).trans rfl;have hcz26_3 : w24.cell? ⟨gb243,3,none⟩ = some (.int .i64 x244003_1) := (q0i BK243.out 3).trans rfl;have hfz26_0 := q0k BK243.out 0;have hfz26_1 := q0k BK243.out 1;have hfz26_2 := q0k BK243.out 2;have hfz26_3 := q0k BK243.out 3))
          go_roundg k1
          case measure => have := HK1.out;omega
          case rel => exact ⟨(wrap64 (x17_1 + 1)),((q0e y244 x17_1).f0),((q0e y244 x17_1).f1),((q0e y244 x17_1).f2),((q0e y244 x17_1).f3),(by first | rfl | (simp;done) | (simp [*];done)),H',⟨by have := HK1.out;omega⟩,⟨by (with_reducible repeat (first | refine q0b ?_ _ | refine q0c ?_ | refine q0a ?_ _));refine q0u ?_ NB241_243.out _;(with_reducible repeat (first | refine q0b ?_ _ | refine q0c ?_ | refine q0a ?_ _));refine q0u ?_ NB241_243.out _;(with_reducible repeat (first | refine q0b ?_ _ | refine q0c ?_ | refine q0a ?_ _));refine q0u ?_ NB241_243.out _;(with_reducible repeat (first | refine q0b ?_ _ | refine q0c ?_ | refine q0a ?_ _));refine q0u ?_ NB241_243.out _;(with_reducible repeat (first | refine q0b ?_ _ | refine q0c ?_ | refine q0a ?_ _));exact BK241.out⟩,⟨by (with_reducible repeat (first | refine q0b ?_ _ | refine q0c ?_ | refine q0a ?_ _));refine q0t (cs := #[.string ((q0e y244 x17_1).f0),.string ((q0e y244 x17_1).f1),.int .i64 ((q0e y244 x17_1).f2),.int .i64 x244003_1]) ?_ 3 _ rfl;(with_reducible repeat (first | refine q0b ?_ _ | refine q0c ?_ | refine q0a ?_ _));refine q0t (cs := #[.string ((q0e y244 x17_1).f0),.string ((q0e y244 x17_1).f1),.int .i64 x244002_1,.int .i64 x244003_1]) ?_ 2 _ rfl;(with_reducible repeat (first | refine q0b ?_ _ | refine q0c ?_ | refine q0a ?_ _));refine q0t (cs := #[.string ((q0e y244 x17_1).f0),.string x244001_1,.int .i64 x244002_1,.int .i64 x244003_1]) ?_ 1 _ rfl;(with_reducible repeat (first | refine q0b ?_ _ | refine q0c ?_ | refine q0a ?_ _));refine q0t (cs := #[.string x244000_1,.string x244001_1,.int .i64 x244002_1,.int .i64 x244003_1]) ?_ 0 _ rfl;(with_reducible repeat (first | refine q0b ?_ _ | refine q0c ?_ | refine q0a ?_ _));exact BK243.out⟩,⟨by repeat (first | (with_reducible first | exact HB.out | apply q0h | apply q0d | apply q0f | refine q0g ?_ GE241.out | refine q0g ?_ GE243.out | refine q0g ?_ GE249.out) | exact HB.out)⟩⟩
         ·replace c17 := Bool.eq_false_iff.mpr c17
          subst c17
          have H1 : (quota_Worst.l0 k1 y244 (y244.length : Int) (wrap64 (x17_1 + 1)) x244000_1 x244001_1 x244002_1 x244003_1) = some (r1,r2,r3,r4,r5) := by rw [if_neg (show ¬ (false = true) by decide)] at H;exact H
          clear H
          have H := H1
          clear H1
          have H' := Aside0.mk H
          clear H
          have p248 : 0 ≤ (x17_1 : Int) := of_decide_eq_true (by first | (with_reducible assumption) | assumption)
          have q248 : x17_1 < (y244.length : Int) := of_decide_eq_true (by first | (with_reducible assumption) | assumption)
          obtain ⟨ad248,e248,hx248_0,hx248_1,hx248_2,hx248_3⟩ := at_T45 HR247.out x17_1 p248 q248
          cases e248
          replace hx248_0 := (HB.out.cell (World.block_lt_of_cell? w _ hx248_0)).trans hx248_0
          replace hx248_1 := (HB.out.cell (World.block_lt_of_cell? w _ hx248_1)).trans hx248_1
          replace hx248_2 := (HB.out.cell (World.block_lt_of_cell? w _ hx248_2)).trans hx248_2
          replace hx248_3 := (HB.out.cell (World.block_lt_of_cell? w _ hx248_3)).trans hx248_3
          replace p248 := eq_true p248
          replace q248 := eq_true q248
          go_wp2_with (first | ((with_reducible refine gate_dst (N := 6) rfl ?_);refine q03 ?hg (N := 6) ?hd (cs := #[.string (⟨#[]⟩ : ByteArray),.string (⟨#[]⟩ : ByteArray),.int .i64 0,.int .i64 0]) (t := 45) ?hr ?_;(case hd => rfl);(case hg => rfl);(case hr => first | (go_simp;done) | (go_simp;rfl));intro gb249 hg w27 hbox hb;have n0_ := Aside0.mk (q0q (g := gb241) (o := .cells #[.string (⟨#[]⟩ : ByteArray),.string (⟨#[]⟩ : ByteArray),.int .i64 0,.int .i64 0] 45 (0,0)) (by (with_reducible repeat (first | refine q0b ?_ _ | refine q0c ?_ | refine q0a ?_ _));exact BK241.out) hb);have n1_ := Aside0.mk (q0q (g := gb243) (o := .cells #[.string x244000_1,.string x244001_1,.int .i64 x244002_1,.int .i64 x244003_1] 45 (0,0)) (by (with_reducible repeat (first | refine q0b ?_ _ | refine q0c ?_ | refine q0a ?_ _));exact BK243.out) hb);have n2_ := Aside0.mk (q0s (by repeat (first | (with_reducible first | exact HB.out | apply q0h | apply q0d | apply q0f | refine q0g ?_ GE241.out | refine q0g ?_ GE243.out) | exact HB.out)) hb);have n3_ := Aside0.mk (hbox);have n4_ := Aside0.mk ((by rw [hg];exact (q0p (by repeat (first | (with_reducible first | exact HB.out | apply q0h | apply q0d | apply q0f | refine q0g ?_ GE241.out | refine q0g ?_ GE243.out) | exact HB.out))) : w.heap.size ≤ gb249));have n5_ := Aside0.mk ((by rw [hg];exact (q0p (by repeat (first | (with_reducible first | exact HB.out | apply q0h | apply q0d | apply q0f | refine q0g ?_ GE241.out | refine q0g ?_ GE243.out) | exact HB.out))) : w.heap.size ≤ gb249));have n6_ := Aside0.mk ((by rw [hg];exact Nat.ne_of_lt (q0y (g := gb241) (o := .cells #[.string (⟨#[]⟩ : ByteArray),.string (⟨#[]⟩ : ByteArray),.int .i64 0,.int .i64 0] 45 (0,0)) (by (with_reducible repeat (first | refine q0b ?_ _ | refine q0c ?_ | refine q0a ?_ _));exact BK241.out)) : gb241 ≠ gb249));have n7_ := Aside0.mk ((by rw [hg];exact Nat.ne_of_gt (q0y (g := gb241) (o := .cells #[.string (⟨#[]⟩ : ByteArray),.string (⟨#[]⟩ : ByteArray),.int .i64 0,.int .i64 0] 45 (0,0)) (by (with_reducible repeat (first | refine q0b ?_ _ | refine q0c ?_ | refine q0a ?_ _));exact BK241.out)) : gb249 ≠ gb241));have n8_ := Aside0.mk ((by rw [hg];exact Nat.ne_of_lt (q0y (g := gb243) (o := .cells #[.string x244000_1,.string x244001_1,.int .i64 x244002_1,.int .i64 x244003_1] 45 (0,0)) (by (with_reducible repeat (first | refine q0b ?_ _ | refine q0c ?_ | refine q0a ?_ _));exact BK243.out)) : gb243 ≠ gb249));have n9_ := Aside0.mk ((by rw [hg];exact Nat.ne_of_gt (q0y (g := gb243) (o := .cells #[.string x244000_1,.string x244001_1,.int .i64 x244002_1,.int .i64 x244003_1] 45 (0,0)) (by (with_reducible repeat (first | refine q0b ?_ _ | refine q0c ?_ | refine q0a ?_ _));exact BK243.out)) : gb249 ≠ gb243));clear BK241;clear BK243;clear HB;have BK241 := n0_;have BK243 := n1_;have HB := n2_;have BK249 := n3_;have GW249 := n4_;have GE249 := n5_;have NB241_249 := n6_;have NB249_241 := n7_;have NB243_249 := n8_;have NB249_243 := n9_;clear n0_ n1_ n2_ n3_ n4_ n5_ n6_ n7_ n8_ n9_;clear hb hbox hg;have hnb28 := NB249_241.out;have hnc28 := NB241_249.out;have hnb29 := NB249_243.out;have hnc29 := NB243_249.out;have hcz30_0 : w27.cell? ⟨gb249,0,none⟩ = some (.string (⟨#[]⟩ : ByteArray)) := (q0i BK249.out 0).trans rfl;have hcz30_1 : w27.cell? ⟨gb249,1,none⟩ = some (.string (⟨#[]⟩ : ByteArray)) := (q0i BK249.out 1).trans rfl;have hcz30_2 : w27.cell? ⟨gb249,2,none⟩ = some (.int .i64 0) := (q0i BK249.out 2).trans rfl;have hcz30_3 : w27.cell? ⟨gb249,3,none⟩ = some (.int .i64 0) := (q0i BK249.out 3).trans rfl;have hfz30_0 := q0k BK249.out 0;have hfz30_1 := q0k BK249.out 1;have hfz30_2 := q0k BK249.out 2;have hfz30_3 := q0k BK249.out 3;have hnb31 := NB243_241.out;have hnc31 := NB241_243.out;have hcz32_0 : w27.cell? ⟨gb243,0,none⟩ = some (.string x244000_1) := (q0i BK243.out 0).trans rfl;have hcz32_1 : w27.cell? ⟨gb243,1,none⟩ = some (.string x244001_1) := (q0i BK243.out 1).trans rfl;have hcz32_2 : w27.cell? ⟨gb243,2,none⟩ = some (.int .i64 x244002_1) := (q0i BK243.out 2).trans rfl;have hcz32_3 : w27.cell? ⟨gb243,3,none⟩ = some (.int .i64 x244003_1) := (q0i BK243.out 3).trans rfl;have hfz32_0 := q0k BK243.out 0;have hfz32_1 := q0k BK243.out 1;have hfz32_2 := q0k BK243.out 2;have hfz32_3 := q0k BK243.out 3) | ((with_reducible refine q00 (f := 77) rfl ?_);refine goesL_ (some 23) rfl rfl Try.func77 (by kernel_rfl) rfl #[.agg #[.string ((q0e y244 x17_1).f0),.string ((q0e y244 x17_1).f1),.int .i64 ((q0e y244 x17_1).f2),.int .i64 ((q0e y244 x17_1).f3)],.agg #[.string x244000_1,.string x244001_1,.int .i64 x244002_1,.int .i64 x244003_1]] rfl (by (try simp only [List.map_toArray,List.map_cons,List.map_nil]);first | done | rfl | (simp only [List.length_drop,List.length_take];rfl)) ?_;(with_reducible refine (quota_less.calls ((q0e y244 x17_1).f0) ((q0e y244 x17_1).f1) ((q0e y244 x17_1).f2) ((q0e y244 x17_1).f3) x244000_1 x244001_1 x244002_1 x244003_1 false _ A16.out).mono ?_);rintro e w33 ⟨rfl,hb⟩;refine ⟨_,rfl,?_⟩;have n0_ := Aside0.mk (q0q (g := gb241) (o := .cells #[.string (⟨#[]⟩ : ByteArray),.string (⟨#[]⟩ : ByteArray),.int .i64 0,.int .i64 0] 45 (0,0)) (by (with_reducible repeat (first | refine q0b ?_ _ | refine q0c ?_ | refine q0a ?_ _));refine q0u ?_ NB241_249.out _;(with_reducible repeat (first | refine q0b ?_ _ | refine q0c ?_ | refine q0a ?_ _));refine q0u ?_ NB241_249.out _;(with_reducible repeat (first | refine q0b ?_ _ | refine q0c ?_ | refine q0a ?_ _));refine q0u ?_ NB241_249.out _;(with_reducible repeat (first | refine q0b ?_ _ | refine q0c ?_ | refine q0a ?_ _));refine q0u ?_ NB241_249.out _;(with_reducible repeat (first | refine q0b ?_ _ | refine q0c ?_ | refine q0a ?_ _));exact BK241.out) hb);have n1_ := Aside0.mk (q0q (g := gb243) (o := .cells #[.string x244000_1,.string x244001_1,.int .i64 x244002_1,.int .i64 x244003_1] 45 (0,0)) (by (with_reducible repeat (first | refine q0b ?_ _ | refine q0c ?_ | refine q0a ?_ _));refine q0u ?_ NB243_249.out _;(with_reducible repeat (first | refine q0b ?_ _ | refine q0c ?_ | refine q0a ?_ _));refine q0u ?_ NB243_249.out _;(with_reducible repeat (first | refine q0b ?_ _ | refine q0c ?_ | refine q0a ?_ _));refine q0u ?_ NB243_249.out _;(with_reducible repeat (first | refine q0b ?_ _ | refine q0c ?_ | refine q0a ?_ _));refine q0u ?_ NB243_249.out _;(with_reducible repeat (first | refine q0b ?_ _ | refine q0c ?_ | refine q0a ?_ _));exact BK243.out) hb);have n2_ := Aside0.mk (q0q (g := gb249) (o := .cells #[.string ((q0e y244 x17_1).f0),.string ((q0e y244 x17_1).f1),.int .i64 ((q0e y244 x17_1).f2),.int .i64 ((q0e y244 x17_1).f3)] 45 (0,0)) (by (with_reducible repeat (first | refine q0b ?_ _ | refine q0c ?_ | refine q0a ?_ _));refine q0t (cs := #[.string ((q0e y244 x17_1).f0),.string ((q0e y244 x17_1).f1),.int .i64 ((q0e y244 x17_1).f2),.int .i64 0]) ?_ 3 _ rfl;(with_reducible repeat (first | refine q0b ?_ _ | refine q0c ?_ | refine q0a ?_ _));refine q0t (cs := #[.string ((q0e y244 x17_1).f0),.string ((q0e y244 x17_1).f1),.int .i64 0,.int .i64 0]) ?_ 2 _ rfl;(with_reducible repeat (first | refine q0b ?_ _ | refine q0c ?_ | refine q0a ?_ _));refine q0t (cs := #[.string ((q0e y244 x17_1).f0),.string (⟨#[]⟩ : ByteArray),.int .i64 0,.int .i64 0]) ?_ 1 _ rfl;(with_reducible repeat (first | refine q0b ?_ _ | refine q0c ?_ | refine q0a ?_ _));refine q0t (cs := #[.string (⟨#[]⟩ : ByteArray),.string (⟨#[]⟩ : ByteArray),.int .i64 0,.int .i64 0]) ?_ 0 _ rfl;(with_reducible repeat (first | refine q0b ?_ _ | refine q0c ?_ | refine q0a ?_ _));exact BK249.out) hb);have n3_ := Aside0.mk (q0s (by repeat (first | (with_reducible first | exact HB.out | apply q0h | apply q0d | apply q0f | refine q0g ?_ GE241.out | refine q0g ?_ GE243.out | refine q0g ?_ GE249.out) | exact HB.out)) hb);clear BK241;clear BK243;clear BK249;clear HB;have BK241 := n0_;have BK243 := n1_;have BK249 := n2_;have HB := n3_;clear n0_ n1_ n2_ n3_;(try clear hb);(try clear hb2);(try clear hk);(try clear hi)))
          go_roundg k1
          case measure => have := HK1.out;omega
          case rel => exact ⟨(wrap64 (x17_1 + 1)),(x244000_1),(x244001_1),(x244002_1),(x244003_1),(by first | rfl | (simp;done) | (simp [*];done)),H',⟨by have := HK1.out;omega⟩,⟨by (with_reducible repeat (first | refine q0b ?_ _ | refine q0c ?_ | refine q0a ?_ _));exact BK241.out⟩,⟨by (with_reducible repeat (first | refine q0b ?_ _ | refine q0c ?_ | refine q0a ?_ _));exact BK243.out⟩,⟨by repeat (first | (with_reducible first | exact HB.out | apply q0h | apply q0d | apply q0f | refine q0g ?_ GE241.out | refine q0g ?_ GE243.out | refine q0g ?_ GE249.out) | exact HB.out)⟩⟩
        ·rw [if_neg c15] at H
         exact absurd H (by simp)
       ·rw [if_neg c14] at H
        exact absurd H (by simp)
      ·rw [if_neg c13] at H
       have c13b0 : decide (x17_1 < (y244.length : Int)) = false := decide_eq_false c13
       clear c13
       simp only [Option.some.injEq,Prod.mk.injEq] at H
       obtain ⟨rfl,rfl,rfl,rfl,rfl⟩ := H
       have hnb34 := NB243_241.out
       have hnc34 := NB241_243.out
       have hcz35_0 : wr.cell? ⟨gb243,0,none⟩ = some (.string x244000_1) := (q0i BK243.out 0).trans rfl
       have hcz35_1 : wr.cell? ⟨gb243,1,none⟩ = some (.string x244001_1) := (q0i BK243.out 1).trans rfl
       have hcz35_2 : wr.cell? ⟨gb243,2,none⟩ = some (.int .i64 x244002_1) := (q0i BK243.out 2).trans rfl
       have hcz35_3 : wr.cell? ⟨gb243,3,none⟩ = some (.int .i64 x244003_1) := (q0i BK243.out 3).trans rfl
       have hfz35_0 := q0k BK243.out 0
       have hfz35_1 := q0k BK243.out 1
       have hfz35_2 := q0k BK243.out 2
       have hfz35_3 := q0k BK243.out 3
       have hcz36_0 : wr.cell? ⟨gb241,0,none⟩ = some (.string (⟨#[]⟩ : ByteArray)) := (q0i BK241.out 0).trans rfl
       have hcz36_1 : wr.cell? ⟨gb241,1,none⟩ = some (.string (⟨#[]⟩ : ByteArray)) := (q0i BK241.out 1).trans rfl
       have hcz36_2 : wr.cell? ⟨gb241,2,none⟩ = some (.int .i64 0) := (q0i BK241.out 2).trans rfl
       have hcz36_3 : wr.cell? ⟨gb241,3,none⟩ = some (.int .i64 0) := (q0i BK241.out 3).trans rfl
       have hfz36_0 := q0k BK241.out 0
       have hfz36_1 := q0k BK241.out 1
       have hfz36_2 := q0k BK241.out 2
       have hfz36_3 := q0k BK241.out 3
       go_wp2
       refine bodyPost_ret (results_ct rfl _ _ gb241 45 #[.string x244000_1,.string x244001_1,.int .i64 x244002_1,.int .i64 x244003_1] (0,0) _ rfl (by (with_reducible repeat (first | refine q0b ?_ _ | refine q0c ?_ | refine q0a ?_ _));refine q0t (cs := #[.string x244000_1,.string x244001_1,.int .i64 x244002_1,.int .i64 0]) ?_ 3 _ rfl;(with_reducible repeat (first | refine q0b ?_ _ | refine q0c ?_ | refine q0a ?_ _));refine q0t (cs := #[.string x244000_1,.string x244001_1,.int .i64 0,.int .i64 0]) ?_ 2 _ rfl;(with_reducible repeat (first | refine q0b ?_ _ | refine q0c ?_ | refine q0a ?_ _));refine q0t (cs := #[.string x244000_1,.string (⟨#[]⟩ : ByteArray),.int .i64 0,.int .i64 0]) ?_ 1 _ rfl;(with_reducible repeat (first | refine q0b ?_ _ | refine q0c ?_ | refine q0a ?_ _));refine q0t (cs := #[.string (⟨#[]⟩ : ByteArray),.string (⟨#[]⟩ : ByteArray),.int .i64 0,.int .i64 0]) ?_ 0 _ rfl;(with_reducible repeat (first | refine q0b ?_ _ | refine q0c ?_ | refine q0a ?_ _));exact BK241.out) Try.underlying45 rfl (by kernel_rfl)) rfl ?_
       exact ⟨by first | rfl | (simp [q0w,q0x] <;> rfl) | (simp [*,q0w,q0x] <;> rfl),by repeat (first | (with_reducible first | exact HB.out | apply q0h | apply q0d | apply q0f | refine q0g ?_ GE241.out | refine q0g ?_ GE243.out) | exact HB.out)⟩
   ·rw [if_neg c6] at H
    exact absurd H (by simp)
  ·rw [if_neg c5] at H
   exact absurd H (by simp)
end Go.Proofs.Ytcenlehfbgnphaa.Z
end
section
namespace Go.Proofs.Ytcenlehfbgnphaa.Z
open Go.RowKit Go.Proofs.YtcenlehfbgnphaaW.PrintWords Go.Proofs.YtcenlehfbgnphaaW.PrintLast Go.Proofs.YtcenlehfbgnphaaW.PrintMore
attribute [local go_sem] max2_int min2_int max_two min_two max_three min_three max_four min_four
set_option linter.unusedVariables false
set_option linter.unusedSimpArgs false
def quota_Room.f (a0_0 : ByteArray) (a0_1 : ByteArray) (a0_2 : Int) (a0_3 : Int) : Option (Int × Int) := (safe_Sub.f a0_3 a0_2).bind fun bt252 => (some (bt252.1,bt252.2))
set_option maxHeartbeats 8000000 in
set_option maxRecDepth 100000 in
theorem quota_Room.calls (a0_0 : ByteArray) (a0_1 : ByteArray) (a0_2 : Int) (a0_3 : Int) (r1 : Int) (r2 : Int) (w : World) (h : quota_Room.f a0_0 a0_1 a0_2 a0_3 = some (r1,r2)) :
  Calls Try.prog 51 #[.agg #[.string a0_0,.string a0_1,.int .i64 a0_2,.int .i64 a0_3]] w fun e w' => e = .returned (.tuple #[.int .i64 r1,.int .i64 r2]) ∧ Below w.heap.size w w' := by
 have hu45 := Try.underlying45
 have HB := Aside0.mk (Below.refl w.heap.size w)
 have H : ((safe_Sub.f a0_3 a0_2).bind fun bt252 => (some (bt252.1,bt252.2))) = some (r1,r2) := h
 clear h
 replace H := Option.bind_eq_some_iff.mp H
 obtain ⟨⟨t252,t253⟩,A20,H⟩ := H
 replace H : (some (t252,t253)) = some (r1,r2) := H
 have A2 := Aside0.mk A20
 clear A20
 simp only [Option.some.injEq,Prod.mk.injEq] at H
 obtain ⟨rfl,rfl⟩ := H
 go_enter Try.func51,Try.ntmps51
 go_wp2_with (first | ((with_reducible refine gate_dst (N := 1) rfl ?_);refine q03 ?hg (N := 1) ?hd (cs := #[.string a0_0,.string a0_1,.int .i64 a0_2,.int .i64 a0_3]) (t := 45) ?hr ?_;(case hd => rfl);(case hg => rfl);(case hr => first | (go_simp;done) | (go_simp;rfl));intro gb251 hg w3 hbox hb;have n0_ := Aside0.mk (q0s (by repeat (first | (with_reducible first | exact HB.out | apply q0h | apply q0d | apply q0f) | exact HB.out)) hb);have n1_ := Aside0.mk (hbox);have n2_ := Aside0.mk ((by rw [hg];exact (q0p (by repeat (first | (with_reducible first | exact HB.out | apply q0h | apply q0d | apply q0f) | exact HB.out))) : w.heap.size ≤ gb251));have n3_ := Aside0.mk ((by rw [hg];exact (q0p (by repeat (first | (with_reducible first | exact HB.out | apply q0h | apply q0d | apply q0f) | exact HB.out))) : w.heap.size ≤ gb251));clear HB;have HB := n0_;have BK251 := n1_;have GW251 := n2_;have GE251 := n3_;clear n0_ n1_ n2_ n3_;clear hb hbox hg;have hcz4_0 : w3.cell? ⟨gb251,0,none⟩ = some (.string a0_0) := (q0i BK251.out 0).trans rfl;have hcz4_1 : w3.cell? ⟨gb251,1,none⟩ = some (.string a0_1) := (q0i BK251.out 1).trans rfl;have hcz4_2 : w3.cell? ⟨gb251,2,none⟩ = some (.int .i64 a0_2) := (q0i BK251.out 2).trans rfl;have hcz4_3 : w3.cell? ⟨gb251,3,none⟩ = some (.int .i64 a0_3) := (q0i BK251.out 3).trans rfl;have hfz4_0 := q0k BK251.out 0;have hfz4_1 := q0k BK251.out 1;have hfz4_2 := q0k BK251.out 2;have hfz4_3 := q0k BK251.out 3) | ((with_reducible refine q00 (f := 25) rfl ?_);refine goesL_ (some 8) rfl rfl Try.func25 (by kernel_rfl) rfl #[.int .i64 a0_3,.int .i64 a0_2] rfl (by (try simp only [List.map_toArray,List.map_cons,List.map_nil]);first | done | rfl | (simp only [List.length_drop,List.length_take];rfl)) ?_;(with_reducible refine (safe_Sub.calls a0_3 a0_2 t252 t253 _ A2.out).mono ?_);rintro e w' ⟨rfl,⟨nd,rfl⟩⟩;refine ⟨_,rfl,?_⟩))
 go_ret2
 exact ⟨by first | rfl | (simp [q0w,q0x] <;> rfl) | (simp [*,q0w,q0x] <;> rfl),by repeat (first | (with_reducible first | exact HB.out | apply q0h | apply q0d | apply q0f | refine q0g ?_ GE251.out) | exact HB.out)⟩
end Go.Proofs.Ytcenlehfbgnphaa.Z
end
section
namespace Go.Proofs.Ytcenlehfbgnphaa.Z
open Go.RowKit Go.Proofs.YtcenlehfbgnphaaW.PrintWords Go.Proofs.YtcenlehfbgnphaaW.PrintLast Go.Proofs.YtcenlehfbgnphaaW.PrintMore
attribute [local go_sem] max2_int min2_int max_two min_two max_three min_three max_four min_four
set_option linter.unusedVariables false
set_option linter.unusedSimpArgs false
def verdererlaw28_u.f (a0 : Int) : Option ((List (S45))) := some (([(⟨(⟨#[113]⟩ : ByteArray),(⟨#[97]⟩ : ByteArray),a0,5⟩ : S45)] : List (S45)))
set_option maxHeartbeats 8000000 in
set_option maxRecDepth 100000 in
theorem verdererlaw28_u.calls (a0 : Int) (r : List (S45)) (w : World) (h : verdererlaw28_u.f a0 = some r) :
  Calls Try.prog 76 #[.int .i64 a0] w fun e w' => ∃ v0_ : Value,e = .returned (v0_) ∧ Kd.R k45 45 w' w.heap.size (fun _ => True) v0_ r ∧ Below w.heap.size w w' := by
 have hu45 := Try.underlying45
 have HB := Aside0.mk (Below.refl w.heap.size w)
 have H : (some (([(⟨(⟨#[113]⟩ : ByteArray),(⟨#[97]⟩ : ByteArray),a0,5⟩ : S45)] : List (S45)))) = some r := h
 clear h
 obtain ⟨y254,hy254⟩ : ∃ y_ : List (S45),y_ = (([(⟨(⟨#[113]⟩ : ByteArray),(⟨#[97]⟩ : ByteArray),a0,5⟩ : S45)] : List (S45))) := ⟨_,rfl⟩
 replace H : (some y254) = some r := by first | (rw [hy254];with_reducible exact H) | (have H2_ := (Option.bind_some _ _).symm.trans H;rw [hy254];with_reducible exact H2_) | (have H2_ := (Option.bind_some _ _).symm.trans H;with_reducible exact H2_) | with_reducible exact H | (rw [hy254];exact H) | exact H
 have Ny254 := Aside0.mk hy254
 clear hy254
 obtain rfl := Option.some.inj H
 go_enter Try.func76,Try.ntmps76
 go_wp2_with (first | ((with_reducible refine gate_dst (N := 5) rfl ?_);refine Kd.R_lit k45 _ 45 ?hg (N := 5) ?hd (xs := ([(⟨(⟨#[113]⟩ : ByteArray),(⟨#[97]⟩ : ByteArray),a0,5⟩ : S45)] : List (S45))) (inner := [.string (⟨#[113]⟩ : ByteArray),.string (⟨#[97]⟩ : ByteArray),.int .i64 a0,.int .i64 5]) (ok := fun _ => True) (okp := fun _ => True) ?hr ?hp (fun _ hk => hk) trivial (Below.refl _ _) (Nat.le_refl _) (by simp) ?_;(case hd => rfl);(case hg => rfl);(case hr => first | (go_simp;done) | (go_simp;rfl));(case hp => exact (Reps.c4 (show Kd.M k45 _ _ _ (⟨(⟨#[113]⟩ : ByteArray),(⟨#[97]⟩ : ByteArray),a0,5⟩ : S45) [.string (⟨#[113]⟩ : ByteArray),.string (⟨#[97]⟩ : ByteArray),.int .i64 a0,.int .i64 5] from (k45_mkM _ _ _ (⟨(⟨#[113]⟩ : ByteArray),(⟨#[97]⟩ : ByteArray),a0,5⟩ : S45) )) (Reps.none _ _)));intro v255 w2 ho3 hb hg_ hnew_;clear hg_ hnew_;(first | rw [← Ny254.out] at ho3 | (simp only [Int.reduceToNat] at ho3;rw [← Ny254.out] at ho3));have n0_ := Aside0.mk (Kd.R_lower ho3 (q0p (by repeat (first | (with_reducible first | exact HB.out | apply q0h | apply q0d | apply q0f) | exact HB.out))));have n1_ := Aside0.mk (q0s (by repeat (first | (with_reducible first | exact HB.out | apply q0h | apply q0d | apply q0f) | exact HB.out)) hb);clear HB;have HO256 := n0_;have HB := n1_;clear n0_ n1_;clear hb ho3))
 go_ret
 exact ⟨_,by first | rfl | (simp [q0w,q0x] <;> rfl) | (simp [*,q0w,q0x] <;> rfl),by (with_reducible repeat (first | apply Kd.q0m | apply Kd.q0n | apply Kd.q0o));exact HO256.out,by repeat (first | (with_reducible first | exact HB.out | apply q0h | apply q0d | apply q0f) | exact HB.out)⟩
end Go.Proofs.Ytcenlehfbgnphaa.Z
end
section
namespace Go.Proofs.Ytcenlehfbgnphaa.Z
open Go.RowKit Go.Proofs.YtcenlehfbgnphaaW.PrintWords Go.Proofs.YtcenlehfbgnphaaW.PrintLast Go.Proofs.YtcenlehfbgnphaaW.PrintMore
attribute [local go_sem] max2_int min2_int max_two min_two max_three min_three max_four min_four
set_option linter.unusedVariables false
set_option linter.unusedSimpArgs false
def verdererlaw28_known.f (k : Nat)  : Option (Bool) := (verdererlaw28_u.f 7).bind fun t257 => ((verdererlaw28_u.f 6).bind fun t260 => ((quota_Judge.f k t257 t260).bind fun bt263 => ((verdererlaw28_u.f 4).bind fun t269 => ((verdererlaw28_u.f 6).bind fun t272 => ((quota_Judge.f k t269 t272).bind fun bt275 => ((verdererlaw28_u.f 7).bind fun t281 => (if 0 < (t281.length : Int) then ((quota_Room.f ((q0e t281 0).f0) ((q0e t281 0).f1) ((q0e t281 0).f2) ((q0e t281 0).f3)).bind fun bt285 => ((verdererlaw28_u.f 4).bind fun t287 => ((verdererlaw28_u.f 9).bind fun t290 => (if t287.length + t290.length < 2932031007402 then ((quota_Worst.f k (t287 ++ t290)).bind fun bt296 => (if bt263.2.2.2.2 = 0 then (if bt275.2.2.2.2 = 16 then (if bt275.2.2.1 = 6 then (if bt285.1 = (-2) then (if bt285.2 = 0 then (if bt296.2.2.1 = 9 then (if bt296.2.2.2.2 = 0 then ((verdererlaw28_u.f 6).bind fun t302 => ((quota_Over.f k t302).bind fun t305 => (some ((t305.length : Int) == 1)))) else (none)) else (none)) else (none)) else (none)) else (none)) else (none)) else (none))) else (none))))) else (none))))))))
theorem verdererlaw28_known.mono : ∀ k,LeO (verdererlaw28_known.f k ) (verdererlaw28_known.f (k + 1) ) := by
 intro  k
 unfold verdererlaw28_known.f
 repeat' first
   | (with_reducible exact quota_Judge.mono _ _ _)
   | (with_reducible exact quota_Over.mono _ _)
   | (with_reducible exact quota_Worst.mono _ _)
   | (with_reducible exact LeO.refl _)
   | (with_reducible exact LeO.none _)
   | (with_reducible refine LeO.ite ?_ ?_)
   | (with_reducible refine LeO.bind ?_ (fun _ => ?_))
   | exact quota_Judge.mono _ _ _
   | exact quota_Over.mono _ _
   | exact quota_Worst.mono _ _
   | exact LeO.none _
   | refine LeO.ite ?_ ?_
   | refine LeO.bind ?_ (fun _ => ?_)
set_option maxHeartbeats 8000000 in
set_option maxRecDepth 100000 in
theorem verdererlaw28_known.calls (k : Nat)  (r : Bool) (w : World) (h : verdererlaw28_known.f k  = some r) :
  Calls Try.prog 44 #[] w fun e w' => e = .returned (.bool r) ∧ Below w.heap.size w w' := by
 have hu45 := Try.underlying45
 have HB := Aside0.mk (Below.refl w.heap.size w)
 have H : ((verdererlaw28_u.f 7).bind fun t257 => ((verdererlaw28_u.f 6).bind fun t260 => ((quota_Judge.f k t257 t260).bind fun bt263 => ((verdererlaw28_u.f 4).bind fun t269 => ((verdererlaw28_u.f 6).bind fun t272 => ((quota_Judge.f k t269 t272).bind fun bt275 => ((verdererlaw28_u.f 7).bind fun t281 => (if 0 < (t281.length : Int) then ((quota_Room.f ((q0e t281 0).f0) ((q0e t281 0).f1) ((q0e t281 0).f2) ((q0e t281 0).f3)).bind fun bt285 => ((verdererlaw28_u.f 4).bind fun t287 => ((verdererlaw28_u.f 9).bind fun t290 => (if t287.length + t290.length < 2932031007402 then ((quota_Worst.f k (t287 ++ t290)).bind fun bt296 => (if bt263.2.2.2.2 = 0 then (if bt275.2.2.2.2 = 16 then (if bt275.2.2.1 = 6 then (if bt285.1 = (-2) then (if bt285.2 = 0 then (if bt296.2.2.1 = 9 then (if bt296.2.2.2.2 = 0 then ((verdererlaw28_u.f 6).bind fun t302 => ((quota_Over.f k t302).bind fun t305 => (some ((t305.length : Int) == 1)))) else (none)) else (none)) else (none)) else (none)) else (none)) else (none)) else (none))) else (none))))) else (none))))))))) = some r := h
 clear h
 replace H := Option.bind_eq_some_iff.mp H
 obtain ⟨t257,A10,H⟩ := H
 replace H : ((verdererlaw28_u.f 6).bind fun t260 => ((quota_Judge.f k t257 t260).bind fun bt263 => ((verdererlaw28_u.f 4).bind fun t269 => ((verdererlaw28_u.f 6).bind fun t272 => ((quota_Judge.f k t269 t272).bind fun bt275 => ((verdererlaw28_u.f 7).bind fun t281 => (if 0 < (t281.length : Int) then ((quota_Room.f ((q0e t281 0).f0) ((q0e t281 0).f1) ((q0e t281 0).f2) ((q0e t281 0).f3)).bind fun bt285 => ((verdererlaw28_u.f 4).bind fun t287 => ((verdererlaw28_u.f 9).bind fun t290 => (if t287.length + t290.length < 2932031007402 then ((quota_Worst.f k (t287 ++ t290)).bind fun bt296 => (if bt263.2.2.2.2 = 0 then (if bt275.2.2.2.2 = 16 then (if bt275.2.2.1 = 6 then (if bt285.1 = (-2) then (if bt285.2 = 0 then (if bt296.2.2.1 = 9 then (if bt296.2.2.2.2 = 0 then ((verdererlaw28_u.f 6).bind fun t302 => ((quota_Over.f k t302).bind fun t305 => (some ((t305.length : Int) == 1)))) else (none)) else (none)) else (none)) else (none)) else (none)) else (none)) else (none))) else (none))))) else (none)))))))) = some r := H
 have A1 := Aside0.mk A10
 clear A10
 replace H := Option.bind_eq_some_iff.mp H
 obtain ⟨t260,A20,H⟩ := H
 replace H : ((quota_Judge.f k t257 t260).bind fun bt263 => ((verdererlaw28_u.f 4).bind fun t269 => ((verdererlaw28_u.f 6).bind fun t272 => ((quota_Judge.f k t269 t272).bind fun bt275 => ((verdererlaw28_u.f 7).bind fun t281 => (if 0 < (t281.length : Int) then ((quota_Room.f ((q0e t281 0).f0) ((q0e t281 0).f1) ((q0e t281 0).f2) ((q0e t281 0).f3)).bind fun bt285 => ((verdererlaw28_u.f 4).bind fun t287 => ((verdererlaw28_u.f 9).bind fun t290 => (if t287.length + t290.length < 2932031007402 then ((quota_Worst.f k (t287 ++ t290)).bind fun bt296 => (if bt263.2.2.2.2 = 0 then (if bt275.2.2.2.2 = 16 then (if bt275.2.2.1 = 6 then (if bt285.1 = (-2) then (if bt285.2 = 0 then (if bt296.2.2.1 = 9 then (if bt296.2.2.2.2 = 0 then ((verdererlaw28_u.f 6).bind fun t302 => ((quota_Over.f k t302).bind fun t305 => (some ((t305.length : Int) == 1)))) else (none)) else (none)) else (none)) else (none)) else (none)) else (none)) else (none))) else (none))))) else (none))))))) = some r := H
 have A2 := Aside0.mk A20
 clear A20
 replace H := Option.bind_eq_some_iff.mp H
 obtain ⟨⟨t263,t264,t265,t266,t267⟩,A30,H⟩ := H
 replace H : ((verdererlaw28_u.f 4).bind fun t269 => ((verdererlaw28_u.f 6).bind fun t272 => ((quota_Judge.f k t269 t272).bind fun bt275 => ((verdererlaw28_u.f 7).bind fun t281 => (if 0 < (t281.length : Int) then ((quota_Room.f ((q0e t281 0).f0) ((q0e t281 0).f1) ((q0e t281 0).f2) ((q0e t281 0).f3)).bind fun bt285 => ((verdererlaw28_u.f 4).bind fun t287 => ((verdererlaw28_u.f 9).bind fun t290 => (if t287.length + t290.length < 2932031007402 then ((quota_Worst.f k (t287 ++ t290)).bind fun bt296 => (if t267 = 0 then (if bt275.2.2.2.2 = 16 then (if bt275.2.2.1 = 6 then (if bt285.1 = (-2) then (if bt285.2 = 0 then (if bt296.2.2.1 = 9 then (if bt296.2.2.2.2 = 0 then ((verdererlaw28_u.f 6).bind fun t302 => ((quota_Over.f k t302).bind fun t305 => (some ((t305.length : Int) == 1)))) else (none)) else (none)) else (none)) else (none)) else (none)) else (none)) else (none))) else (none))))) else (none)))))) = some r := H
 have A3 := Aside0.mk A30
 clear A30
 replace H := Option.bind_eq_some_iff.mp H
 obtain ⟨t269,A40,H⟩ := H
 replace H : ((verdererlaw28_u.f 6).bind fun t272 => ((quota_Judge.f k t269 t272).bind fun bt275 => ((verdererlaw28_u.f 7).bind fun t281 => (if 0 < (t281.length : Int) then ((quota_Room.f ((q0e t281 0).f0) ((q0e t281 0).f1) ((q0e t281 0).f2) ((q0e t281 0).f3)).bind fun bt285 => ((verdererlaw28_u.f 4).bind fun t287 => ((verdererlaw28_u.f 9).bind fun t290 => (if t287.length + t290.length < 2932031007402 then ((quota_Worst.f k (t287 ++ t290)).bind fun bt296 => (if t267 = 0 then (if bt275.2.2.2.2 = 16 then (if bt275.2.2.1 = 6 then (if bt285.1 = (-2) then (if bt285.2 = 0 then (if bt296.2.2.1 = 9 then (if bt296.2.2.2.2 = 0 then ((verdererlaw28_u.f 6).bind fun t302 => ((quota_Over.f k t302).bind fun t305 => (some ((t305.length : Int) == 1)))) else (none)) else (none)) else (none)) else (none)) else (none)) else (none)) else (none))) else (none))))) else (none))))) = some r := H
 have A4 := Aside0.mk A40
 clear A40
 replace H := Option.bind_eq_some_iff.mp H
 obtain ⟨t272,A50,H⟩ := H
 replace H : ((quota_Judge.f k t269 t272).bind fun bt275 => ((verdererlaw28_u.f 7).bind fun t281 => (if 0 < (t281.length : Int) then ((quota_Room.f ((q0e t281 0).f0) ((q0e t281 0).f1) ((q0e t281 0).f2) ((q0e t281 0).f3)).bind fun bt285 => ((verdererlaw28_u.f 4).bind fun t287 => ((verdererlaw28_u.f 9).bind fun t290 => (if t287.length + t290.length < 2932031007402 then ((quota_Worst.f k (t287 ++ t290)).bind fun bt296 => (if t267 = 0 then (if bt275.2.2.2.2 = 16 then (if bt275.2.2.1 = 6 then (if bt285.1 = (-2) then (if bt285.2 = 0 then (if bt296.2.2.1 = 9 then (if bt296.2.2.2.2 = 0 then ((verdererlaw28_u.f 6).bind fun t302 => ((quota_Over.f k t302).bind fun t305 => (some ((t305.length : Int) == 1)))) else (none)) else (none)) else (none)) else (none)) else (none)) else (none)) else (none))) else (none))))) else (none)))) = some r := H
 have A5 := Aside0.mk A50
 clear A50
 replace H := Option.bind_eq_some_iff.mp H
 obtain ⟨⟨t275,t276,t277,t278,t279⟩,A60,H⟩ := H
 replace H : ((verdererlaw28_u.f 7).bind fun t281 => (if 0 < (t281.length : Int) then ((quota_Room.f ((q0e t281 0).f0) ((q0e t281 0).f1) ((q0e t281 0).f2) ((q0e t281 0).f3)).bind fun bt285 => ((verdererlaw28_u.f 4).bind fun t287 => ((verdererlaw28_u.f 9).bind fun t290 => (if t287.length + t290.length < 2932031007402 then ((quota_Worst.f k (t287 ++ t290)).bind fun bt296 => (if t267 = 0 then (if t279 = 16 then (if t277 = 6 then (if bt285.1 = (-2) then (if bt285.2 = 0 then (if bt296.2.2.1 = 9 then (if bt296.2.2.2.2 = 0 then ((verdererlaw28_u.f 6).bind fun t302 => ((quota_Over.f k t302).bind fun t305 => (some ((t305.length : Int) == 1)))) else (none)) else (none)) else (none)) else (none)) else (none)) else (none)) else (none))) else (none))))) else (none))) = some r := H
 have A6 := Aside0.mk A60
 clear A60
 replace H := Option.bind_eq_some_iff.mp H
 obtain ⟨t281,A70,H⟩ := H
 replace H : (if 0 < (t281.length : Int) then ((quota_Room.f ((q0e t281 0).f0) ((q0e t281 0).f1) ((q0e t281 0).f2) ((q0e t281 0).f3)).bind fun bt285 => ((verdererlaw28_u.f 4).bind fun t287 => ((verdererlaw28_u.f 9).bind fun t290 => (if t287.length + t290.length < 2932031007402 then ((quota_Worst.f k (t287 ++ t290)).bind fun bt296 => (if t267 = 0 then (if t279 = 16 then (if t277 = 6 then (if bt285.1 = (-2) then (if bt285.2 = 0 then (if bt296.2.2.1 = 9 then (if bt296.2.2.2.2 = 0 then ((verdererlaw28_u.f 6).bind fun t302 => ((quota_Over.f k t302).bind fun t305 => (some ((t305.length : Int) == 1)))) else (none)) else (none)) else (none)) else (none)) else (none)) else (none)) else (none))) else (none))))) else (none)) = some r := H
 have A7 := Aside0.mk A70
 clear A70
 by_cases c8 : 0 < (t281.length : Int)
 ·rw [if_pos c8] at H
  have c8b0 : decide (0 < (t281.length : Int)) = true := decide_eq_true c8
  have c8b1 : decide (0 < t281.length) = true := decide_eq_true (by omega)
  clear c8
  replace H := Option.bind_eq_some_iff.mp H
  obtain ⟨⟨t285,t286⟩,A90,H⟩ := H
  replace H : ((verdererlaw28_u.f 4).bind fun t287 => ((verdererlaw28_u.f 9).bind fun t290 => (if t287.length + t290.length < 2932031007402 then ((quota_Worst.f k (t287 ++ t290)).bind fun bt296 => (if t267 = 0 then (if t279 = 16 then (if t277 = 6 then (if t285 = (-2) then (if t286 = 0 then (if bt296.2.2.1 = 9 then (if bt296.2.2.2.2 = 0 then ((verdererlaw28_u.f 6).bind fun t302 => ((quota_Over.f k t302).bind fun t305 => (some ((t305.length : Int) == 1)))) else (none)) else (none)) else (none)) else (none)) else (none)) else (none)) else (none))) else (none)))) = some r := H
  have A9 := Aside0.mk A90
  clear A90
  replace H := Option.bind_eq_some_iff.mp H
  obtain ⟨t287,A100,H⟩ := H
  replace H : ((verdererlaw28_u.f 9).bind fun t290 => (if t287.length + t290.length < 2932031007402 then ((quota_Worst.f k (t287 ++ t290)).bind fun bt296 => (if t267 = 0 then (if t279 = 16 then (if t277 = 6 then (if t285 = (-2) then (if t286 = 0 then (if bt296.2.2.1 = 9 then (if bt296.2.2.2.2 = 0 then ((verdererlaw28_u.f 6).bind fun t302 => ((quota_Over.f k t302).bind fun t305 => (some ((t305.length : Int) == 1)))) else (none)) else (none)) else (none)) else (none)) else (none)) else (none)) else (none))) else (none))) = some r := H
  have A10 := Aside0.mk A100
  clear A100
  replace H := Option.bind_eq_some_iff.mp H
  obtain ⟨t290,A110,H⟩ := H
  replace H : (if t287.length + t290.length < 2932031007402 then ((quota_Worst.f k (t287 ++ t290)).bind fun bt296 => (if t267 = 0 then (if t279 = 16 then (if t277 = 6 then (if t285 = (-2) then (if t286 = 0 then (if bt296.2.2.1 = 9 then (if bt296.2.2.2.2 = 0 then ((verdererlaw28_u.f 6).bind fun t302 => ((quota_Over.f k t302).bind fun t305 => (some ((t305.length : Int) == 1)))) else (none)) else (none)) else (none)) else (none)) else (none)) else (none)) else (none))) else (none)) = some r := H
  have A11 := Aside0.mk A110
  clear A110
  by_cases c12 : t287.length + t290.length < 2932031007402
  ·rw [if_pos c12] at H
   have LMc12 := Aside0.mk c12
   clear c12
   obtain ⟨y293,hy293⟩ : ∃ y_ : List (S45),y_ = (t287 ++ t290) := ⟨_,rfl⟩
   replace H : ((quota_Worst.f k y293).bind fun bt296 => (if t267 = 0 then (if t279 = 16 then (if t277 = 6 then (if t285 = (-2) then (if t286 = 0 then (if bt296.2.2.1 = 9 then (if bt296.2.2.2.2 = 0 then ((verdererlaw28_u.f 6).bind fun t302 => ((quota_Over.f k t302).bind fun t305 => (some ((t305.length : Int) == 1)))) else (none)) else (none)) else (none)) else (none)) else (none)) else (none)) else (none))) = some r := by first | (rw [hy293];with_reducible exact H) | (have H2_ := (Option.bind_some _ _).symm.trans H;rw [hy293];with_reducible exact H2_) | (have H2_ := (Option.bind_some _ _).symm.trans H;with_reducible exact H2_) | with_reducible exact H | (rw [hy293];exact H) | exact H
   have Ny293 := Aside0.mk hy293
   clear hy293
   replace H := Option.bind_eq_some_iff.mp H
   obtain ⟨⟨t296,t297,t298,t299,t300⟩,A130,H⟩ := H
   replace H : (if t267 = 0 then (if t279 = 16 then (if t277 = 6 then (if t285 = (-2) then (if t286 = 0 then (if t298 = 9 then (if t300 = 0 then ((verdererlaw28_u.f 6).bind fun t302 => ((quota_Over.f k t302).bind fun t305 => (some ((t305.length : Int) == 1)))) else (none)) else (none)) else (none)) else (none)) else (none)) else (none)) else (none)) = some r := H
   have A13 := Aside0.mk A130
   clear A130
   by_cases c14 : t267 = 0
   ·rw [if_pos c14] at H
    have c14b0 : (t267 == 0) = true := beq_iff_eq.mpr c14
    have c14b1 : (t267 != 0) = false := bne_eq_false_iff_eq.mpr c14
    clear c14
    by_cases c15 : t279 = 16
    ·rw [if_pos c15] at H
     have c15b0 : (t279 == 16) = true := beq_iff_eq.mpr c15
     have c15b1 : (t279 != 16) = false := bne_eq_false_iff_eq.mpr c15
     clear c15
     by_cases c16 : t277 = 6
     ·rw [if_pos c16] at H
      have c16b0 : (t277 == 6) = true := beq_iff_eq.mpr c16
      have c16b1 : (t277 != 6) = false := bne_eq_false_iff_eq.mpr c16
      clear c16
      by_cases c17 : t285 = (-2)
      ·rw [if_pos c17] at H
       have c17b0 : (t285 == (-2)) = true := beq_iff_eq.mpr c17
       have c17b1 : (t285 != (-2)) = false := bne_eq_false_iff_eq.mpr c17
       clear c17
       by_cases c18 : t286 = 0
       ·rw [if_pos c18] at H
        have c18b0 : (t286 == 0) = true := beq_iff_eq.mpr c18
        have c18b1 : (t286 != 0) = false := bne_eq_false_iff_eq.mpr c18
        clear c18
        by_cases c19 : t298 = 9
        ·rw [if_pos c19] at H
         have c19b0 : (t298 == 9) = true := beq_iff_eq.mpr c19
         have c19b1 : (t298 != 9) = false := bne_eq_false_iff_eq.mpr c19
         clear c19
         by_cases c20 : t300 = 0
         ·rw [if_pos c20] at H
          have c20b0 : (t300 == 0) = true := beq_iff_eq.mpr c20
          have c20b1 : (t300 != 0) = false := bne_eq_false_iff_eq.mpr c20
          clear c20
          replace H := Option.bind_eq_some_iff.mp H
          obtain ⟨t302,A210,H⟩ := H
          replace H : ((quota_Over.f k t302).bind fun t305 => (some ((t305.length : Int) == 1))) = some r := H
          have A21 := Aside0.mk A210
          clear A210
          replace H := Option.bind_eq_some_iff.mp H
          obtain ⟨t305,A220,H⟩ := H
          replace H : (some ((t305.length : Int) == 1)) = some r := H
          have A22 := Aside0.mk A220
          clear A220
          obtain rfl := Option.some.inj H
          go_enter Try.func44,Try.ntmps44
          go_wp2_with (first | ((with_reducible refine q00 (f := 76) rfl ?_);refine goesL_ (some 10) rfl rfl Try.func76 (by kernel_rfl) rfl #[.int .i64 7] rfl (by (try simp only [List.map_toArray,List.map_cons,List.map_nil]);first | done | rfl | (simp only [List.length_drop,List.length_take];rfl)) ?_;(with_reducible refine (verdererlaw28_u.calls 7 t257 _ A1.out).mono ?_);rintro e w23 ⟨v258,rfl,ho0,hb⟩;refine ⟨_,rfl,?_⟩;have n0_ := Aside0.mk (Kd.R_lower ho0 (q0p (by repeat (first | (with_reducible first | exact HB.out | apply q0h | apply q0d | apply q0f) | exact HB.out))));have n1_ := Aside0.mk (q0s (by repeat (first | (with_reducible first | exact HB.out | apply q0h | apply q0d | apply q0f) | exact HB.out)) hb);clear HB;have HO259 := n0_;have HB := n1_;clear n0_ n1_;(try clear hb);(try clear hb2);(try clear hk);(try clear hi);(try clear ho0)) | ((with_reducible refine q00 (f := 76) rfl ?_);refine goesL_ (some 11) rfl rfl Try.func76 (by kernel_rfl) rfl #[.int .i64 6] rfl (by (try simp only [List.map_toArray,List.map_cons,List.map_nil]);first | done | rfl | (simp only [List.length_drop,List.length_take];rfl)) ?_;(with_reducible refine (verdererlaw28_u.calls 6 t260 _ A2.out).mono ?_);rintro e w24 ⟨v261,rfl,ho0,hb⟩;refine ⟨_,rfl,?_⟩;have n0_ := Aside0.mk (Kd.R_elder' (by (with_reducible repeat (first | apply Kd.q0m | apply Kd.q0n | apply Kd.q0o));exact HO259.out) (Kd.R_base ho0) hb);have n1_ := Aside0.mk (Kd.R_lower (Kd.R_new' ho0 (Kd.R_lt (by (with_reducible repeat (first | apply Kd.q0m | apply Kd.q0n | apply Kd.q0o));exact HO259.out))) (q0p (by repeat (first | (with_reducible first | exact HB.out | apply q0h | apply q0d | apply q0f) | exact HB.out))));have n2_ := Aside0.mk (q0s (by repeat (first | (with_reducible first | exact HB.out | apply q0h | apply q0d | apply q0f) | exact HB.out)) hb);clear HO259;clear HB;have HO259 := n0_;have HO262 := n1_;have HB := n2_;clear n0_ n1_ n2_;(try clear hb);(try clear hb2);(try clear hk);(try clear hi);(try clear ho0);obtain ⟨Ao25,co25,eo25⟩ := Kd.R_slice HO259.out;subst eo25;obtain ⟨Ao26,co26,eo26⟩ := Kd.R_slice HO262.out;subst eo26) | ((with_reducible refine q00 (f := 45) rfl ?_);refine goesL_ (some 12) rfl rfl Try.func45 (by kernel_rfl) rfl #[.slice Ao25 t257.length co25,.slice Ao26 t260.length co26] rfl (by (try simp only [List.map_toArray,List.map_cons,List.map_nil]);first | done | rfl | (simp only [List.length_drop,List.length_take];rfl)) ?_;(with_reducible refine (quota_Judge.calls k _ _ t257 _ _ t260 t263 t264 t265 t266 t267 _ ?side1 ?side2 ?side3 ?side4 A3.out).mono ?_);(case side1 => repeat (first | exact (Kd.q02 HO259.out).2.2 | (with_reducible refine Kd.C_alloc ?_ _) | (with_reducible refine Kd.C_drewN ?_ _) | (with_reducible refine Kd.C_drew ?_)));(case side2 => exact (Kd.q02 HO259.out).2.1);(case side3 => repeat (first | exact (Kd.q02 HO262.out).2.2 | (with_reducible refine Kd.C_alloc ?_ _) | (with_reducible refine Kd.C_drewN ?_ _) | (with_reducible refine Kd.C_drew ?_)));(case side4 => exact (Kd.q02 HO262.out).2.1);rintro e w27 ⟨rfl,hb⟩;refine ⟨_,rfl,?_⟩;have n0_ := Aside0.mk (Kd.q0v (by (with_reducible repeat (first | apply Kd.q0m | apply Kd.q0n | apply Kd.q0o));exact HO259.out) hb);have n1_ := Aside0.mk (Kd.q0v (by (with_reducible repeat (first | apply Kd.q0m | apply Kd.q0n | apply Kd.q0o));exact HO262.out) hb);have n2_ := Aside0.mk (q0s (by repeat (first | (with_reducible first | exact HB.out | apply q0h | apply q0d | apply q0f) | exact HB.out)) hb);clear HO259;clear HO262;clear HB;have HO259 := n0_;have HO262 := n1_;have HB := n2_;clear n0_ n1_ n2_;(try clear hb);(try clear hb2);(try clear hk);(try clear hi)) | ((with_reducible refine gate_dst (N := 1) rfl ?_);(try (refine gate_guard (by rfl) ?_;dsimp only));refine q03 ?hg (N := 1) ?hd (cs := #[.string (⟨#[]⟩ : ByteArray),.string (⟨#[]⟩ : ByteArray),.int .i64 0,.int .i64 0]) (t := 45) ?hr ?_;(case hd => rfl);(case hg => rfl);(case hr => first | (go_simp;done) | (go_simp;rfl));intro gb268 hg w28 hbox hb;have n0_ := Aside0.mk (Kd.q0v (Kd.R_elderB (by (with_reducible repeat (first | apply Kd.q0m | apply Kd.q0n | apply Kd.q0o));exact HO259.out) gb268 (Nat.le_of_eq hg.symm)) hb);have n1_ := Aside0.mk (Kd.q0v (Kd.R_elderB (by (with_reducible repeat (first | apply Kd.q0m | apply Kd.q0n | apply Kd.q0o));exact HO262.out) gb268 (Nat.le_of_eq hg.symm)) hb);have n2_ := Aside0.mk (q0s (by repeat (first | (with_reducible first | exact HB.out | apply q0h | apply q0d | apply q0f) | exact HB.out)) hb);have n3_ := Aside0.mk (hbox);have n4_ := Aside0.mk ((by rw [hg];exact (q0p (by repeat (first | (with_reducible first | exact HB.out | apply q0h | apply q0d | apply q0f) | exact HB.out))) : w.heap.size ≤ gb268));have n5_ := Aside0.mk ((by rw [hg];exact (q0p (by repeat (first | (with_reducible first | exact HB.out | apply q0h | apply q0d | apply q0f) | exact HB.out))) : w.heap.size ≤ gb268));clear HO259;clear HO262;clear HB;have HO259 := n0_;have HO262 := n1_;have HB := n2_;have BK268 := n3_;have GW268 := n4_;have GE268 := n5_;clear n0_ n1_ n2_ n3_ n4_ n5_;clear hb hbox hg;have hcz29_0 : w28.cell? ⟨gb268,0,none⟩ = some (.string (⟨#[]⟩ : ByteArray)) := (q0i BK268.out 0).trans rfl;have hcz29_1 : w28.cell? ⟨gb268,1,none⟩ = some (.string (⟨#[]⟩ : ByteArray)) := (q0i BK268.out 1).trans rfl;have hcz29_2 : w28.cell? ⟨gb268,2,none⟩ = some (.int .i64 0) := (q0i BK268.out 2).trans rfl;have hcz29_3 : w28.cell? ⟨gb268,3,none⟩ = some (.int .i64 0) := (q0i BK268.out 3).trans rfl;have hfz29_0 := q0k BK268.out 0;have hfz29_1 := q0k BK268.out 1;have hfz29_2 := q0k BK268.out 2;have hfz29_3 := q0k BK268.out 3) | ((with_reducible refine q00 (f := 76) rfl ?_);refine goesL_ (some 16) rfl rfl Try.func76 (by kernel_rfl) rfl #[.int .i64 4] rfl (by (try simp only [List.map_toArray,List.map_cons,List.map_nil]);first | done | rfl | (simp only [List.length_drop,List.length_take];rfl)) ?_;(with_reducible refine (verdererlaw28_u.calls 4 t269 _ A4.out).mono ?_);rintro e w30 ⟨v270,rfl,ho0,hb⟩;refine ⟨_,rfl,?_⟩;have n0_ := Aside0.mk (Kd.R_elder' (by (with_reducible repeat (first | apply Kd.q0m | apply Kd.q0n | apply Kd.q0o));exact (Kd.R_mono (Kd.R_far (p := ⟨gb268,3,none⟩) (Kd.R_far (p := ⟨gb268,2,none⟩) (Kd.R_far (p := ⟨gb268,1,none⟩) (Kd.R_far (p := ⟨gb268,0,none⟩) (Kd.R_mono HO259.out (fun k_ hk => (⟨hk,hk.2⟩ : _ ∧ k_ ≠ gb268))) (fun _ hk => hk.2) (.string t263)) (fun _ hk => hk.2) (.string t264)) (fun _ hk => hk.2) (.int .i64 t265)) (fun _ hk => hk.2) (.int .i64 t266)) (fun _ h_ => h_.1))) (Kd.R_base ho0) hb);have n1_ := Aside0.mk (Kd.R_elder' (by (with_reducible repeat (first | apply Kd.q0m | apply Kd.q0n | apply Kd.q0o));exact (Kd.R_mono (Kd.R_far (p := ⟨gb268,3,none⟩) (Kd.R_far (p := ⟨gb268,2,none⟩) (Kd.R_far (p := ⟨gb268,1,none⟩) (Kd.R_far (p := ⟨gb268,0,none⟩) (Kd.R_mono HO262.out (fun k_ hk => (⟨hk,hk.2⟩ : _ ∧ k_ ≠ gb268))) (fun _ hk => hk.2) (.string t263)) (fun _ hk => hk.2) (.string t264)) (fun _ hk => hk.2) (.int .i64 t265)) (fun _ hk => hk.2) (.int .i64 t266)) (fun _ h_ => h_.1))) (Kd.R_base ho0) hb);have n2_ := Aside0.mk (Kd.R_lower (Kd.R_newB (Kd.R_new' (Kd.R_new' ho0 (Kd.R_lt (by (with_reducible repeat (first | apply Kd.q0m | apply Kd.q0n | apply Kd.q0o));exact (Kd.R_mono (Kd.R_far (p := ⟨gb268,3,none⟩) (Kd.R_far (p := ⟨gb268,2,none⟩) (Kd.R_far (p := ⟨gb268,1,none⟩) (Kd.R_far (p := ⟨gb268,0,none⟩) (Kd.R_mono HO259.out (fun k_ hk => (⟨hk,hk.2⟩ : _ ∧ k_ ≠ gb268))) (fun _ hk => hk.2) (.string t263)) (fun _ hk => hk.2) (.string t264)) (fun _ hk => hk.2) (.int .i64 t265)) (fun _ hk => hk.2) (.int .i64 t266)) (fun _ h_ => h_.1))))) (Kd.R_lt (by (with_reducible repeat (first | apply Kd.q0m | apply Kd.q0n | apply Kd.q0o));exact (Kd.R_mono (Kd.R_far (p := ⟨gb268,3,none⟩) (Kd.R_far (p := ⟨gb268,2,none⟩) (Kd.R_far (p := ⟨gb268,1,none⟩) (Kd.R_far (p := ⟨gb268,0,none⟩) (Kd.R_mono HO262.out (fun k_ hk => (⟨hk,hk.2⟩ : _ ∧ k_ ≠ gb268))) (fun _ hk => hk.2) (.string t263)) (fun _ hk => hk.2) (.string t264)) (fun _ hk => hk.2) (.int .i64 t265)) (fun _ hk => hk.2) (.int .i64 t266)) (fun _ h_ => h_.1))))) (g := gb268) (o := .cells #[.string t263,.string t264,.int .i64 t265,.int .i64 t266] 45 (0,0)) (by (with_reducible repeat (first | refine q0b ?_ _ | refine q0c ?_ | refine q0a ?_ _));refine q0t (cs := #[.string t263,.string t264,.int .i64 t265,.int .i64 0]) ?_ 3 _ rfl;(with_reducible repeat (first | refine q0b ?_ _ | refine q0c ?_ | refine q0a ?_ _));refine q0t (cs := #[.string t263,.string t264,.int .i64 0,.int .i64 0]) ?_ 2 _ rfl;(with_reducible repeat (first | refine q0b ?_ _ | refine q0c ?_ | refine q0a ?_ _));refine q0t (cs := #[.string t263,.string (⟨#[]⟩ : ByteArray),.int .i64 0,.int .i64 0]) ?_ 1 _ rfl;(with_reducible repeat (first | refine q0b ?_ _ | refine q0c ?_ | refine q0a ?_ _));refine q0t (cs := #[.string (⟨#[]⟩ : ByteArray),.string (⟨#[]⟩ : ByteArray),.int .i64 0,.int .i64 0]) ?_ 0 _ rfl;(with_reducible repeat (first | refine q0b ?_ _ | refine q0c ?_ | refine q0a ?_ _));exact BK268.out)) (q0p (by repeat (first | (with_reducible first | exact HB.out | apply q0h | apply q0d | apply q0f | refine q0g ?_ GE268.out) | exact HB.out))));have n3_ := Aside0.mk (q0q (g := gb268) (o := .cells #[.string t263,.string t264,.int .i64 t265,.int .i64 t266] 45 (0,0)) (by (with_reducible repeat (first | refine q0b ?_ _ | refine q0c ?_ | refine q0a ?_ _));refine q0t (cs := #[.string t263,.string t264,.int .i64 t265,.int .i64 0]) ?_ 3 _ rfl;(with_reducible repeat (first | refine q0b ?_ _ | refine q0c ?_ | refine q0a ?_ _));refine q0t (cs := #[.string t263,.string t264,.int .i64 0,.int .i64 0]) ?_ 2 _ rfl;(with_reducible repeat (first | refine q0b ?_ _ | refine q0c ?_ | refine q0a ?_ _));refine q0t (cs := #[.string t263,.string (⟨#[]⟩ : ByteArray),.int .i64 0,.int .i64 0]) ?_ 1 _ rfl;(with_reducible repeat (first | refine q0b ?_ _ | refine q0c ?_ | refine q0a ?_ _));refine q0t (cs := #[.string (⟨#[]⟩ : ByteArray),.string (⟨#[]⟩ : ByteArray),.int .i64 0,.int .i64 0]) ?_ 0 _ rfl;(with_reducible repeat (first | refine q0b ?_ _ | refine q0c ?_ | refine q0a ?_ _));exact BK268.out) hb);have n4_ := Aside0.mk (q0s (by repeat (first | (with_reducible first | exact HB.out | apply q0h | apply q0d | apply q0f | refine q0g ?_ GE268.out) | exact HB.out)) hb);clear HO259;clear HO262;clear BK268;clear HB;have HO259 := n0_;have HO262 := n1_;have HO271 := n2_;have BK268 := n3_;have HB := n4_;clear n0_ n1_ n2_ n3_ n4_;(try clear hb);(try clear hb2);(try clear hk);(try clear hi);(try clear ho0)) | ((with_reducible refine q00 (f := 76) rfl ?_);refine goesL_ (some 17) rfl rfl Try.func76 (by kernel_rfl) rfl #[.int .i64 6] rfl (by (try simp only [List.map_toArray,List.map_cons,List.map_nil]);first | done | rfl | (simp only [List.length_drop,List.length_take];rfl)) ?_;(with_reducible refine (verdererlaw28_u.calls 6 t272 _ A5.out).mono ?_);rintro e w31 ⟨v273,rfl,ho0,hb⟩;refine ⟨_,rfl,?_⟩;have n0_ := Aside0.mk (Kd.R_elder' (by (with_reducible repeat (first | apply Kd.q0m | apply Kd.q0n | apply Kd.q0o));exact HO259.out) (Kd.R_base ho0) hb);have n1_ := Aside0.mk (Kd.R_elder' (by (with_reducible repeat (first | apply Kd.q0m | apply Kd.q0n | apply Kd.q0o));exact HO262.out) (Kd.R_base ho0) hb);have n2_ := Aside0.mk (Kd.R_elder' (by (with_reducible repeat (first | apply Kd.q0m | apply Kd.q0n | apply Kd.q0o));exact HO271.out) (Kd.R_base ho0) hb);have n3_ := Aside0.mk (Kd.R_lower (Kd.R_newB (Kd.R_new' (Kd.R_new' (Kd.R_new' ho0 (Kd.R_lt (by (with_reducible repeat (first | apply Kd.q0m | apply Kd.q0n | apply Kd.q0o));exact HO259.out))) (Kd.R_lt (by (with_reducible repeat (first | apply Kd.q0m | apply Kd.q0n | apply Kd.q0o));exact HO262.out))) (Kd.R_lt (by (with_reducible repeat (first | apply Kd.q0m | apply Kd.q0n | apply Kd.q0o));exact HO271.out))) (g := gb268) (o := .cells #[.string t263,.string t264,.int .i64 t265,.int .i64 t266] 45 (0,0)) (by (with_reducible repeat (first | refine q0b ?_ _ | refine q0c ?_ | refine q0a ?_ _));exact BK268.out)) (q0p (by repeat (first | (with_reducible first | exact HB.out | apply q0h | apply q0d | apply q0f | refine q0g ?_ GE268.out) | exact HB.out))));have n4_ := Aside0.mk (q0q (g := gb268) (o := .cells #[.string t263,.string t264,.int .i64 t265,.int .i64 t266] 45 (0,0)) (by (with_reducible repeat (first | refine q0b ?_ _ | refine q0c ?_ | refine q0a ?_ _));exact BK268.out) hb);have n5_ := Aside0.mk (q0s (by repeat (first | (with_reducible first | exact HB.out | apply q0h | apply q0d | apply q0f | refine q0g ?_ GE268.out) | exact HB.out)) hb);clear HO259;clear HO262;clear HO271;clear BK268;clear HB;have HO259 := n0_;have HO262 := n1_;have HO271 := n2_;have HO274 := n3_;have BK268 := n4_;have HB := n5_;clear n0_ n1_ n2_ n3_ n4_ n5_;(try clear hb);(try clear hb2);(try clear hk);(try clear hi);(try clear ho0);obtain ⟨Ao32,co32,eo32⟩ := Kd.R_slice HO271.out;subst eo32;obtain ⟨Ao33,co33,eo33⟩ := Kd.R_slice HO274.out;subst eo33) | ((with_reducible refine q00 (f := 45) rfl ?_);refine goesL_ (some 18) rfl rfl Try.func45 (by kernel_rfl) rfl #[.slice Ao32 t269.length co32,.slice Ao33 t272.length co33] rfl (by (try simp only [List.map_toArray,List.map_cons,List.map_nil]);first | done | rfl | (simp only [List.length_drop,List.length_take];rfl)) ?_;(with_reducible refine (quota_Judge.calls k _ _ t269 _ _ t272 t275 t276 t277 t278 t279 _ ?side1 ?side2 ?side3 ?side4 A6.out).mono ?_);(case side1 => repeat (first | exact (Kd.q02 HO271.out).2.2 | (with_reducible refine Kd.C_alloc ?_ _) | (with_reducible refine Kd.C_drewN ?_ _) | (with_reducible refine Kd.C_drew ?_)));(case side2 => exact (Kd.q02 HO271.out).2.1);(case side3 => repeat (first | exact (Kd.q02 HO274.out).2.2 | (with_reducible refine Kd.C_alloc ?_ _) | (with_reducible refine Kd.C_drewN ?_ _) | (with_reducible refine Kd.C_drew ?_)));(case side4 => exact (Kd.q02 HO274.out).2.1);rintro e w34 ⟨rfl,hb⟩;refine ⟨_,rfl,?_⟩;have n0_ := Aside0.mk (Kd.q0v (by (with_reducible repeat (first | apply Kd.q0m | apply Kd.q0n | apply Kd.q0o));exact HO259.out) hb);have n1_ := Aside0.mk (Kd.q0v (by (with_reducible repeat (first | apply Kd.q0m | apply Kd.q0n | apply Kd.q0o));exact HO262.out) hb);have n2_ := Aside0.mk (Kd.q0v (by (with_reducible repeat (first | apply Kd.q0m | apply Kd.q0n | apply Kd.q0o));exact HO271.out) hb);have n3_ := Aside0.mk (Kd.q0v (by (with_reducible repeat (first | apply Kd.q0m | apply Kd.q0n | apply Kd.q0o));exact HO274.out) hb);have n4_ := Aside0.mk (q0q (g := gb268) (o := .cells #[.string t263,.string t264,.int .i64 t265,.int .i64 t266] 45 (0,0)) (by (with_reducible repeat (first | refine q0b ?_ _ | refine q0c ?_ | refine q0a ?_ _));exact BK268.out) hb);have n5_ := Aside0.mk (q0s (by repeat (first | (with_reducible first | exact HB.out | apply q0h | apply q0d | apply q0f | refine q0g ?_ GE268.out) | exact HB.out)) hb);clear HO259;clear HO262;clear HO271;clear HO274;clear BK268;clear HB;have HO259 := n0_;have HO262 := n1_;have HO271 := n2_;have HO274 := n3_;have BK268 := n4_;have HB := n5_;clear n0_ n1_ n2_ n3_ n4_ n5_;(try clear hb);(try clear hb2);(try clear hk);(try clear hi)) | ((with_reducible refine gate_dst (N := 3) rfl ?_);(try (refine gate_guard (by rfl) ?_;dsimp only));refine q03 ?hg (N := 3) ?hd (cs := #[.string (⟨#[]⟩ : ByteArray),.string (⟨#[]⟩ : ByteArray),.int .i64 0,.int .i64 0]) (t := 45) ?hr ?_;(case hd => rfl);(case hg => rfl);(case hr => first | (go_simp;done) | (go_simp;rfl));intro gb280 hg w35 hbox hb;have n0_ := Aside0.mk (Kd.q0v (Kd.R_elderB (by (with_reducible repeat (first | apply Kd.q0m | apply Kd.q0n | apply Kd.q0o));exact HO259.out) gb280 (Nat.le_of_eq hg.symm)) hb);have n1_ := Aside0.mk (Kd.q0v (Kd.R_elderB (by (with_reducible repeat (first | apply Kd.q0m | apply Kd.q0n | apply Kd.q0o));exact HO262.out) gb280 (Nat.le_of_eq hg.symm)) hb);have n2_ := Aside0.mk (Kd.q0v (Kd.R_elderB (by (with_reducible repeat (first | apply Kd.q0m | apply Kd.q0n | apply Kd.q0o));exact HO271.out) gb280 (Nat.le_of_eq hg.symm)) hb);have n3_ := Aside0.mk (Kd.q0v (Kd.R_elderB (by (with_reducible repeat (first | apply Kd.q0m | apply Kd.q0n | apply Kd.q0o));exact HO274.out) gb280 (Nat.le_of_eq hg.symm)) hb);have n4_ := Aside0.mk (q0q (g := gb268) (o := .cells #[.string t263,.string t264,.int .i64 t265,.int .i64 t266] 45 (0,0)) (by (with_reducible repeat (first | refine q0b ?_ _ | refine q0c ?_ | refine q0a ?_ _));exact BK268.out) hb);have n5_ := Aside0.mk (q0s (by repeat (first | (with_reducible first | exact HB.out | apply q0h | apply q0d | apply q0f | refine q0g ?_ GE268.out) | exact HB.out)) hb);have n6_ := Aside0.mk (hbox);have n7_ := Aside0.mk ((by rw [hg];exact (q0p (by repeat (first | (with_reducible first | exact HB.out | apply q0h | apply q0d | apply q0f | refine q0g ?_ GE268.out) | exact HB.out))) : w.heap.size ≤ gb280));have n8_ := Aside0.mk ((by rw [hg];exact (q0p (by repeat (first | (with_reducible first | exact HB.out | apply q0h | apply q0d | apply q0f | refine q0g ?_ GE268.out) | exact HB.out))) : w.heap.size ≤ gb280));have n9_ := Aside0.mk ((by rw [hg];exact Nat.ne_of_lt (q0y (g := gb268) (o := .cells #[.string t263,.string t264,.int .i64 t265,.int .i64 t266] 45 (0,0)) (by (with_reducible repeat (first | refine q0b ?_ _ | refine q0c ?_ | refine q0a ?_ _));exact BK268.out)) : gb268 ≠ gb280));have n10_ := Aside0.mk ((by rw [hg];exact Nat.ne_of_gt (q0y (g := gb268) (o := .cells #[.string t263,.string t264,.int .i64 t265,.int .i64 t266] 45 (0,0)) (by (with_reducible repeat (first | refine q0b ?_ _ | refine q0c ?_ | refine q0a ?_ _));exact BK268.out)) : gb280 ≠ gb268));clear HO259;clear HO262;clear HO271;clear HO274;clear BK268;clear HB;have HO259 := n0_;have HO262 := n1_;have HO271 := n2_;have HO274 := n3_;have BK268 := n4_;have HB := n5_;have BK280 := n6_;have GW280 := n7_;have GE280 := n8_;have NB268_280 := n9_;have NB280_268 := n10_;clear n0_ n1_ n2_ n3_ n4_ n5_ n6_ n7_ n8_ n9_ n10_;clear hb hbox hg;have hnb36 := NB280_268.out;have hnc36 := NB268_280.out;have hcz37_0 : w35.cell? ⟨gb280,0,none⟩ = some (.string (⟨#[]⟩ : ByteArray)) := (q0i BK280.out 0).trans rfl;have hcz37_1 : w35.cell? ⟨gb280,1,none⟩ = some (.string (⟨#[]⟩ : ByteArray)) := (q0i BK280.out 1).trans rfl;have hcz37_2 : w35.cell? ⟨gb280,2,none⟩ = some (.int .i64 0) := (q0i BK280.out 2).trans rfl;have hcz37_3 : w35.cell? ⟨gb280,3,none⟩ = some (.int .i64 0) := (q0i BK280.out 3).trans rfl;have hfz37_0 := q0k BK280.out 0;have hfz37_1 := q0k BK280.out 1;have hfz37_2 := q0k BK280.out 2;have hfz37_3 := q0k BK280.out 3) | ((with_reducible refine q00 (f := 76) rfl ?_);refine goesL_ (some 22) rfl rfl Try.func76 (by kernel_rfl) rfl #[.int .i64 7] rfl (by (try simp only [List.map_toArray,List.map_cons,List.map_nil]);first | done | rfl | (simp only [List.length_drop,List.length_take];rfl)) ?_;(with_reducible refine (verdererlaw28_u.calls 7 t281 _ A7.out).mono ?_);rintro e w38 ⟨v282,rfl,ho0,hb⟩;refine ⟨_,rfl,?_⟩;have n0_ := Aside0.mk (Kd.R_elder' (by (with_reducible repeat (first | apply Kd.q0m | apply Kd.q0n | apply Kd.q0o));exact (Kd.R_mono (Kd.R_far (p := ⟨gb280,3,none⟩) (Kd.R_far (p := ⟨gb280,2,none⟩) (Kd.R_far (p := ⟨gb280,1,none⟩) (Kd.R_far (p := ⟨gb280,0,none⟩) (Kd.R_mono HO259.out (fun k_ hk => (⟨hk,hk.2⟩ : _ ∧ k_ ≠ gb280))) (fun _ hk => hk.2) (.string t275)) (fun _ hk => hk.2) (.string t276)) (fun _ hk => hk.2) (.int .i64 t277)) (fun _ hk => hk.2) (.int .i64 t278)) (fun _ h_ => h_.1))) (Kd.R_base ho0) hb);have n1_ := Aside0.mk (Kd.R_elder' (by (with_reducible repeat (first | apply Kd.q0m | apply Kd.q0n | apply Kd.q0o));exact (Kd.R_mono (Kd.R_far (p := ⟨gb280,3,none⟩) (Kd.R_far (p := ⟨gb280,2,none⟩) (Kd.R_far (p := ⟨gb280,1,none⟩) (Kd.R_far (p := ⟨gb280,0,none⟩) (Kd.R_mono HO262.out (fun k_ hk => (⟨hk,hk.2⟩ : _ ∧ k_ ≠ gb280))) (fun _ hk => hk.2) (.string t275)) (fun _ hk => hk.2) (.string t276)) (fun _ hk => hk.2) (.int .i64 t277)) (fun _ hk => hk.2) (.int .i64 t278)) (fun _ h_ => h_.1))) (Kd.R_base ho0) hb);have n2_ := Aside0.mk (Kd.R_elder' (by (with_reducible repeat (first | apply Kd.q0m | apply Kd.q0n | apply Kd.q0o));exact (Kd.R_mono (Kd.R_far (p := ⟨gb280,3,none⟩) (Kd.R_far (p := ⟨gb280,2,none⟩) (Kd.R_far (p := ⟨gb280,1,none⟩) (Kd.R_far (p := ⟨gb280,0,none⟩) (Kd.R_mono HO271.out (fun k_ hk => (⟨hk,hk.2⟩ : _ ∧ k_ ≠ gb280))) (fun _ hk => hk.2) (.string t275)) (fun _ hk => hk.2) (.string t276)) (fun _ hk => hk.2) (.int .i64 t277)) (fun _ hk => hk.2) (.int .i64 t278)) (fun _ h_ => h_.1))) (Kd.R_base ho0) hb);have n3_ := Aside0.mk (Kd.R_elder' (by (with_reducible repeat (first | apply Kd.q0m | apply Kd.q0n | apply Kd.q0o));exact (Kd.R_mono (Kd.R_far (p := ⟨gb280,3,none⟩) (Kd.R_far (p := ⟨gb280,2,none⟩) (Kd.R_far (p := ⟨gb280,1,none⟩) (Kd.R_far (p := ⟨gb280,0,none⟩) (Kd.R_mono HO274.out (fun k_ hk => (⟨hk,hk.2⟩ : _ ∧ k_ ≠ gb280))) (fun _ hk => hk.2) (.string t275)) (fun _ hk => hk.2) (.string t276)) (fun _ hk => hk.2) (.int .i64 t277)) (fun _ hk => hk.2) (.int .i64 t278)) (fun _ h_ => h_.1))) (Kd.R_base ho0) hb);have n4_ := Aside0.mk (Kd.R_lower (Kd.R_newB (Kd.R_newB (Kd.R_new' (Kd.R_new' (Kd.R_new' (Kd.R_new' ho0 (Kd.R_lt (by (with_reducible repeat (first | apply Kd.q0m | apply Kd.q0n | apply Kd.q0o));exact (Kd.R_mono (Kd.R_far (p := ⟨gb280,3,none⟩) (Kd.R_far (p := ⟨gb280,2,none⟩) (Kd.R_far (p := ⟨gb280,1,none⟩) (Kd.R_far (p := ⟨gb280,0,none⟩) (Kd.R_mono HO259.out (fun k_ hk => (⟨hk,hk.2⟩ : _ ∧ k_ ≠ gb280))) (fun _ hk => hk.2) (.string t275)) (fun _ hk => hk.2) (.string t276)) (fun _ hk => hk.2) (.int .i64 t277)) (fun _ hk => hk.2) (.int .i64 t278)) (fun _ h_ => h_.1))))) (Kd.R_lt (by (with_reducible repeat (first | apply Kd.q0m | apply Kd.q0n | apply Kd.q0o));exact (Kd.R_mono (Kd.R_far (p := ⟨gb280,3,none⟩) (Kd.R_far (p := ⟨gb280,2,none⟩) (Kd.R_far (p := ⟨gb280,1,none⟩) (Kd.R_far (p := ⟨gb280,0,none⟩) (Kd.R_mono HO262.out (fun k_ hk => (⟨hk,hk.2⟩ : _ ∧ k_ ≠ gb280))) (fun _ hk => hk.2) (.string t275)) (fun _ hk => hk.2) (.string t276)) (fun _ hk => hk.2) (.int .i64 t277)) (fun _ hk => hk.2) (.int .i64 t278)) (fun _ h_ => h_.1))))) (Kd.R_lt (by (with_reducible repeat (first | apply Kd.q0m | apply Kd.q0n | apply Kd.q0o));exact (Kd.R_mono (Kd.R_far (p := ⟨gb280,3,none⟩) (Kd.R_far (p := ⟨gb280,2,none⟩) (Kd.R_far (p := ⟨gb280,1,none⟩) (Kd.R_far (p := ⟨gb280,0,none⟩) (Kd.R_mono HO271.out (fun k_ hk => (⟨hk,hk.2⟩ : _ ∧ k_ ≠ gb280))) (fun _ hk => hk.2) (.string t275)) (fun _ hk => hk.2) (.string t276)) (fun _ hk => hk.2) (.int .i64 t277)) (fun _ hk => hk.2) (.int .i64 t278)) (fun _ h_ => h_.1))))) (Kd.R_lt (by (with_reducible repeat (first | apply Kd.q0m | apply Kd.q0n | apply Kd.q0o));exact (Kd.R_mono (Kd.R_far (p := ⟨gb280,3,none⟩) (Kd.R_far (p := ⟨gb280,2,none⟩) (Kd.R_far (p := ⟨gb280,1,none⟩) (Kd.R_far (p := ⟨gb280,0,none⟩) (Kd.R_mono HO274.out (fun k_ hk => (⟨hk,hk.2⟩ : _ ∧ k_ ≠ gb280))) (fun _ hk => hk.2) (.string t275)) (fun _ hk => hk.2) (.string t276)) (fun _ hk => hk.2) (.int .i64 t277)) (fun _ hk => hk.2) (.int .i64 t278)) (fun _ h_ => h_.1))))) (g := gb268) (o := .cells #[.string t263,.string t264,.int .i64 t265,.int .i64 t266] 45 (0,0)) (by (with_reducible repeat (first | refine q0b ?_ _ | refine q0c ?_ | refine q0a ?_ _));refine q0u ?_ NB268_280.out _;(with_reducible repeat (first | refine q0b ?_ _ | refine q0c ?_ | refine q0a ?_ _));refine q0u ?_ NB268_280.out _;(with_reducible repeat (first | refine q0b ?_ _ | refine q0c ?_ | refine q0a ?_ _));refine q0u ?_ NB268_280.out _;(with_reducible repeat (first | refine q0b ?_ _ | refine q0c ?_ | refine q0a ?_ _));refine q0u ?_ NB268_280.out _;(with_reducible repeat (first | refine q0b ?_ _ | refine q0c ?_ | refine q0a ?_ _));exact BK268.out)) (g := gb280) (o := .cells #[.string t275,.string t276,.int .i64 t277,.int .i64 t278] 45 (0,0)) (by (with_reducible repeat (first | refine q0b ?_ _ | refine q0c ?_ | refine q0a ?_ _));refine q0t (cs := #[.string t275,.string t276,.int .i64 t277,.int .i64 0]) ?_ 3 _ rfl;(with_reducible repeat (first | refine q0b ?_ _ | refine q0c ?_ | refine q0a ?_ _));refine q0t (cs := #[.string t275,.string t276,.int .i64 0,.int .i64 0]) ?_ 2 _ rfl;(with_reducible repeat (first | refine q0b ?_ _ | refine q0c ?_ | refine q0a ?_ _));refine q0t (cs := #[.string t275,.string (⟨#[]⟩ : ByteArray),.int .i64 0,.int .i64 0]) ?_ 1 _ rfl;(with_reducible repeat (first | refine q0b ?_ _ | refine q0c ?_ | refine q0a ?_ _));refine q0t (cs := #[.string (⟨#[]⟩ : ByteArray),.string (⟨#[]⟩ : ByteArray),.int .i64 0,.int .i64 0]) ?_ 0 _ rfl;(with_reducible repeat (first | refine q0b ?_ _ | refine q0c ?_ | refine q0a ?_ _));exact BK280.out)) (q0p (by repeat (first | (with_reducible first | exact HB.out | apply q0h | apply q0d | apply q0f | refine q0g ?_ GE268.out | refine q0g ?_ GE280.out) | exact HB.out))));have n5_ := Aside0.mk (q0q (g := gb268) (o := .cells #[.string t263,.string t264,.int .i64 t265,.int .i64 t266] 45 (0,0)) (by (with_reducible repeat (first | refine q0b ?_ _ | refine q0c ?_ | refine q0a ?_ _));refine q0u ?_ NB268_280.out _;(with_reducible repeat (first | refine q0b ?_ _ | refine q0c ?_ | refine q0a ?_ _));refine q0u ?_ NB268_280.out _;(with_reducible repeat (first | refine q0b ?_ _ | refine q0c ?_ | refine q0a ?_ _));refine q0u ?_ NB268_280.out _;(with_reducible repeat (first | refine q0b ?_ _ | refine q0c ?_ | refine q0a ?_ _));refine q0u ?_ NB268_280.out _;(with_reducible repeat (first | refine q0b ?_ _ | refine q0c ?_ | refine q0a ?_ _));exact BK268.out) hb);have n6_ := Aside0.mk (q0q (g := gb280) (o := .cells #[.string t275,.string t276,.int .i64 t277,.int .i64 t278] 45 (0,0)) (by (with_reducible repeat (first | refine q0b ?_ _ | refine q0c ?_ | refine q0a ?_ _));refine q0t (cs := #[.string t275,.string t276,.int .i64 t277,.int .i64 0]) ?_ 3 _ rfl;(with_reducible repeat (first | refine q0b ?_ _ | refine q0c ?_ | refine q0a ?_ _));refine q0t (cs := #[.string t275,.string t276,.int .i64 0,.int .i64 0]) ?_ 2 _ rfl;(with_reducible repeat (first | refine q0b ?_ _ | refine q0c ?_ | refine q0a ?_ _));refine q0t (cs := #[.string t275,.string (⟨#[]⟩ : ByteArray),.int .i64 0,.int .i64 0]) ?_ 1 _ rfl;(with_reducible repeat (first | refine q0b ?_ _ | refine q0c ?_ | refine q0a ?_ _));refine q0t (cs := #[.string (⟨#[]⟩ : ByteArray),.string (⟨#[]⟩ : ByteArray),.int .i64 0,.int .i64 0]) ?_ 0 _ rfl;(with_reducible repeat (first | refine q0b ?_ _ | refine q0c ?_ | refine q0a ?_ _));exact BK280.out) hb);have n7_ := Aside0.mk (q0s (by repeat (first | (with_reducible first | exact HB.out | apply q0h | apply q0d | apply q0f | refine q0g ?_ GE268.out | refine q0g ?_ GE280.out) | exact HB.out)) hb);clear HO259;clear HO262;clear HO271;clear HO274;clear BK268;clear BK280;clear HB;have HO259 := n0_;have HO262 := n1_;have HO271 := n2_;have HO274 := n3_;have HO283 := n4_;have BK268 := n5_;have BK280 := n6_;have HB := n7_;clear n0_ n1_ n2_ n3_ n4_ n5_ n6_ n7_;(try clear hb);(try clear hb2);(try clear hk);(try clear hi);(try clear ho0);obtain ⟨Ao39,co39,eo39⟩ := Kd.R_slice HO283.out;subst eo39;have p284 : 0 ≤ (0 : Int) := (by omega);have q284 : 0 < (t281.length : Int) := of_decide_eq_true (by first | (with_reducible assumption) | assumption);obtain ⟨ad284,e284,hx284_0,hx284_1,hx284_2,hx284_3⟩ := at_T45 (Kd.q02 HO283.out).2.2 0 p284 q284;cases e284;have qi284 : (0 < t281.length) = True := eq_true (by omega);(try rw [show ((0 : Int)).toNat = 0 from rfl] at hx284_0);(try rw [show 0 * 4 = 0 from rfl] at hx284_0);(try rw [Addr.add_zero'] at hx284_0);(try rw [show ((0 : Int)).toNat = 0 from rfl] at hx284_1);(try rw [show 0 * 4 = 0 from rfl] at hx284_1);(try rw [Addr.add_zero'] at hx284_1);(try rw [show ((0 : Int)).toNat = 0 from rfl] at hx284_2);(try rw [show 0 * 4 = 0 from rfl] at hx284_2);(try rw [Addr.add_zero'] at hx284_2);(try rw [show ((0 : Int)).toNat = 0 from rfl] at hx284_3);(try rw [show 0 * 4 = 0 from rfl] at hx284_3);(try rw [Addr.add_zero'] at hx284_3);replace p284 := eq_true p284;replace q284 := eq_true q284) | ((with_reducible refine q00 (f := 51) rfl ?_);refine goesL_ (some 25) rfl rfl Try.func51 (by kernel_rfl) rfl #[.agg #[.string ((q0e t281 0).f0),.string ((q0e t281 0).f1),.int .i64 ((q0e t281 0).f2),.int .i64 ((q0e t281 0).f3)]] rfl (by (try simp only [List.map_toArray,List.map_cons,List.map_nil]);first | done | rfl | (simp only [List.length_drop,List.length_take];rfl)) ?_;(with_reducible refine (quota_Room.calls ((q0e t281 0).f0) ((q0e t281 0).f1) ((q0e t281 0).f2) ((q0e t281 0).f3) t285 t286 _ A9.out).mono ?_);rintro e w40 ⟨rfl,hb⟩;refine ⟨_,rfl,?_⟩;have n0_ := Aside0.mk (Kd.q0v (by (with_reducible repeat (first | apply Kd.q0m | apply Kd.q0n | apply Kd.q0o));exact HO259.out) hb);have n1_ := Aside0.mk (Kd.q0v (by (with_reducible repeat (first | apply Kd.q0m | apply Kd.q0n | apply Kd.q0o));exact HO262.out) hb);have n2_ := Aside0.mk (Kd.q0v (by (with_reducible repeat (first | apply Kd.q0m | apply Kd.q0n | apply Kd.q0o));exact HO271.out) hb);have n3_ := Aside0.mk (Kd.q0v (by (with_reducible repeat (first | apply Kd.q0m | apply Kd.q0n | apply Kd.q0o));exact HO274.out) hb);have n4_ := Aside0.mk (Kd.q0v (by (with_reducible repeat (first | apply Kd.q0m | apply Kd.q0n | apply Kd.q0o));exact HO283.out) hb);have n5_ := Aside0.mk (q0q (g := gb268) (o := .cells #[.string t263,.string t264,.int .i64 t265,.int .i64 t266] 45 (0,0)) (by (with_reducible repeat (first | refine q0b ?_ _ | refine q0c ?_ | refine q0a ?_ _));exact BK268.out) hb);have n6_ := Aside0.mk (q0q (g := gb280) (o := .cells #[.string t275,.string t276,.int .i64 t277,.int .i64 t278] 45 (0,0)) (by (with_reducible repeat (first | refine q0b ?_ _ | refine q0c ?_ | refine q0a ?_ _));exact BK280.out) hb);have n7_ := Aside0.mk (q0s (by repeat (first | (with_reducible first | exact HB.out | apply q0h | apply q0d | apply q0f | refine q0g ?_ GE268.out | refine q0g ?_ GE280.out) | exact HB.out)) hb);clear HO259;clear HO262;clear HO271;clear HO274;clear HO283;clear BK268;clear BK280;clear HB;have HO259 := n0_;have HO262 := n1_;have HO271 := n2_;have HO274 := n3_;have HO283 := n4_;have BK268 := n5_;have BK280 := n6_;have HB := n7_;clear n0_ n1_ n2_ n3_ n4_ n5_ n6_ n7_;(try clear hb);(try clear hb2);(try clear hk);(try clear hi)) | ((with_reducible refine q00 (f := 76) rfl ?_);refine goesL_ (some 29) rfl rfl Try.func76 (by kernel_rfl) rfl #[.int .i64 4] rfl (by (try simp only [List.map_toArray,List.map_cons,List.map_nil]);first | done | rfl | (simp only [List.length_drop,List.length_take];rfl)) ?_;(with_reducible refine (verdererlaw28_u.calls 4 t287 _ A10.out).mono ?_);rintro e w41 ⟨v288,rfl,ho0,hb⟩;refine ⟨_,rfl,?_⟩;have n0_ := Aside0.mk (Kd.R_elder' (by (with_reducible repeat (first | apply Kd.q0m | apply Kd.q0n | apply Kd.q0o));exact HO259.out) (Kd.R_base ho0) hb);have n1_ := Aside0.mk (Kd.R_elder' (by (with_reducible repeat (first | apply Kd.q0m | apply Kd.q0n | apply Kd.q0o));exact HO262.out) (Kd.R_base ho0) hb);have n2_ := Aside0.mk (Kd.R_elder' (by (with_reducible repeat (first | apply Kd.q0m | apply Kd.q0n | apply Kd.q0o));exact HO271.out) (Kd.R_base ho0) hb);have n3_ := Aside0.mk (Kd.R_elder' (by (with_reducible repeat (first | apply Kd.q0m | apply Kd.q0n | apply Kd.q0o));exact HO274.out) (Kd.R_base ho0) hb);have n4_ := Aside0.mk (Kd.R_elder' (by (with_reducible repeat (first | apply Kd.q0m | apply Kd.q0n | apply Kd.q0o));exact HO283.out) (Kd.R_base ho0) hb);have n5_ := Aside0.mk (Kd.R_lower (Kd.R_newB (Kd.R_newB (Kd.R_new' (Kd.R_new' (Kd.R_new' (Kd.R_new' (Kd.R_new' ho0 (Kd.R_lt (by (with_reducible repeat (first | apply Kd.q0m | apply Kd.q0n | apply Kd.q0o));exact HO259.out))) (Kd.R_lt (by (with_reducible repeat (first | apply Kd.q0m | apply Kd.q0n | apply Kd.q0o));exact HO262.out))) (Kd.R_lt (by (with_reducible repeat (first | apply Kd.q0m | apply Kd.q0n | apply Kd.q0o));exact HO271.out))) (Kd.R_lt (by (with_reducible repeat (first | apply Kd.q0m | apply Kd.q0n | apply Kd.q0o));exact HO274.out))) (Kd.R_lt (by (with_reducible repeat (first | apply Kd.q0m | apply Kd.q0n | apply Kd.q0o));exact HO283.out))) (g := gb268) (o := .cells #[.string t263,.string t264,.int .i64 t265,.int .i64 t266] 45 (0,0)) (by (with_reducible repeat (first | refine q0b ?_ _ | refine q0c ?_ | refine q0a ?_ _));exact BK268.out)) (g := gb280) (o := .cells #[.string t275,.string t276,.int .i64 t277,.int .i64 t278] 45 (0,0)) (by (with_reducible repeat (first | refine q0b ?_ _ | refine q0c ?_ | refine q0a ?_ _));exact BK280.out)) (q0p (by repeat (first | (with_reducible first | exact HB.out | apply q0h | apply q0d | apply q0f | refine q0g ?_ GE268.out | refine q0g ?_ GE280.out) | exact HB.out))));have n6_ := Aside0.mk (q0q (g := gb268) (o := .cells #[.string t263,.string t264,.int .i64 t265,.int .i64 t266] 45 (0,0)) (by (with_reducible repeat (first | refine q0b ?_ _ | refine q0c ?_ | refine q0a ?_ _));exact BK268.out) hb);have n7_ := Aside0.mk (q0q (g := gb280) (o := .cells #[.string t275,.string t276,.int .i64 t277,.int .i64 t278] 45 (0,0)) (by (with_reducible repeat (first | refine q0b ?_ _ | refine q0c ?_ | refine q0a ?_ _));exact BK280.out) hb);have n8_ := Aside0.mk (q0s (by repeat (first | (with_reducible first | exact HB.out | apply q0h | apply q0d | apply q0f | refine q0g ?_ GE268.out | refine q0g ?_ GE280.out) | exact HB.out)) hb);clear HO259;clear HO262;clear HO271;clear HO274;clear HO283;clear BK268;clear BK280;clear HB;have HO259 := n0_;have HO262 := n1_;have HO271 := n2_;have HO274 := n3_;have HO283 := n4_;have HO289 := n5_;have BK268 := n6_;have BK280 := n7_;have HB := n8_;clear n0_ n1_ n2_ n3_ n4_ n5_ n6_ n7_ n8_;(try clear hb);(try clear hb2);(try clear hk);(try clear hi);(try clear ho0)) | ((with_reducible refine q00 (f := 76) rfl ?_);refine goesL_ (some 30) rfl rfl Try.func76 (by kernel_rfl) rfl #[.int .i64 9] rfl (by (try simp only [List.map_toArray,List.map_cons,List.map_nil]);first | done | rfl | (simp only [List.length_drop,List.length_take];rfl)) ?_;(with_reducible refine (verdererlaw28_u.calls 9 t290 _ A11.out).mono ?_);rintro e w42 ⟨v291,rfl,ho0,hb⟩;refine ⟨_,rfl,?_⟩;have n0_ := Aside0.mk (Kd.R_elder' (by (with_reducible repeat (first | apply Kd.q0m | apply Kd.q0n | apply Kd.q0o));exact HO259.out) (Kd.R_base ho0) hb);have n1_ := Aside0.mk (Kd.R_elder' (by (with_reducible repeat (first | apply Kd.q0m | apply Kd.q0n | apply Kd.q0o));exact HO262.out) (Kd.R_base ho0) hb);have n2_ := Aside0.mk (Kd.R_elder' (by (with_reducible repeat (first | apply Kd.q0m | apply Kd.q0n | apply Kd.q0o));exact HO271.out) (Kd.R_base ho0) hb);have n3_ := Aside0.mk (Kd.R_elder' (by (with_reducible repeat (first | apply Kd.q0m | apply Kd.q0n | apply Kd.q0o));exact HO274.out) (Kd.R_base ho0) hb);have n4_ := Aside0.mk (Kd.R_elder' (by (with_reducible repeat (first | apply Kd.q0m | apply Kd.q0n | apply Kd.q0o));exact HO283.out) (Kd.R_base ho0) hb);have n5_ := Aside0.mk (Kd.R_elder' (by (with_reducible repeat (first | apply Kd.q0m | apply Kd.q0n | apply Kd.q0o));exact HO289.out) (Kd.R_base ho0) hb);have n6_ := Aside0.mk (Kd.R_lower (Kd.R_newB (Kd.R_newB (Kd.R_new' (Kd.R_new' (Kd.R_new' (Kd.R_new' (Kd.R_new' (Kd.R_new' ho0 (Kd.R_lt (by (with_reducible repeat (first | apply Kd.q0m | apply Kd.q0n | apply Kd.q0o));exact HO259.out))) (Kd.R_lt (by (with_reducible repeat (first | apply Kd.q0m | apply Kd.q0n | apply Kd.q0o));exact HO262.out))) (Kd.R_lt (by (with_reducible repeat (first | apply Kd.q0m | apply Kd.q0n | apply Kd.q0o));exact HO271.out))) (Kd.R_lt (by (with_reducible repeat (first | apply Kd.q0m | apply Kd.q0n | apply Kd.q0o));exact HO274.out))) (Kd.R_lt (by (with_reducible repeat (first | apply Kd.q0m | apply Kd.q0n | apply Kd.q0o));exact HO283.out))) (Kd.R_lt (by (with_reducible repeat (first | apply Kd.q0m | apply Kd.q0n | apply Kd.q0o));exact HO289.out))) (g := gb268) (o := .cells #[.string t263,.string t264,.int .i64 t265,.int .i64 t266] 45 (0,0)) (by (with_reducible repeat (first | refine q0b ?_ _ | refine q0c ?_ | refine q0a ?_ _));exact BK268.out)) (g := gb280) (o := .cells #[.string t275,.string t276,.int .i64 t277,.int .i64 t278] 45 (0,0)) (by (with_reducible repeat (first | refine q0b ?_ _ | refine q0c ?_ | refine q0a ?_ _));exact BK280.out)) (q0p (by repeat (first | (with_reducible first | exact HB.out | apply q0h | apply q0d | apply q0f | refine q0g ?_ GE268.out | refine q0g ?_ GE280.out) | exact HB.out))));have n7_ := Aside0.mk (q0q (g := gb268) (o := .cells #[.string t263,.string t264,.int .i64 t265,.int .i64 t266] 45 (0,0)) (by (with_reducible repeat (first | refine q0b ?_ _ | refine q0c ?_ | refine q0a ?_ _));exact BK268.out) hb);have n8_ := Aside0.mk (q0q (g := gb280) (o := .cells #[.string t275,.string t276,.int .i64 t277,.int .i64 t278] 45 (0,0)) (by (with_reducible repeat (first | refine q0b ?_ _ | refine q0c ?_ | refine q0a ?_ _));exact BK280.out) hb);have n9_ := Aside0.mk (q0s (by repeat (first | (with_reducible first | exact HB.out | apply q0h | apply q0d | apply q0f | refine q0g ?_ GE268.out | refine q0g ?_ GE280.out) | exact HB.out)) hb);clear HO259;clear HO262;clear HO271;clear HO274;clear HO283;clear HO289;clear BK268;clear BK280;clear HB;have HO259 := n0_;have HO262 := n1_;have HO271 := n2_;have HO274 := n3_;have HO283 := n4_;have HO289 := n5_;have HO292 := n6_;have BK268 := n7_;have BK280 := n8_;have HB := n9_;clear n0_ n1_ n2_ n3_ n4_ n5_ n6_ n7_ n8_ n9_;(try clear hb);(try clear hb2);(try clear hk);(try clear hi);(try clear ho0);obtain ⟨Ao44,co44,eo44⟩ := Kd.R_slice HO292.out;subst eo44) | ((with_reducible refine gate_builtin (b := .append) (xs := #[.tmp 29,.tmp 30]) rfl ?_);(try (refine gate_guard (by rfl) ?_;dsimp only));at_builtin;refine Kd.R_append_rows k45 (w0 := w) w.heap.size rfl (.tmp 29) (.tmp 30) 53 45 (.agg #[(.string ⟨#[]⟩),(.string ⟨#[]⟩),(.int .i64 0),(.int .i64 0)]) 48 rfl Try.underlying53 info45 rfl (by decide) (by omega) v288 t287 t290 _ _ _ (fun k_ => some k_ ≠ (.slice Ao25 t257.length co25 : Value).ownBlock ∧ some k_ ≠ (.slice Ao26 t260.length co26 : Value).ownBlock ∧ some k_ ≠ (.slice Ao32 t269.length co32 : Value).ownBlock ∧ some k_ ≠ (.slice Ao33 t272.length co33 : Value).ownBlock ∧ some k_ ≠ (.slice (some ad284) t281.length co39 : Value).ownBlock ∧ some k_ ≠ (.slice Ao44 t290.length co44 : Value).ownBlock ∧ k_ ≠ gb268 ∧ k_ ≠ gb280) (fun _ => False) rfl rfl ?aO ?aR (fun _ _ h => h) (fun _ h => h.elim) ?aF ?aB ?aS ?aL ?_;(case aR => repeat (first | exact (Kd.q02 HO292.out).2.2 | (with_reducible refine Kd.C_alloc ?_ _) | (with_reducible refine Kd.C_drewN ?_ _) | (with_reducible refine Kd.C_drew ?_)));(case aB => exact (by repeat (first | (with_reducible first | exact HB.out | apply q0h | apply q0d | apply q0f | refine q0g ?_ GE268.out | refine q0g ?_ GE280.out) | exact HB.out)));(case aF => exact (fun k_ hk => ⟨Kd.fresh' (Kd.R_lt (by (with_reducible repeat (first | apply Kd.q0m | apply Kd.q0n | apply Kd.q0o));exact HO259.out)) k_ hk,Kd.fresh' (Kd.R_lt (by (with_reducible repeat (first | apply Kd.q0m | apply Kd.q0n | apply Kd.q0o));exact HO262.out)) k_ hk,Kd.fresh' (Kd.R_lt (by (with_reducible repeat (first | apply Kd.q0m | apply Kd.q0n | apply Kd.q0o));exact HO271.out)) k_ hk,Kd.fresh' (Kd.R_lt (by (with_reducible repeat (first | apply Kd.q0m | apply Kd.q0n | apply Kd.q0o));exact HO274.out)) k_ hk,Kd.fresh' (Kd.R_lt (by (with_reducible repeat (first | apply Kd.q0m | apply Kd.q0n | apply Kd.q0o));exact HO283.out)) k_ hk,Kd.fresh' (Kd.R_lt (by (with_reducible repeat (first | apply Kd.q0m | apply Kd.q0n | apply Kd.q0o));exact HO292.out)) k_ hk,Kd.freshB (g := gb268) (o := .cells #[.string t263,.string t264,.int .i64 t265,.int .i64 t266] 45 (0,0)) (by (with_reducible repeat (first | refine q0b ?_ _ | refine q0c ?_ | refine q0a ?_ _));exact BK268.out) k_ hk,Kd.freshB (g := gb280) (o := .cells #[.string t275,.string t276,.int .i64 t277,.int .i64 t278] 45 (0,0)) (by (with_reducible repeat (first | refine q0b ?_ _ | refine q0c ?_ | refine q0a ?_ _));exact BK280.out) k_ hk⟩));(case aO => exact (by (with_reducible repeat (first | apply Kd.q0m | apply Kd.q0n | apply Kd.q0o));exact Kd.R_mono HO289.out (fun _ hk => ⟨hk.1.1.1.1.1.1.1.2,⟨hk.1.1.1.1.1.1.2,⟨hk.1.1.1.1.1.2,⟨hk.1.1.1.1.2,⟨hk.1.1.1.2,⟨hk.2,⟨hk.1.1.2,hk.1.2⟩⟩⟩⟩⟩⟩⟩)));(case aS => exact (q0p (by repeat (first | (with_reducible first | exact HB.out | apply q0h | apply q0d | apply q0f | refine q0g ?_ GE268.out | refine q0g ?_ GE280.out) | exact HB.out))));(case aL => have := LMc12.out;omega);intro v294 w43 ho hb hg hat;rw [← Ny293.out] at ho;have n0_ := Aside0.mk (Kd.R_after (ok := (fun k_ => some k_ ≠ (.slice Ao26 t260.length co26 : Value).ownBlock ∧ some k_ ≠ (.slice Ao32 t269.length co32 : Value).ownBlock ∧ some k_ ≠ (.slice Ao33 t272.length co33 : Value).ownBlock ∧ some k_ ≠ (.slice (some ad284) t281.length co39 : Value).ownBlock ∧ some k_ ≠ (.slice Ao44 t290.length co44 : Value).ownBlock ∧ k_ ≠ gb268 ∧ k_ ≠ gb280)) (by (with_reducible repeat (first | apply Kd.q0m | apply Kd.q0n | apply Kd.q0o));exact Kd.R_mono HO259.out (fun _ hk => ⟨⟨hk.1.1.1.1.1.1.1.2,⟨hk.1.1.1.1.1.2,⟨hk.1.1.1.1.2,⟨hk.1.1.2,⟨hk.2,⟨hk.1.1.1.1.1.1.2,hk.1.1.1.2⟩⟩⟩⟩⟩⟩,hk.1.2⟩)) hg hat);have n1_ := Aside0.mk (Kd.R_after (ok := (fun k_ => some k_ ≠ (.slice Ao25 t257.length co25 : Value).ownBlock ∧ some k_ ≠ (.slice Ao32 t269.length co32 : Value).ownBlock ∧ some k_ ≠ (.slice Ao33 t272.length co33 : Value).ownBlock ∧ some k_ ≠ (.slice (some ad284) t281.length co39 : Value).ownBlock ∧ some k_ ≠ (.slice Ao44 t290.length co44 : Value).ownBlock ∧ k_ ≠ gb268 ∧ k_ ≠ gb280)) (by (with_reducible repeat (first | apply Kd.q0m | apply Kd.q0n | apply Kd.q0o));exact Kd.R_mono HO262.out (fun _ hk => ⟨⟨hk.1.1.1.1.1.1.1.2,⟨hk.1.1.1.1.1.2,⟨hk.1.1.1.1.2,⟨hk.1.1.2,⟨hk.2,⟨hk.1.1.1.1.1.1.2,hk.1.1.1.2⟩⟩⟩⟩⟩⟩,hk.1.2⟩)) hg hat);have n2_ := Aside0.mk (blk_grown (g := gb268) (o := .cells #[.string t263,.string t264,.int .i64 t265,.int .i64 t266] 45 (0,0)) (by (with_reducible repeat (first | refine q0b ?_ _ | refine q0c ?_ | refine q0a ?_ _));exact BK268.out) hg (Kd.q0l HO289.out (fun _ hk => hk.1.1.2)));have n3_ := Aside0.mk (Kd.R_after (ok := (fun k_ => some k_ ≠ (.slice Ao25 t257.length co25 : Value).ownBlock ∧ some k_ ≠ (.slice Ao26 t260.length co26 : Value).ownBlock ∧ some k_ ≠ (.slice Ao33 t272.length co33 : Value).ownBlock ∧ some k_ ≠ (.slice (some ad284) t281.length co39 : Value).ownBlock ∧ some k_ ≠ (.slice Ao44 t290.length co44 : Value).ownBlock ∧ k_ ≠ gb268 ∧ k_ ≠ gb280)) (by (with_reducible repeat (first | apply Kd.q0m | apply Kd.q0n | apply Kd.q0o));exact Kd.R_mono HO271.out (fun _ hk => ⟨⟨hk.1.1.1.1.1.1.1.2,⟨hk.1.1.1.1.1.1.2,⟨hk.1.1.1.1.2,⟨hk.1.1.2,⟨hk.2,⟨hk.1.1.1.1.1.2,hk.1.1.1.2⟩⟩⟩⟩⟩⟩,hk.1.2⟩)) hg hat);have n4_ := Aside0.mk (Kd.R_after (ok := (fun k_ => some k_ ≠ (.slice Ao25 t257.length co25 : Value).ownBlock ∧ some k_ ≠ (.slice Ao26 t260.length co26 : Value).ownBlock ∧ some k_ ≠ (.slice Ao32 t269.length co32 : Value).ownBlock ∧ some k_ ≠ (.slice (some ad284) t281.length co39 : Value).ownBlock ∧ some k_ ≠ (.slice Ao44 t290.length co44 : Value).ownBlock ∧ k_ ≠ gb268 ∧ k_ ≠ gb280)) (by (with_reducible repeat (first | apply Kd.q0m | apply Kd.q0n | apply Kd.q0o));exact Kd.R_mono HO274.out (fun _ hk => ⟨⟨hk.1.1.1.1.1.1.1.2,⟨hk.1.1.1.1.1.1.2,⟨hk.1.1.1.1.1.2,⟨hk.1.1.2,⟨hk.2,⟨hk.1.1.1.1.2,hk.1.1.1.2⟩⟩⟩⟩⟩⟩,hk.1.2⟩)) hg hat);have n5_ := Aside0.mk (blk_grown (g := gb280) (o := .cells #[.string t275,.string t276,.int .i64 t277,.int .i64 t278] 45 (0,0)) (by (with_reducible repeat (first | refine q0b ?_ _ | refine q0c ?_ | refine q0a ?_ _));exact BK280.out) hg (Kd.q0l HO289.out (fun _ hk => hk.1.2)));have n6_ := Aside0.mk (Kd.R_after (ok := (fun k_ => some k_ ≠ (.slice Ao25 t257.length co25 : Value).ownBlock ∧ some k_ ≠ (.slice Ao26 t260.length co26 : Value).ownBlock ∧ some k_ ≠ (.slice Ao32 t269.length co32 : Value).ownBlock ∧ some k_ ≠ (.slice Ao33 t272.length co33 : Value).ownBlock ∧ some k_ ≠ (.slice Ao44 t290.length co44 : Value).ownBlock ∧ k_ ≠ gb268 ∧ k_ ≠ gb280)) (by (with_reducible repeat (first | apply Kd.q0m | apply Kd.q0n | apply Kd.q0o));exact Kd.R_mono HO283.out (fun _ hk => ⟨⟨hk.1.1.1.1.1.1.1.2,⟨hk.1.1.1.1.1.1.2,⟨hk.1.1.1.1.1.2,⟨hk.1.1.1.1.2,⟨hk.2,⟨hk.1.1.1.2,hk.1.1.2⟩⟩⟩⟩⟩⟩,hk.1.2⟩)) hg hat);have n7_ := Aside0.mk (Kd.R_after (ok := (fun k_ => some k_ ≠ (.slice Ao25 t257.length co25 : Value).ownBlock ∧ some k_ ≠ (.slice Ao26 t260.length co26 : Value).ownBlock ∧ some k_ ≠ (.slice Ao32 t269.length co32 : Value).ownBlock ∧ some k_ ≠ (.slice Ao33 t272.length co33 : Value).ownBlock ∧ some k_ ≠ (.slice (some ad284) t281.length co39 : Value).ownBlock ∧ k_ ≠ gb268 ∧ k_ ≠ gb280)) (by (with_reducible repeat (first | apply Kd.q0m | apply Kd.q0n | apply Kd.q0o));exact Kd.R_mono HO292.out (fun _ hk => ⟨⟨hk.1.1.1.1.1.1.1.2,⟨hk.1.1.1.1.1.1.2,⟨hk.1.1.1.1.1.2,⟨hk.1.1.1.1.2,⟨hk.1.1.1.2,⟨hk.1.2,hk.2⟩⟩⟩⟩⟩⟩,hk.1.1.2⟩)) hg hat);have n8_ := Aside0.mk (hb);have n9_ := Aside0.mk (ho);clear HO259;clear HO262;clear BK268;clear HO271;clear HO274;clear BK280;clear HO283;clear HO292;clear HB;clear HO289;have HO259 := n0_;have HO262 := n1_;have BK268 := n2_;have HO271 := n3_;have HO274 := n4_;have BK280 := n5_;have HO283 := n6_;have HO292 := n7_;have HB := n8_;have HO295 := n9_;clear n0_ n1_ n2_ n3_ n4_ n5_ n6_ n7_ n8_ n9_;clear ho hb hg hat;obtain ⟨Ao45,co45,eo45⟩ := Kd.R_slice HO295.out;subst eo45) | ((with_reducible refine q00 (f := 47) rfl ?_);refine goesL_ (some 32) rfl rfl Try.func47 (by kernel_rfl) rfl #[.slice Ao45 y293.length co45] rfl (by (try simp only [List.map_toArray,List.map_cons,List.map_nil]);first | done | rfl | (simp only [List.length_drop,List.length_take];rfl)) ?_;(with_reducible refine (quota_Worst.calls k _ _ y293 t296 t297 t298 t299 t300 _ ?side1 ?side2 A13.out).mono ?_);(case side1 => repeat (first | exact (Kd.q02 HO295.out).2.2 | (with_reducible refine Kd.C_alloc ?_ _) | (with_reducible refine Kd.C_drewN ?_ _) | (with_reducible refine Kd.C_drew ?_)));(case side2 => exact (Kd.q02 HO295.out).2.1);rintro e w46 ⟨rfl,hb⟩;refine ⟨_,rfl,?_⟩;have n0_ := Aside0.mk (Kd.q0v (by (with_reducible repeat (first | apply Kd.q0m | apply Kd.q0n | apply Kd.q0o));exact HO259.out) hb);have n1_ := Aside0.mk (Kd.q0v (by (with_reducible repeat (first | apply Kd.q0m | apply Kd.q0n | apply Kd.q0o));exact HO262.out) hb);have n2_ := Aside0.mk (Kd.q0v (by (with_reducible repeat (first | apply Kd.q0m | apply Kd.q0n | apply Kd.q0o));exact HO271.out) hb);have n3_ := Aside0.mk (Kd.q0v (by (with_reducible repeat (first | apply Kd.q0m | apply Kd.q0n | apply Kd.q0o));exact HO274.out) hb);have n4_ := Aside0.mk (Kd.q0v (by (with_reducible repeat (first | apply Kd.q0m | apply Kd.q0n | apply Kd.q0o));exact HO283.out) hb);have n5_ := Aside0.mk (Kd.q0v (by (with_reducible repeat (first | apply Kd.q0m | apply Kd.q0n | apply Kd.q0o));exact HO292.out) hb);have n6_ := Aside0.mk (Kd.q0v (by (with_reducible repeat (first | apply Kd.q0m | apply Kd.q0n | apply Kd.q0o));exact HO295.out) hb);have n7_ := Aside0.mk (q0q (g := gb268) (o := .cells #[.string t263,.string t264,.int .i64 t265,.int .i64 t266] 45 (0,0)) (by (with_reducible repeat (first | refine q0b ?_ _ | refine q0c ?_ | refine q0a ?_ _));exact BK268.out) hb);have n8_ := Aside0.mk (q0q (g := gb280) (o := .cells #[.string t275,.string t276,.int .i64 t277,.int .i64 t278] 45 (0,0)) (by (with_reducible repeat (first | refine q0b ?_ _ | refine q0c ?_ | refine q0a ?_ _));exact BK280.out) hb);have n9_ := Aside0.mk (q0s (by repeat (first | (with_reducible first | exact HB.out | apply q0h | apply q0d | apply q0f | refine q0g ?_ GE268.out | refine q0g ?_ GE280.out) | exact HB.out)) hb);clear HO259;clear HO262;clear HO271;clear HO274;clear HO283;clear HO292;clear HO295;clear BK268;clear BK280;clear HB;have HO259 := n0_;have HO262 := n1_;have HO271 := n2_;have HO274 := n3_;have HO283 := n4_;have HO292 := n5_;have HO295 := n6_;have BK268 := n7_;have BK280 := n8_;have HB := n9_;clear n0_ n1_ n2_ n3_ n4_ n5_ n6_ n7_ n8_ n9_;(try clear hb);(try clear hb2);(try clear hk);(try clear hi)) | ((with_reducible refine gate_dst (N := 7) rfl ?_);(try (refine gate_guard (by rfl) ?_;dsimp only));refine q03 ?hg (N := 7) ?hd (cs := #[.string (⟨#[]⟩ : ByteArray),.string (⟨#[]⟩ : ByteArray),.int .i64 0,.int .i64 0]) (t := 45) ?hr ?_;(case hd => rfl);(case hg => rfl);(case hr => first | (go_simp;done) | (go_simp;rfl));intro gb301 hg w47 hbox hb;have n0_ := Aside0.mk (Kd.q0v (Kd.R_elderB (by (with_reducible repeat (first | apply Kd.q0m | apply Kd.q0n | apply Kd.q0o));exact HO259.out) gb301 (Nat.le_of_eq hg.symm)) hb);have n1_ := Aside0.mk (Kd.q0v (Kd.R_elderB (by (with_reducible repeat (first | apply Kd.q0m | apply Kd.q0n | apply Kd.q0o));exact HO262.out) gb301 (Nat.le_of_eq hg.symm)) hb);have n2_ := Aside0.mk (Kd.q0v (Kd.R_elderB (by (with_reducible repeat (first | apply Kd.q0m | apply Kd.q0n | apply Kd.q0o));exact HO271.out) gb301 (Nat.le_of_eq hg.symm)) hb);have n3_ := Aside0.mk (Kd.q0v (Kd.R_elderB (by (with_reducible repeat (first | apply Kd.q0m | apply Kd.q0n | apply Kd.q0o));exact HO274.out) gb301 (Nat.le_of_eq hg.symm)) hb);have n4_ := Aside0.mk (Kd.q0v (Kd.R_elderB (by (with_reducible repeat (first | apply Kd.q0m | apply Kd.q0n | apply Kd.q0o));exact HO283.out) gb301 (Nat.le_of_eq hg.symm)) hb);have n5_ := Aside0.mk (Kd.q0v (Kd.R_elderB (by (with_reducible repeat (first | apply Kd.q0m | apply Kd.q0n | apply Kd.q0o));exact HO292.out) gb301 (Nat.le_of_eq hg.symm)) hb);have n6_ := Aside0.mk (Kd.q0v (Kd.R_elderB (by (with_reducible repeat (first | apply Kd.q0m | apply Kd.q0n | apply Kd.q0o));exact HO295.out) gb301 (Nat.le_of_eq hg.symm)) hb);have n7_ := Aside0.mk (q0q (g := gb268) (o := .cells #[.string t263,.string t264,.int .i64 t265,.int .i64 t266] 45 (0,0)) (by (with_reducible repeat (first | refine q0b ?_ _ | refine q0c ?_ | refine q0a ?_ _));exact BK268.out) hb);have n8_ := Aside0.mk (q0q (g := gb280) (o := .cells #[.string t275,.string t276,.int .i64 t277,.int .i64 t278] 45 (0,0)) (by (with_reducible repeat (first | refine q0b ?_ _ | refine q0c ?_ | refine q0a ?_ _));exact BK280.out) hb);have n9_ := Aside0.mk (q0s (by repeat (first | (with_reducible first | exact HB.out | apply q0h | apply q0d | apply q0f | refine q0g ?_ GE268.out | refine q0g ?_ GE280.out) | exact HB.out)) hb);have n10_ := Aside0.mk (hbox);have n11_ := Aside0.mk ((by rw [hg];exact (q0p (by repeat (first | (with_reducible first | exact HB.out | apply q0h | apply q0d | apply q0f | refine q0g ?_ GE268.out | refine q0g ?_ GE280.out) | exact HB.out))) : w.heap.size ≤ gb301));have n12_ := Aside0.mk ((by rw [hg];exact (q0p (by repeat (first | (with_reducible first | exact HB.out | apply q0h | apply q0d | apply q0f | refine q0g ?_ GE268.out | refine q0g ?_ GE280.out) | exact HB.out))) : w.heap.size ≤ gb301));have n13_ := Aside0.mk ((by rw [hg];exact Nat.ne_of_lt (q0y (g := gb268) (o := .cells #[.string t263,.string t264,.int .i64 t265,.int .i64 t266] 45 (0,0)) (by (with_reducible repeat (first | refine q0b ?_ _ | refine q0c ?_ | refine q0a ?_ _));exact BK268.out)) : gb268 ≠ gb301));have n14_ := Aside0.mk ((by rw [hg];exact Nat.ne_of_gt (q0y (g := gb268) (o := .cells #[.string t263,.string t264,.int .i64 t265,.int .i64 t266] 45 (0,0)) (by (with_reducible repeat (first | refine q0b ?_ _ | refine q0c ?_ | refine q0a ?_ _));exact BK268.out)) : gb301 ≠ gb268));have n15_ := Aside0.mk ((by rw [hg];exact Nat.ne_of_lt (q0y (g := gb280) (o := .cells #[.string t275,.string t276,.int .i64 t277,.int .i64 t278] 45 (0,0)) (by (with_reducible repeat (first | refine q0b ?_ _ | refine q0c ?_ | refine q0a ?_ _));exact BK280.out)) : gb280 ≠ gb301));have n16_ := Aside0.mk ((by rw [hg];exact Nat.ne_of_gt (q0y (g := gb280) (o := .cells #[.string t275,.string t276,.int .i64 t277,.int .i64 t278] 45 (0,0)) (by (with_reducible repeat (first | refine q0b ?_ _ | refine q0c ?_ | refine q0a ?_ _));exact BK280.out)) : gb301 ≠ gb280));clear HO259;clear HO262;clear HO271;clear HO274;clear HO283;clear HO292;clear HO295;clear BK268;clear BK280;clear HB;have HO259 := n0_;have HO262 := n1_;have HO271 := n2_;have HO274 := n3_;have HO283 := n4_;have HO292 := n5_;have HO295 := n6_;have BK268 := n7_;have BK280 := n8_;have HB := n9_;have BK301 := n10_;have GW301 := n11_;have GE301 := n12_;have NB268_301 := n13_;have NB301_268 := n14_;have NB280_301 := n15_;have NB301_280 := n16_;clear n0_ n1_ n2_ n3_ n4_ n5_ n6_ n7_ n8_ n9_ n10_ n11_ n12_ n13_ n14_ n15_ n16_;clear hb hbox hg;have hnb48 := NB301_268.out;have hnc48 := NB268_301.out;have hnb49 := NB301_280.out;have hnc49 := NB280_301.out;have hcz50_0 : w47.cell? ⟨gb301,0,none⟩ = some (.string (⟨#[]⟩ : ByteArray)) := (q0i BK301.out 0).trans rfl;have hcz50_1 : w47.cell? ⟨gb301,1,none⟩ = some (.string (⟨#[]⟩ : ByteArray)) := (q0i BK301.out 1).trans rfl;have hcz50_2 : w47.cell? ⟨gb301,2,none⟩ = some (.int .i64 0) := (q0i BK301.out 2).trans rfl;have hcz50_3 : w47.cell? ⟨gb301,3,none⟩ = some (.int .i64 0) := (q0i BK301.out 3).trans rfl;have hfz50_0 := q0k BK301.out 0;have hfz50_1 := q0k BK301.out 1;have hfz50_2 := q0k BK301.out 2;have hfz50_3 := q0k BK301.out 3;have hcz51_0 : w47.cell? ⟨gb280,0,none⟩ = some (.string t275) := (q0i BK280.out 0).trans rfl;have hcz51_1 : w47.cell? ⟨gb280,1,none⟩ = some (.string t276) := (q0i BK280.out 1).trans rfl;have hcz51_2 : w47.cell? ⟨gb280,2,none⟩ = some (.int .i64 t277) := (q0i BK280.out 2).trans rfl;have hcz51_3 : w47.cell? ⟨gb280,3,none⟩ = some (.int .i64 t278) := (q0i BK280.out 3).trans rfl;have hfz51_0 := q0k BK280.out 0;have hfz51_1 := q0k BK280.out 1;have hfz51_2 := q0k BK280.out 2;have hfz51_3 := q0k BK280.out 3) | (go_at_call 76;(with_reducible refine (verdererlaw28_u.calls 6 t302 _ A21.out).mono ?_);rintro e w52 ⟨v303,rfl,ho0,hb⟩;have n0_ := Aside0.mk (Kd.R_elder' (by (with_reducible repeat (first | apply Kd.q0m | apply Kd.q0n | apply Kd.q0o));exact (Kd.R_mono (Kd.R_far (p := ⟨gb301,3,none⟩) (Kd.R_far (p := ⟨gb301,2,none⟩) (Kd.R_far (p := ⟨gb301,1,none⟩) (Kd.R_far (p := ⟨gb301,0,none⟩) (Kd.R_mono HO259.out (fun k_ hk => (⟨hk,hk.2⟩ : _ ∧ k_ ≠ gb301))) (fun _ hk => hk.2) (.string t296)) (fun _ hk => hk.2) (.string t297)) (fun _ hk => hk.2) (.int .i64 t298)) (fun _ hk => hk.2) (.int .i64 t299)) (fun _ h_ => h_.1))) (Kd.R_base ho0) hb);have n1_ := Aside0.mk (Kd.R_elder' (by (with_reducible repeat (first | apply Kd.q0m | apply Kd.q0n | apply Kd.q0o));exact (Kd.R_mono (Kd.R_far (p := ⟨gb301,3,none⟩) (Kd.R_far (p := ⟨gb301,2,none⟩) (Kd.R_far (p := ⟨gb301,1,none⟩) (Kd.R_far (p := ⟨gb301,0,none⟩) (Kd.R_mono HO262.out (fun k_ hk => (⟨hk,hk.2⟩ : _ ∧ k_ ≠ gb301))) (fun _ hk => hk.2) (.string t296)) (fun _ hk => hk.2) (.string t297)) (fun _ hk => hk.2) (.int .i64 t298)) (fun _ hk => hk.2) (.int .i64 t299)) (fun _ h_ => h_.1))) (Kd.R_base ho0) hb);have n2_ := Aside0.mk (Kd.R_elder' (by (with_reducible repeat (first | apply Kd.q0m | apply Kd.q0n | apply Kd.q0o));exact (Kd.R_mono (Kd.R_far (p := ⟨gb301,3,none⟩) (Kd.R_far (p := ⟨gb301,2,none⟩) (Kd.R_far (p := ⟨gb301,1,none⟩) (Kd.R_far (p := ⟨gb301,0,none⟩) (Kd.R_mono HO271.out (fun k_ hk => (⟨hk,hk.2⟩ : _ ∧ k_ ≠ gb301))) (fun _ hk => hk.2) (.string t296)) (fun _ hk => hk.2) (.string t297)) (fun _ hk => hk.2) (.int .i64 t298)) (fun _ hk => hk.2) (.int .i64 t299)) (fun _ h_ => h_.1))) (Kd.R_base ho0) hb);have n3_ := Aside0.mk (Kd.R_elder' (by (with_reducible repeat (first | apply Kd.q0m | apply Kd.q0n | apply Kd.q0o));exact (Kd.R_mono (Kd.R_far (p := ⟨gb301,3,none⟩) (Kd.R_far (p := ⟨gb301,2,none⟩) (Kd.R_far (p := ⟨gb301,1,none⟩) (Kd.R_far (p := ⟨gb301,0,none⟩) (Kd.R_mono HO274.out (fun k_ hk => (⟨hk,hk.2⟩ : _ ∧ k_ ≠ gb301))) (fun _ hk => hk.2) (.string t296)) (fun _ hk => hk.2) (.string t297)) (fun _ hk => hk.2) (.int .i64 t298)) (fun _ hk => hk.2) (.int .i64 t299)) (fun _ h_ => h_.1))) (Kd.R_base ho0) hb);have n4_ := Aside0.mk (Kd.R_elder' (by (with_reducible repeat (first | apply Kd.q0m | apply Kd.q0n | apply Kd.q0o));exact (Kd.R_mono (Kd.R_far (p := ⟨gb301,3,none⟩) (Kd.R_far (p := ⟨gb301,2,none⟩) (Kd.R_far (p := ⟨gb301,1,none⟩) (Kd.R_far (p := ⟨gb301,0,none⟩) (Kd.R_mono HO283.out (fun k_ hk => (⟨hk,hk.2⟩ : _ ∧ k_ ≠ gb301))) (fun _ hk => hk.2) (.string t296)) (fun _ hk => hk.2) (.string t297)) (fun _ hk => hk.2) (.int .i64 t298)) (fun _ hk => hk.2) (.int .i64 t299)) (fun _ h_ => h_.1))) (Kd.R_base ho0) hb);have n5_ := Aside0.mk (Kd.R_elder' (by (with_reducible repeat (first | apply Kd.q0m | apply Kd.q0n | apply Kd.q0o));exact (Kd.R_mono (Kd.R_far (p := ⟨gb301,3,none⟩) (Kd.R_far (p := ⟨gb301,2,none⟩) (Kd.R_far (p := ⟨gb301,1,none⟩) (Kd.R_far (p := ⟨gb301,0,none⟩) (Kd.R_mono HO292.out (fun k_ hk => (⟨hk,hk.2⟩ : _ ∧ k_ ≠ gb301))) (fun _ hk => hk.2) (.string t296)) (fun _ hk => hk.2) (.string t297)) (fun _ hk => hk.2) (.int .i64 t298)) (fun _ hk => hk.2) (.int .i64 t299)) (fun _ h_ => h_.1))) (Kd.R_base ho0) hb);have n6_ := Aside0.mk (Kd.R_elder' (by (with_reducible repeat (first | apply Kd.q0m | apply Kd.q0n | apply Kd.q0o));exact (Kd.R_mono (Kd.R_far (p := ⟨gb301,3,none⟩) (Kd.R_far (p := ⟨gb301,2,none⟩) (Kd.R_far (p := ⟨gb301,1,none⟩) (Kd.R_far (p := ⟨gb301,0,none⟩) (Kd.R_mono HO295.out (fun k_ hk => (⟨hk,hk.2⟩ : _ ∧ k_ ≠ gb301))) (fun _ hk => hk.2) (.string t296)) (fun _ hk => hk.2) (.string t297)) (fun _ hk => hk.2) (.int .i64 t298)) (fun _ hk => hk.2) (.int .i64 t299)) (fun _ h_ => h_.1))) (Kd.R_base ho0) hb);have n7_ := Aside0.mk (Kd.R_lower (Kd.R_newB (Kd.R_newB (Kd.R_newB (Kd.R_new' (Kd.R_new' (Kd.R_new' (Kd.R_new' (Kd.R_new' (Kd.R_new' (Kd.R_new' ho0 (Kd.R_lt (by (with_reducible repeat (first | apply Kd.q0m | apply Kd.q0n | apply Kd.q0o));exact (Kd.R_mono (Kd.R_far (p := ⟨gb301,3,none⟩) (Kd.R_far (p := ⟨gb301,2,none⟩) (Kd.R_far (p := ⟨gb301,1,none⟩) (Kd.R_far (p := ⟨gb301,0,none⟩) (Kd.R_mono HO259.out (fun k_ hk => (⟨hk,hk.2⟩ : _ ∧ k_ ≠ gb301))) (fun _ hk => hk.2) (.string t296)) (fun _ hk => hk.2) (.string t297)) (fun _ hk => hk.2) (.int .i64 t298)) (fun _ hk => hk.2) (.int .i64 t299)) (fun _ h_ => h_.1))))) (Kd.R_lt (by (with_reducible repeat (first | apply Kd.q0m | apply Kd.q0n | apply Kd.q0o));exact (Kd.R_mono (Kd.R_far (p := ⟨gb301,3,none⟩) (Kd.R_far (p := ⟨gb301,2,none⟩) (Kd.R_far (p := ⟨gb301,1,none⟩) (Kd.R_far (p := ⟨gb301,0,none⟩) (Kd.R_mono HO262.out (fun k_ hk => (⟨hk,hk.2⟩ : _ ∧ k_ ≠ gb301))) (fun _ hk => hk.2) (.string t296)) (fun _ hk => hk.2) (.string t297)) (fun _ hk => hk.2) (.int .i64 t298)) (fun _ hk => hk.2) (.int .i64 t299)) (fun _ h_ => h_.1))))) (Kd.R_lt (by (with_reducible repeat (first | apply Kd.q0m | apply Kd.q0n | apply Kd.q0o));exact (Kd.R_mono (Kd.R_far (p := ⟨gb301,3,none⟩) (Kd.R_far (p := ⟨gb301,2,none⟩) (Kd.R_far (p := ⟨gb301,1,none⟩) (Kd.R_far (p := ⟨gb301,0,none⟩) (Kd.R_mono HO271.out (fun k_ hk => (⟨hk,hk.2⟩ : _ ∧ k_ ≠ gb301))) (fun _ hk => hk.2) (.string t296)) (fun _ hk => hk.2) (.string t297)) (fun _ hk => hk.2) (.int .i64 t298)) (fun _ hk => hk.2) (.int .i64 t299)) (fun _ h_ => h_.1))))) (Kd.R_lt (by (with_reducible repeat (first | apply Kd.q0m | apply Kd.q0n | apply Kd.q0o));exact (Kd.R_mono (Kd.R_far (p := ⟨gb301,3,none⟩) (Kd.R_far (p := ⟨gb301,2,none⟩) (Kd.R_far (p := ⟨gb301,1,none⟩) (Kd.R_far (p := ⟨gb301,0,none⟩) (Kd.R_mono HO274.out (fun k_ hk => (⟨hk,hk.2⟩ : _ ∧ k_ ≠ gb301))) (fun _ hk => hk.2) (.string t296)) (fun _ hk => hk.2) (.string t297)) (fun _ hk => hk.2) (.int .i64 t298)) (fun _ hk => hk.2) (.int .i64 t299)) (fun _ h_ => h_.1))))) (Kd.R_lt (by (with_reducible repeat (first | apply Kd.q0m | apply Kd.q0n | apply Kd.q0o));exact (Kd.R_mono (Kd.R_far (p := ⟨gb301,3,none⟩) (Kd.R_far (p := ⟨gb301,2,none⟩) (Kd.R_far (p := ⟨gb301,1,none⟩) (Kd.R_far (p := ⟨gb301,0,none⟩) (Kd.R_mono HO283.out (fun k_ hk => (⟨hk,hk.2⟩ : _ ∧ k_ ≠ gb301))) (fun _ hk => hk.2) (.string t296)) (fun _ hk => hk.2) (.string t297)) (fun _ hk => hk.2) (.int .i64 t298)) (fun _ hk => hk.2) (.int .i64 t299)) (fun _ h_ => h_.1))))) (Kd.R_lt (by (with_reducible repeat (first | apply Kd.q0m | apply Kd.q0n | apply Kd.q0o));exact (Kd.R_mono (Kd.R_far (p := ⟨gb301,3,none⟩) (Kd.R_far (p := ⟨gb301,2,none⟩) (Kd.R_far (p := ⟨gb301,1,none⟩) (Kd.R_far (p := ⟨gb301,0,none⟩) (Kd.R_mono HO292.out (fun k_ hk => (⟨hk,hk.2⟩ : _ ∧ k_ ≠ gb301))) (fun _ hk => hk.2) (.string t296)) (fun _ hk => hk.2) (.string t297)) (fun _ hk => hk.2) (.int .i64 t298)) (fun _ hk => hk.2) (.int .i64 t299)) (fun _ h_ => h_.1))))) (Kd.R_lt (by (with_reducible repeat (first | apply Kd.q0m | apply Kd.q0n | apply Kd.q0o));exact (Kd.R_mono (Kd.R_far (p := ⟨gb301,3,none⟩) (Kd.R_far (p := ⟨gb301,2,none⟩) (Kd.R_far (p := ⟨gb301,1,none⟩) (Kd.R_far (p := ⟨gb301,0,none⟩) (Kd.R_mono HO295.out (fun k_ hk => (⟨hk,hk.2⟩ : _ ∧ k_ ≠ gb301))) (fun _ hk => hk.2) (.string t296)) (fun _ hk => hk.2) (.string t297)) (fun _ hk => hk.2) (.int .i64 t298)) (fun _ hk => hk.2) (.int .i64 t299)) (fun _ h_ => h_.1))))) (g := gb268) (o := .cells #[.string t263,.string t264,.int .i64 t265,.int .i64 t266] 45 (0,0)) (by (with_reducible repeat (first | refine q0b ?_ _ | refine q0c ?_ | refine q0a ?_ _));refine q0u ?_ NB268_301.out _;(with_reducible repeat (first | refine q0b ?_ _ | refine q0c ?_ | refine q0a ?_ _));refine q0u ?_ NB268_301.out _;(with_reducible repeat (first | refine q0b ?_ _ | refine q0c ?_ | refine q0a ?_ _));refine q0u ?_ NB268_301.out _;(with_reducible repeat (first | refine q0b ?_ _ | refine q0c ?_ | refine q0a ?_ _));refine q0u ?_ NB268_301.out _;(with_reducible repeat (first | refine q0b ?_ _ | refine q0c ?_ | refine q0a ?_ _));exact BK268.out)) (g := gb280) (o := .cells #[.string t275,.string t276,.int .i64 t277,.int .i64 t278] 45 (0,0)) (by (with_reducible repeat (first | refine q0b ?_ _ | refine q0c ?_ | refine q0a ?_ _));refine q0u ?_ NB280_301.out _;(with_reducible repeat (first | refine q0b ?_ _ | refine q0c ?_ | refine q0a ?_ _));refine q0u ?_ NB280_301.out _;(with_reducible repeat (first | refine q0b ?_ _ | refine q0c ?_ | refine q0a ?_ _));refine q0u ?_ NB280_301.out _;(with_reducible repeat (first | refine q0b ?_ _ | refine q0c ?_ | refine q0a ?_ _));refine q0u ?_ NB280_301.out _;(with_reducible repeat (first | refine q0b ?_ _ | refine q0c ?_ | refine q0a ?_ _));exact BK280.out)) (g := gb301) (o := .cells #[.string t296,.string t297,.int .i64 t298,.int .i64 t299] 45 (0,0)) (by (with_reducible repeat (first | refine q0b ?_ _ | refine q0c ?_ | refine q0a ?_ _));refine q0t (cs := #[.string t296,.string t297,.int .i64 t298,.int .i64 0]) ?_ 3 _ rfl;(with_reducible repeat (first | refine q0b ?_ _ | refine q0c ?_ | refine q0a ?_ _));refine q0t (cs := #[.string t296,.string t297,.int .i64 0,.int .i64 0]) ?_ 2 _ rfl;(with_reducible repeat (first | refine q0b ?_ _ | refine q0c ?_ | refine q0a ?_ _));refine q0t (cs := #[.string t296,.string (⟨#[]⟩ : ByteArray),.int .i64 0,.int .i64 0]) ?_ 1 _ rfl;(with_reducible repeat (first | refine q0b ?_ _ | refine q0c ?_ | refine q0a ?_ _));refine q0t (cs := #[.string (⟨#[]⟩ : ByteArray),.string (⟨#[]⟩ : ByteArray),.int .i64 0,.int .i64 0]) ?_ 0 _ rfl;(with_reducible repeat (first | refine q0b ?_ _ | refine q0c ?_ | refine q0a ?_ _));exact BK301.out)) (q0p (by repeat (first | (with_reducible first | exact HB.out | apply q0h | apply q0d | apply q0f | refine q0g ?_ GE268.out | refine q0g ?_ GE280.out | refine q0g ?_ GE301.out) | exact HB.out))));have n8_ := Aside0.mk (q0q (g := gb268) (o := .cells #[.string t263,.string t264,.int .i64 t265,.int .i64 t266] 45 (0,0)) (by (with_reducible repeat (first | refine q0b ?_ _ | refine q0c ?_ | refine q0a ?_ _));refine q0u ?_ NB268_301.out _;(with_reducible repeat (first | refine q0b ?_ _ | refine q0c ?_ | refine q0a ?_ _));refine q0u ?_ NB268_301.out _;(with_reducible repeat (first | refine q0b ?_ _ | refine q0c ?_ | refine q0a ?_ _));refine q0u ?_ NB268_301.out _;(with_reducible repeat (first | refine q0b ?_ _ | refine q0c ?_ | refine q0a ?_ _));refine q0u ?_ NB268_301.out _;(with_reducible repeat (first | refine q0b ?_ _ | refine q0c ?_ | refine q0a ?_ _));exact BK268.out) hb);have n9_ := Aside0.mk (q0q (g := gb280) (o := .cells #[.string t275,.string t276,.int .i64 t277,.int .i64 t278] 45 (0,0)) (by (with_reducible repeat (first | refine q0b ?_ _ | refine q0c ?_ | refine q0a ?_ _));refine q0u ?_ NB280_301.out _;(with_reducible repeat (first | refine q0b ?_ _ | refine q0c ?_ | refine q0a ?_ _));refine q0u ?_ NB280_301.out _;(with_reducible repeat (first | refine q0b ?_ _ | refine q0c ?_ | refine q0a ?_ _));refine q0u ?_ NB280_301.out _;(with_reducible repeat (first | refine q0b ?_ _ | refine q0c ?_ | refine q0a ?_ _));refine q0u ?_ NB280_301.out _;(with_reducible repeat (first | refine q0b ?_ _ | refine q0c ?_ | refine q0a ?_ _));exact BK280.out) hb);have n10_ := Aside0.mk (q0q (g := gb301) (o := .cells #[.string t296,.string t297,.int .i64 t298,.int .i64 t299] 45 (0,0)) (by (with_reducible repeat (first | refine q0b ?_ _ | refine q0c ?_ | refine q0a ?_ _));refine q0t (cs := #[.string t296,.string t297,.int .i64 t298,.int .i64 0]) ?_ 3 _ rfl;(with_reducible repeat (first | refine q0b ?_ _ | refine q0c ?_ | refine q0a ?_ _));refine q0t (cs := #[.string t296,.string t297,.int .i64 0,.int .i64 0]) ?_ 2 _ rfl;(with_reducible repeat (first | refine q0b ?_ _ | refine q0c ?_ | refine q0a ?_ _));refine q0t (cs := #[.string t296,.string (⟨#[]⟩ : ByteArray),.int .i64 0,.int .i64 0]) ?_ 1 _ rfl;(with_reducible repeat (first | refine q0b ?_ _ | refine q0c ?_ | refine q0a ?_ _));refine q0t (cs := #[.string (⟨#[]⟩ : ByteArray),.string (⟨#[]⟩ : ByteArray),.int .i64 0,.int .i64 0]) ?_ 0 _ rfl;(with_reducible repeat (first | refine q0b ?_ _ | refine q0c ?_ | refine q0a ?_ _));exact BK301.out) hb);have n11_ := Aside0.mk (q0s (by repeat (first | (with_reducible first | exact HB.out | apply q0h | apply q0d | apply q0f | refine q0g ?_ GE268.out | refine q0g ?_ GE280.out | refine q0g ?_ GE301.out) | exact HB.out)) hb);clear HO259;clear HO262;clear HO271;clear HO274;clear HO283;clear HO292;clear HO295;clear BK268;clear BK280;clear BK301;clear HB;have HO259 := n0_;have HO262 := n1_;have HO271 := n2_;have HO274 := n3_;have HO283 := n4_;have HO292 := n5_;have HO295 := n6_;have HO304 := n7_;have BK268 := n8_;have BK280 := n9_;have BK301 := n10_;have HB := n11_;clear n0_ n1_ n2_ n3_ n4_ n5_ n6_ n7_ n8_ n9_ n10_ n11_;(try clear hb);(try clear hb2);(try clear hk);(try clear hi);(try clear ho0);obtain ⟨Ao53,co53,eo53⟩ := Kd.R_slice HO304.out;subst eo53) | (go_at_call 49;(with_reducible refine (quota_Over.calls k _ _ t302 t305 _ ?side1 ?side2 A22.out).mono ?_);(case side1 => repeat (first | exact (Kd.q02 HO304.out).2.2 | (with_reducible refine Kd.C_alloc ?_ _) | (with_reducible refine Kd.C_drewN ?_ _) | (with_reducible refine Kd.C_drew ?_)));(case side2 => exact (Kd.q02 HO304.out).2.1);rintro e w54 ⟨v306,rfl,ho0,hb⟩;have n0_ := Aside0.mk (Kd.R_elder' (by (with_reducible repeat (first | apply Kd.q0m | apply Kd.q0n | apply Kd.q0o));exact HO259.out) (Kd.R_base ho0) hb);have n1_ := Aside0.mk (Kd.R_elder' (by (with_reducible repeat (first | apply Kd.q0m | apply Kd.q0n | apply Kd.q0o));exact HO262.out) (Kd.R_base ho0) hb);have n2_ := Aside0.mk (Kd.R_elder' (by (with_reducible repeat (first | apply Kd.q0m | apply Kd.q0n | apply Kd.q0o));exact HO271.out) (Kd.R_base ho0) hb);have n3_ := Aside0.mk (Kd.R_elder' (by (with_reducible repeat (first | apply Kd.q0m | apply Kd.q0n | apply Kd.q0o));exact HO274.out) (Kd.R_base ho0) hb);have n4_ := Aside0.mk (Kd.R_elder' (by (with_reducible repeat (first | apply Kd.q0m | apply Kd.q0n | apply Kd.q0o));exact HO283.out) (Kd.R_base ho0) hb);have n5_ := Aside0.mk (Kd.R_elder' (by (with_reducible repeat (first | apply Kd.q0m | apply Kd.q0n | apply Kd.q0o));exact HO292.out) (Kd.R_base ho0) hb);have n6_ := Aside0.mk (Kd.R_elder' (by (with_reducible repeat (first | apply Kd.q0m | apply Kd.q0n | apply Kd.q0o));exact HO295.out) (Kd.R_base ho0) hb);have n7_ := Aside0.mk (Kd.R_elder' (by (with_reducible repeat (first | apply Kd.q0m | apply Kd.q0n | apply Kd.q0o));exact HO304.out) (Kd.R_base ho0) hb);have n8_ := Aside0.mk (Kd.R_lower (Kd.R_newB (Kd.R_newB (Kd.R_newB (Kd.R_new' (Kd.R_new' (Kd.R_new' (Kd.R_new' (Kd.R_new' (Kd.R_new' (Kd.R_new' (Kd.R_new' ho0 (Kd.R_lt (by (with_reducible repeat (first | apply Kd.q0m | apply Kd.q0n | apply Kd.q0o));exact HO259.out))) (Kd.R_lt (by (with_reducible repeat (first | apply Kd.q0m | apply Kd.q0n | apply Kd.q0o));exact HO262.out))) (Kd.R_lt (by (with_reducible repeat (first | apply Kd.q0m | apply Kd.q0n | apply Kd.q0o));exact HO271.out))) (Kd.R_lt (by (with_reducible repeat (first | apply Kd.q0m | apply Kd.q0n | apply Kd.q0o));exact HO274.out))) (Kd.R_lt (by (with_reducible repeat (first | apply Kd.q0m | apply Kd.q0n | apply Kd.q0o));exact HO283.out))) (Kd.R_lt (by (with_reducible repeat (first | apply Kd.q0m | apply Kd.q0n | apply Kd.q0o));exact HO292.out))) (Kd.R_lt (by (with_reducible repeat (first | apply Kd.q0m | apply Kd.q0n | apply Kd.q0o));exact HO295.out))) (Kd.R_lt (by (with_reducible repeat (first | apply Kd.q0m | apply Kd.q0n | apply Kd.q0o));exact HO304.out))) (g := gb268) (o := .cells #[.string t263,.string t264,.int .i64 t265,.int .i64 t266] 45 (0,0)) (by (with_reducible repeat (first | refine q0b ?_ _ | refine q0c ?_ | refine q0a ?_ _));exact BK268.out)) (g := gb280) (o := .cells #[.string t275,.string t276,.int .i64 t277,.int .i64 t278] 45 (0,0)) (by (with_reducible repeat (first | refine q0b ?_ _ | refine q0c ?_ | refine q0a ?_ _));exact BK280.out)) (g := gb301) (o := .cells #[.string t296,.string t297,.int .i64 t298,.int .i64 t299] 45 (0,0)) (by (with_reducible repeat (first | refine q0b ?_ _ | refine q0c ?_ | refine q0a ?_ _));exact BK301.out)) (q0p (by repeat (first | (with_reducible first | exact HB.out | apply q0h | apply q0d | apply q0f | refine q0g ?_ GE268.out | refine q0g ?_ GE280.out | refine q0g ?_ GE301.out) | exact HB.out))));have n9_ := Aside0.mk (q0q (g := gb268) (o := .cells #[.string t263,.string t264,.int .i64 t265,.int .i64 t266] 45 (0,0)) (by (with_reducible repeat (first | refine q0b ?_ _ | refine q0c ?_ | refine q0a ?_ _));exact BK268.out) hb);have n10_ := Aside0.mk (q0q (g := gb280) (o := .cells #[.string t275,.string t276,.int .i64 t277,.int .i64 t278] 45 (0,0)) (by (with_reducible repeat (first | refine q0b ?_ _ | refine q0c ?_ | refine q0a ?_ _));exact BK280.out) hb);have n11_ := Aside0.mk (q0q (g := gb301) (o := .cells #[.string t296,.string t297,.int .i64 t298,.int .i64 t299] 45 (0,0)) (by (with_reducible repeat (first | refine q0b ?_ _ | refine q0c ?_ | refine q0a ?_ _));exact BK301.out) hb);have n12_ := Aside0.mk (q0s (by repeat (first | (with_reducible first | exact HB.out | apply q0h | apply q0d | apply q0f | refine q0g ?_ GE268.out | refine q0g ?_ GE280.out | refine q0g ?_ GE301.out) | exact HB.out)) hb);clear HO259;clear HO262;clear HO271;clear HO274;clear HO283;clear HO292;clear HO295;clear HO304;clear BK268;clear BK280;clear BK301;clear HB;have HO259 := n0_;have HO262 := n1_;have HO271 := n2_;have HO274 := n3_;have HO283 := n4_;have HO292 := n5_;have HO295 := n6_;have HO304 := n7_;have HO307 := n8_;have BK268 := n9_;have BK280 := n10_;have BK301 := n11_;have HB := n12_;clear n0_ n1_ n2_ n3_ n4_ n5_ n6_ n7_ n8_ n9_ n10_ n11_ n12_;(try clear hb);(try clear hb2);(try clear hk);(try clear hi);(try clear ho0);obtain ⟨Ao55,co55,eo55⟩ := Kd.R_slice HO307.out;subst eo55))
          go_ret
          exact ⟨by first | rfl | (simp [q0w,q0x] <;> rfl) | (simp [*,q0w,q0x] <;> rfl),by repeat (first | (with_reducible first | exact HB.out | apply q0h | apply q0d | apply q0f | refine q0g ?_ GE268.out | refine q0g ?_ GE280.out | refine q0g ?_ GE301.out) | exact HB.out)⟩
         ·rw [if_neg c20] at H
          exact absurd H (by simp)
        ·rw [if_neg c19] at H
         exact absurd H (by simp)
       ·rw [if_neg c18] at H
        exact absurd H (by simp)
      ·rw [if_neg c17] at H
       exact absurd H (by simp)
     ·rw [if_neg c16] at H
      exact absurd H (by simp)
    ·rw [if_neg c15] at H
     exact absurd H (by simp)
   ·rw [if_neg c14] at H
    exact absurd H (by simp)
  ·rw [if_neg c12] at H
   exact absurd H (by simp)
 ·rw [if_neg c8] at H
  exact absurd H (by simp)
end Go.Proofs.Ytcenlehfbgnphaa.Z
end
section
namespace Go.Proofs.Ytcenlehfbgnphaa.Z
open Go.RowKit Go.Proofs.YtcenlehfbgnphaaW.PrintWords Go.Proofs.YtcenlehfbgnphaaW.PrintLast Go.Proofs.YtcenlehfbgnphaaW.PrintMore
attribute [local go_sem] max2_int min2_int max_two min_two max_three min_three max_four min_four
set_option linter.unusedVariables false
set_option linter.unusedSimpArgs false
def verdererref27_Find.l0 : Nat → ByteArray → ByteArray → List (S45) → Int → Option (ByteArray × ByteArray × Int × Int × Bool)
 | 0,_,_,_,_ => none
 | k + 1,x0,x1,x2,x8 => if x8 < (x2.length : Int) then (if 0 ≤ x8 then (if ((q0e x2 x8).f0).toList = x0.toList then (if ((q0e x2 x8).f1).toList = x1.toList then (some ((q0e x2 x8).f0,(q0e x2 x8).f1,(q0e x2 x8).f2,(q0e x2 x8).f3,true)) else (verdererref27_Find.l0 k x0 x1 x2 (wrap64 (x8 + 1)))) else (verdererref27_Find.l0 k x0 x1 x2 (wrap64 (x8 + 1)))) else (none)) else (some ((⟨#[]⟩ : ByteArray),(⟨#[]⟩ : ByteArray),0,0,false))
def verdererref27_Find.f (k : Nat) (a0 : ByteArray) (a1 : ByteArray) (l2 : List (S45)) : Option (ByteArray × ByteArray × Int × Int × Bool) := verdererref27_Find.l0 k a0 a1 l2 0
theorem verdererref27_Find.mono_l : ∀ k,(∀ y0 y1 y2 y3,LeO (verdererref27_Find.l0 k y0 y1 y2 y3) (verdererref27_Find.l0 (k + 1) y0 y1 y2 y3))
 | 0 => fun _ _ _ _ r h => by simp [verdererref27_Find.l0] at h
 | k + 1 => by
  have ih0 := verdererref27_Find.mono_l k
  ·intro y0 y1 y2 y3
   unfold verdererref27_Find.l0
   repeat' first
   | (with_reducible exact ih0 _ _ _ _)
   | (with_reducible exact LeO.refl _)
   | (with_reducible exact LeO.none _)
   | (with_reducible refine LeO.ite ?_ ?_)
   | (with_reducible refine LeO.bind ?_ (fun _ => ?_))
   | exact ih0 _ _ _ _
   | exact LeO.none _
   | refine LeO.ite ?_ ?_
   | refine LeO.bind ?_ (fun _ => ?_)
theorem verdererref27_Find.mono : ∀ a0 a1 a2 k,LeO (verdererref27_Find.f k a0 a1 a2) (verdererref27_Find.f (k + 1) a0 a1 a2) := by
 intro a0 a1 a2 k
 have ih0 := verdererref27_Find.mono_l k
 unfold verdererref27_Find.f
 repeat' first
   | (with_reducible exact ih0 _ _ _ _)
   | (with_reducible exact LeO.refl _)
   | (with_reducible exact LeO.none _)
   | (with_reducible refine LeO.ite ?_ ?_)
   | (with_reducible refine LeO.bind ?_ (fun _ => ?_))
   | exact ih0 _ _ _ _
   | exact LeO.none _
   | refine LeO.ite ?_ ?_
   | refine LeO.bind ?_ (fun _ => ?_)
set_option maxHeartbeats 8000000 in
set_option maxRecDepth 100000 in
theorem verdererref27_Find.calls (k : Nat) (a0 : ByteArray) (a1 : ByteArray) (A2 : Option Addr) (c2 : Nat) (l2 : List (S45)) (r1 : ByteArray) (r2 : ByteArray) (r3 : Int) (r4 : Int) (r5 : Bool) (w : World) (hr2 : Kd.C k45 w A2 l2.length l2) (hc2 : l2.length ≤ c2) (h : verdererref27_Find.f k a0 a1 l2 = some (r1,r2,r3,r4,r5)) :
  Calls Try.prog 53 #[.string a0,.string a1,.slice A2 l2.length c2] w fun e w' => e = .returned (.tuple #[.agg #[.string r1,.string r2,.int .i64 r3,.int .i64 r4],.bool r5]) ∧ Below w.heap.size w w' := by
 have hu45 := Try.underlying45
 have HR2 := Aside0.mk hr2
 have HC2 := Aside0.mk hc2
 clear hr2 hc2
 have HB := Aside0.mk (Below.refl w.heap.size w)
 have H : (verdererref27_Find.l0 k a0 a1 l2 0) = some (r1,r2,r3,r4,r5) := h
 clear h
 have H' := Aside0.mk H
 clear H
 go_enter Try.func53,Try.ntmps53
 go_wp2_with (first | ((with_reducible refine gate_dst (N := 6) rfl ?_);refine q03 ?hg (N := 6) ?hd (cs := #[.string (⟨#[]⟩ : ByteArray),.string (⟨#[]⟩ : ByteArray),.int .i64 0,.int .i64 0]) (t := 45) ?hr ?_;(case hd => rfl);(case hg => rfl);(case hr => first | (go_simp;done) | (go_simp;rfl));intro gb314 hg w4 hbox hb;have n0_ := Aside0.mk (q0s (by repeat (first | (with_reducible first | exact HB.out | apply q0h | apply q0d | apply q0f) | exact HB.out)) hb);have n1_ := Aside0.mk (hbox);have n2_ := Aside0.mk ((by rw [hg];exact (q0p (by repeat (first | (with_reducible first | exact HB.out | apply q0h | apply q0d | apply q0f) | exact HB.out))) : w.heap.size ≤ gb314));have n3_ := Aside0.mk ((by rw [hg];exact (q0p (by repeat (first | (with_reducible first | exact HB.out | apply q0h | apply q0d | apply q0f) | exact HB.out))) : w.heap.size ≤ gb314));clear HB;have HB := n0_;have BK314 := n1_;have GW314 := n2_;have GE314 := n3_;clear n0_ n1_ n2_ n3_;clear hb hbox hg))
 go_loopg [8] k (fun kq v8 w' => ∃ (x8_1 : Int) (x315000_1 : ByteArray) (x315001_1 : ByteArray) (x315002_1 : Int) (x315003_1 : Int),v8 = .int .i64 x8_1 ∧ Aside0 (verdererref27_Find.l0 kq a0 a1 l2 x8_1 = some (r1,r2,r3,r4,r5)) ∧ Aside0 (kq ≤ k) ∧ Aside0 (w'.heap[gb314]? = some (.cells #[.string x315000_1,.string x315001_1,.int .i64 x315002_1,.int .i64 x315003_1] 45 (0,0))) ∧ Aside0 (Below w.heap.size w w'))
 case atStart => exact ⟨(0),((⟨#[]⟩ : ByteArray)),((⟨#[]⟩ : ByteArray)),(0),(0),(by first | rfl | (simp;done) | (simp [*];done)),H',⟨Nat.le_refl _⟩,⟨by (with_reducible repeat (first | refine q0b ?_ _ | refine q0c ?_ | refine q0a ?_ _));exact BK314.out⟩,⟨by repeat (first | (with_reducible first | exact HB.out | apply q0h | apply q0d | apply q0f | refine q0g ?_ GE314.out) | exact HB.out)⟩⟩
 case round =>
  clear H'
  try clear c2
  try clear p2
  obtain ⟨x8_1,x315000_1,x315001_1,x315002_1,x315003_1,rfl,HA,HK1,BK314,HB⟩ := hrel
  cases gk with
  | zero => exact absurd HA.out (by simp [verdererref27_Find.l0])
  | succ k1 =>
   have H := HA.out
   clear HA
   simp only [verdererref27_Find.l0] at H
   by_cases c5 : x8_1 < (l2.length : Int)
   ·rw [if_pos c5] at H
    have c5b0 : decide (x8_1 < (l2.length : Int)) = true := decide_eq_true c5
    clear c5
    by_cases c6 : 0 ≤ x8_1
    ·rw [if_pos c6] at H
     have c6b0 : decide (0 ≤ x8_1) = true := decide_eq_true c6
     clear c6
     by_cases c7 : ((q0e l2 x8_1).f0).toList = a0.toList
     ·rw [if_pos c7] at H
      have c7b0 : (((q0e l2 x8_1).f0).toList == a0.toList) = true := beq_iff_eq.mpr c7
      have c7b1 : (((q0e l2 x8_1).f0).toList != a0.toList) = false := bne_eq_false_iff_eq.mpr c7
      clear c7
      by_cases c8 : ((q0e l2 x8_1).f1).toList = a1.toList
      ·rw [if_pos c8] at H
       have c8b0 : (((q0e l2 x8_1).f1).toList == a1.toList) = true := beq_iff_eq.mpr c8
       have c8b1 : (((q0e l2 x8_1).f1).toList != a1.toList) = false := bne_eq_false_iff_eq.mpr c8
       clear c8
       simp only [Option.some.injEq,Prod.mk.injEq] at H
       obtain ⟨rfl,rfl,rfl,rfl,rfl⟩ := H
       have p315 : 0 ≤ (x8_1 : Int) := of_decide_eq_true (by first | (with_reducible assumption) | assumption)
       have q315 : x8_1 < (l2.length : Int) := of_decide_eq_true (by first | (with_reducible assumption) | assumption)
       obtain ⟨ad315,e315,hx315_0,hx315_1,hx315_2,hx315_3⟩ := at_T45 HR2.out x8_1 p315 q315
       cases e315
       replace hx315_0 := (HB.out.cell (World.block_lt_of_cell? w _ hx315_0)).trans hx315_0
       replace hx315_1 := (HB.out.cell (World.block_lt_of_cell? w _ hx315_1)).trans hx315_1
       replace hx315_2 := (HB.out.cell (World.block_lt_of_cell? w _ hx315_2)).trans hx315_2
       replace hx315_3 := (HB.out.cell (World.block_lt_of_cell? w _ hx315_3)).trans hx315_3
       replace p315 := eq_true p315
       replace q315 := eq_true q315
       have p316 : 0 ≤ (x8_1 : Int) := of_decide_eq_true (by first | (with_reducible assumption) | assumption)
       have q316 : x8_1 < (l2.length : Int) := of_decide_eq_true (by first | (with_reducible assumption) | assumption)
       obtain ⟨ad316,e316,hx316_0,hx316_1,hx316_2,hx316_3⟩ := at_T45 HR2.out x8_1 p316 q316
       obtain rfl : ad315 = ad316 := (by injection e316)
       replace hx316_0 := (HB.out.cell (World.block_lt_of_cell? w _ hx316_0)).trans hx316_0
       replace hx316_1 := (HB.out.cell (World.block_lt_of_cell? w _ hx316_1)).trans hx316_1
       replace hx316_2 := (HB.out.cell (World.block_lt_of_cell? w _ hx316_2)).trans hx316_2
       replace hx316_3 := (HB.out.cell (World.block_lt_of_cell? w _ hx316_3)).trans hx316_3
       replace p316 := eq_true p316
       replace q316 := eq_true q316
       have p317 : 0 ≤ (x8_1 : Int) := of_decide_eq_true (by first | (with_reducible assumption) | assumption)
       have q317 : x8_1 < (l2.length : Int) := of_decide_eq_true (by first | (with_reducible assumption) | assumption)
       obtain ⟨ad317,e317,hx317_0,hx317_1,hx317_2,hx317_3⟩ := at_T45 HR2.out x8_1 p317 q317
       obtain rfl : ad315 = ad317 := (by injection e317)
       replace hx317_0 := (HB.out.cell (World.block_lt_of_cell? w _ hx317_0)).trans hx317_0
       replace hx317_1 := (HB.out.cell (World.block_lt_of_cell? w _ hx317_1)).trans hx317_1
       replace hx317_2 := (HB.out.cell (World.block_lt_of_cell? w _ hx317_2)).trans hx317_2
       replace hx317_3 := (HB.out.cell (World.block_lt_of_cell? w _ hx317_3)).trans hx317_3
       replace p317 := eq_true p317
       replace q317 := eq_true q317
       have hcz9_0 : wr.cell? ⟨gb314,0,none⟩ = some (.string x315000_1) := (q0i BK314.out 0).trans rfl
       have hcz9_1 : wr.cell? ⟨gb314,1,none⟩ = some (.string x315001_1) := (q0i BK314.out 1).trans rfl
       have hcz9_2 : wr.cell? ⟨gb314,2,none⟩ = some (.int .i64 x315002_1) := (q0i BK314.out 2).trans rfl
       have hcz9_3 : wr.cell? ⟨gb314,3,none⟩ = some (.int .i64 x315003_1) := (q0i BK314.out 3).trans rfl
       have hfz9_0 := q0k BK314.out 0
       have hfz9_1 := q0k BK314.out 1
       have hfz9_2 := q0k BK314.out 2
       have hfz9_3 := q0k BK314.out 3
       go_wp2
       refine bodyPost_ret (results_ct rfl _ _ gb314 45 #[.string ((q0e l2 x8_1).f0),.string ((q0e l2 x8_1).f1),.int .i64 ((q0e l2 x8_1).f2),.int .i64 ((q0e l2 x8_1).f3)] (0,0) _ rfl (by (with_reducible repeat (first | refine q0b ?_ _ | refine q0c ?_ | refine q0a ?_ _));refine q0t (cs := #[.string ((q0e l2 x8_1).f0),.string ((q0e l2 x8_1).f1),.int .i64 ((q0e l2 x8_1).f2),.int .i64 x315003_1]) ?_ 3 _ rfl;(with_reducible repeat (first | refine q0b ?_ _ | refine q0c ?_ | refine q0a ?_ _));refine q0t (cs := #[.string ((q0e l2 x8_1).f0),.string ((q0e l2 x8_1).f1),.int .i64 x315002_1,.int .i64 x315003_1]) ?_ 2 _ rfl;(with_reducible repeat (first | refine q0b ?_ _ | refine q0c ?_ | refine q0a ?_ _));refine q0t (cs := #[.string ((q0e l2 x8_1).f0),.string x315001_1,.int .i64 x315002_1,.int .i64 x315003_1]) ?_ 1 _ rfl;(with_reducible repeat (first | refine q0b ?_ _ | refine q0c ?_ | refine q0a ?_ _));refine q0t (cs := #[.string x315000_1,.string x315001_1,.int .i64 x315002_1,.int .i64 x315003_1]) ?_ 0 _ rfl;(with_reducible repeat (first | refine q0b ?_ _ | refine q0c ?_ | refine q0a ?_ _));exact BK314.out) Try.underlying45 rfl (by kernel_rfl)) rfl ?_
       exact ⟨by first | rfl | (simp [q0w,q0x] <;> rfl) | (simp [*,q0w,q0x] <;> rfl),by repeat (first | (with_reducible first | exact HB.out | apply q0h | apply q0d | apply q0f | refine q0g ?_ GE314.out) | exact HB.out)⟩
      ·rw [if_neg c8] at H
       have c8b0 : (((q0e l2 x8_1).f1).toList == a1.toList) = false := beq_eq_false_iff_ne.mpr c8
       have c8b1 : (((q0e l2 x8_1).f1).toList != a1.toList) = true := bne_iff_ne.mpr c8
       have H' := Aside0.mk H
       clear H
       have p315 : 0 ≤ (x8_1 : Int) := of_decide_eq_true (by first | (with_reducible assumption) | assumption)
       have q315 : x8_1 < (l2.length : Int) := of_decide_eq_true (by first | (with_reducible assumption) | assumption)
       obtain ⟨ad315,e315,hx315_0,hx315_1,hx315_2,hx315_3⟩ := at_T45 HR2.out x8_1 p315 q315
       cases e315
       replace hx315_0 := (HB.out.cell (World.block_lt_of_cell? w _ hx315_0)).trans hx315_0
       replace hx315_1 := (HB.out.cell (World.block_lt_of_cell? w _ hx315_1)).trans hx315_1
       replace hx315_2 := (HB.out.cell (World.block_lt_of_cell? w _ hx315_2)).trans hx315_2
       replace hx315_3 := (HB.out.cell (World.block_lt_of_cell? w _ hx315_3)).trans hx315_3
       replace p315 := eq_true p315
       replace q315 := eq_true q315
       have p316 : 0 ≤ (x8_1 : Int) := of_decide_eq_true (by first | (with_reducible assumption) | assumption)
       have q316 : x8_1 < (l2.length : Int) := of_decide_eq_true (by first | (with_reducible assumption) | assumption)
       obtain ⟨ad316,e316,hx316_0,hx316_1,hx316_2,hx316_3⟩ := at_T45 HR2.out x8_1 p316 q316
       obtain rfl : ad315 = ad316 := (by injection e316)
       replace hx316_0 := (HB.out.cell (World.block_lt_of_cell? w _ hx316_0)).trans hx316_0
       replace hx316_1 := (HB.out.cell (World.block_lt_of_cell? w _ hx316_1)).trans hx316_1
       replace hx316_2 := (HB.out.cell (World.block_lt_of_cell? w _ hx316_2)).trans hx316_2
       replace hx316_3 := (HB.out.cell (World.block_lt_of_cell? w _ hx316_3)).trans hx316_3
       replace p316 := eq_true p316
       replace q316 := eq_true q316
       go_wp2
       go_roundg k1
       case measure => have := HK1.out;omega
       case rel => exact ⟨(wrap64 (x8_1 + 1)),(x315000_1),(x315001_1),(x315002_1),(x315003_1),(by first | rfl | (simp;done) | (simp [*];done)),H',⟨by have := HK1.out;omega⟩,⟨by (with_reducible repeat (first | refine q0b ?_ _ | refine q0c ?_ | refine q0a ?_ _));exact BK314.out⟩,⟨by repeat (first | (with_reducible first | exact HB.out | apply q0h | apply q0d | apply q0f | refine q0g ?_ GE314.out) | exact HB.out)⟩⟩
     ·rw [if_neg c7] at H
      have c7b0 : (((q0e l2 x8_1).f0).toList == a0.toList) = false := beq_eq_false_iff_ne.mpr c7
      have c7b1 : (((q0e l2 x8_1).f0).toList != a0.toList) = true := bne_iff_ne.mpr c7
      have H' := Aside0.mk H
      clear H
      have p315 : 0 ≤ (x8_1 : Int) := of_decide_eq_true (by first | (with_reducible assumption) | assumption)
      have q315 : x8_1 < (l2.length : Int) := of_decide_eq_true (by first | (with_reducible assumption) | assumption)
      obtain ⟨ad315,e315,hx315_0,hx315_1,hx315_2,hx315_3⟩ := at_T45 HR2.out x8_1 p315 q315
      cases e315
      replace hx315_0 := (HB.out.cell (World.block_lt_of_cell? w _ hx315_0)).trans hx315_0
      replace hx315_1 := (HB.out.cell (World.block_lt_of_cell? w _ hx315_1)).trans hx315_1
      replace hx315_2 := (HB.out.cell (World.block_lt_of_cell? w _ hx315_2)).trans hx315_2
      replace hx315_3 := (HB.out.cell (World.block_lt_of_cell? w _ hx315_3)).trans hx315_3
      replace p315 := eq_true p315
      replace q315 := eq_true q315
      go_wp2
      go_roundg k1
      case measure => have := HK1.out;omega
      case rel => exact ⟨(wrap64 (x8_1 + 1)),(x315000_1),(x315001_1),(x315002_1),(x315003_1),(by first | rfl | (simp;done) | (simp [*];done)),H',⟨by have := HK1.out;omega⟩,⟨by (with_reducible repeat (first | refine q0b ?_ _ | refine q0c ?_ | refine q0a ?_ _));exact BK314.out⟩,⟨by repeat (first | (with_reducible first | exact HB.out | apply q0h | apply q0d | apply q0f | refine q0g ?_ GE314.out) | exact HB.out)⟩⟩
    ·rw [if_neg c6] at H
     exact absurd H (by simp)
   ·rw [if_neg c5] at H
    have c5b0 : decide (x8_1 < (l2.length : Int)) = false := decide_eq_false c5
    clear c5
    simp only [Option.some.injEq,Prod.mk.injEq] at H
    obtain ⟨rfl,rfl,rfl,rfl,rfl⟩ := H
    have hcz10_0 : wr.cell? ⟨gb314,0,none⟩ = some (.string x315000_1) := (q0i BK314.out 0).trans rfl
    have hcz10_1 : wr.cell? ⟨gb314,1,none⟩ = some (.string x315001_1) := (q0i BK314.out 1).trans rfl
    have hcz10_2 : wr.cell? ⟨gb314,2,none⟩ = some (.int .i64 x315002_1) := (q0i BK314.out 2).trans rfl
    have hcz10_3 : wr.cell? ⟨gb314,3,none⟩ = some (.int .i64 x315003_1) := (q0i BK314.out 3).trans rfl
    have hfz10_0 := q0k BK314.out 0
    have hfz10_1 := q0k BK314.out 1
    have hfz10_2 := q0k BK314.out 2
    have hfz10_3 := q0k BK314.out 3
    go_wp2
    refine bodyPost_ret (results_ct rfl _ _ gb314 45 #[.string (⟨#[]⟩ : ByteArray),.string (⟨#[]⟩ : ByteArray),.int .i64 0,.int .i64 0] (0,0) _ rfl (by (with_reducible repeat (first | refine q0b ?_ _ | refine q0c ?_ | refine q0a ?_ _));refine q0t (cs := #[.string (⟨#[]⟩ : ByteArray),.string (⟨#[]⟩ : ByteArray),.int .i64 0,.int .i64 x315003_1]) ?_ 3 _ rfl;(with_reducible repeat (first | refine q0b ?_ _ | refine q0c ?_ | refine q0a ?_ _));refine q0t (cs := #[.string (⟨#[]⟩ : ByteArray),.string (⟨#[]⟩ : ByteArray),.int .i64 x315002_1,.int .i64 x315003_1]) ?_ 2 _ rfl;(with_reducible repeat (first | refine q0b ?_ _ | refine q0c ?_ | refine q0a ?_ _));refine q0t (cs := #[.string (⟨#[]⟩ : ByteArray),.string x315001_1,.int .i64 x315002_1,.int .i64 x315003_1]) ?_ 1 _ rfl;(with_reducible repeat (first | refine q0b ?_ _ | refine q0c ?_ | refine q0a ?_ _));refine q0t (cs := #[.string x315000_1,.string x315001_1,.int .i64 x315002_1,.int .i64 x315003_1]) ?_ 0 _ rfl;(with_reducible repeat (first | refine q0b ?_ _ | refine q0c ?_ | refine q0a ?_ _));exact BK314.out) Try.underlying45 rfl (by kernel_rfl)) rfl ?_
    exact ⟨by first | rfl | (simp [q0w,q0x] <;> rfl) | (simp [*,q0w,q0x] <;> rfl),by repeat (first | (with_reducible first | exact HB.out | apply q0h | apply q0d | apply q0f | refine q0g ?_ GE314.out) | exact HB.out)⟩
end Go.Proofs.Ytcenlehfbgnphaa.Z
end
