/- Parts of the proof of PackOrder: what its functions answer. -/
import Derived.Test.YtfoaeigoajooeaaProg
import Derived.Below
import Derived.Deep.Draws
import Derived.Deep.AppendLies
import Derived.Maps.AppendAt
import Derived.OwnWalk
import Derived.Laws.BytesArg
import Derived.Laws.MakeOwn
import Derived.Laws.OwnMore
import Derived.Deep.OwnRows
import Derived.Tactics
import Derived.Lib.ConvBytes
import Derived.Laws.Slices
import Derived.WalkKit
import Derived.KernelRfl
import Derived.RowKit3
import Derived.Deep.LoopGhost
import Derived.Deep.QuietTactic
import Derived.BigQuiet
import Derived.WideLaws
import Derived.Deep.DeepCutAuto
import Derived.Deep.CutBlock
import Derived.Deep.RegionHeld3
import Derived.Laws.Rows
import Derived.Lib.AppendStr
import Derived.ArgAppend
import Derived.Laws.IdiomCopy
import Derived.OrdersHeld
import Derived.Laws.BitsLemmas
import Derived.RowKit
import Derived.Test.YtfoaeigoajooeaaWWords
import Derived.Test.YtfoaeigoajooeaaWLast
import Derived.Test.YtfoaeigoajooeaaWTab
import Derived.Test.YtfoaeigoajooeaaWFour
import Derived.Test.YtfoaeigoajooeaaWQPut
import Derived.Test.YtfoaeigoajooeaaWApart
import Derived.Test.YtfoaeigoajooeaaWArr
import Derived.Test.YtfoaeigoajooeaaWZeros
import Derived.Test.YtfoaeigoajooeaaWFoot
import Derived.Test.YtfoaeigoajooeaaWKept
import Derived.Test.YtfoaeigoajooeaaWShare
import Derived.Test.YtfoaeigoajooeaaWN
import Derived.Test.YtfoaeigoajooeaaWFootNe
import Derived.Test.YtfoaeigoajooeaaWAt
import Derived.Test.YtfoaeigoajooeaaWEqStruct
import Derived.Test.YtfoaeigoajooeaaWRepsOne
import Derived.Test.YtfoaeigoajooeaaWInv
import Derived.Test.YtfoaeigoajooeaaWInvWords
import Derived.Test.YtfoaeigoajooeaaWGuard
import Derived.Test.YtfoaeigoajooeaaWNEv
import Derived.Test.YtfoaeigoajooeaaWMore
namespace Go.Proofs.Ytfoaeigoajooeaa.Z
theorem zA {T : Type _} (l : List T) (i : Nat) (a : T) : l.toArray.setIfInBounds i a = (l.set i a).toArray := by simp
theorem zB {T : Type _} (x : T) (xs : List T) (a : T) : (x :: xs).set 0 a = a :: xs := rfl
theorem zC {T : Type _} (x : T) (xs : List T) (n : Nat) (a : T) : (x :: xs).set (n+1) a = x :: xs.set n a := rfl
end Go.Proofs.Ytfoaeigoajooeaa.Z

namespace Go.Proofs.Ytfoaeigoajooeaa.Z
open Go.RowKit Go.Proofs.YtfoaeigoajooeaaW.PrintWords Go.Proofs.YtfoaeigoajooeaaW.PrintLast Go.Proofs.YtfoaeigoajooeaaW.PrintMore
attribute [local go_sem] max2_int min2_int max_two min_two max_three min_three max_four min_four
set_option linter.unusedVariables false
set_option linter.unusedSimpArgs false
def errW : Option Int → Value
  | none => .nilIface
  | some c => .iface 0 (.int .i64 c)
theorem errW_none : errW none = .nilIface := rfl
theorem errW_some (c : Int) : errW (some c) = .iface 0 (.int .i64 c) := rfl
theorem info3 : (Try.prog.info? 3).map (fun i => (i.zero,i.size,i.bytes)) = some (some (.int .i64 0),1,8) := by kernel_rfl
theorem info5 : (Try.prog.info? 5).map (fun i => (i.zero,i.size,i.bytes)) = some (some (.int .u8 0),1,1) := by kernel_rfl
theorem info22 : (Try.prog.info? 22).map (fun i => (i.zero,i.size,i.bytes)) = some (some (.slice none 0 0),1,24) := by kernel_rfl
theorem info39 : (Try.prog.info? 39).map (fun i => (i.zero,i.size,i.bytes)) = some (some (.agg #[(.int .i64 0),(.int .i64 0)]),2,16) := by kernel_rfl
theorem info50 : (Try.prog.info? 50).map (fun i => (i.zero,i.size,i.bytes)) = some (some (.agg #[(.int .i64 0),(.bool false),(.int .i64 0),(.string ⟨#[]⟩)]),4,40) := by kernel_rfl
/-! #### struct type 50 -/
structure S50 where
  f0 : Int
  f1 : Bool
  f2 : Int
  f3 : ByteArray
def z50 : S50 := ⟨(0 : Int),false,(0 : Int),(⟨#[]⟩ : ByteArray)⟩
def k50 : Kd S50 := Kd.iso (Kd.pair (Kd.int .i64) (Kd.pair Kd.bool (Kd.pair (Kd.int .i64) Kd.string))) (fun x : S50 => (x.f0,x.f1,x.f2,x.f3))
theorem k50_heap : Kd.Heap k50 := Kd.heap_iso _ (Kd.heap_pair (Kd.heap_int .i64) (Kd.heap_pair Kd.heap_bool (Kd.heap_pair (Kd.heap_int .i64) Kd.heap_string)))
theorem k50_open {w : World} {x : S50} {cs : List Value} (h : k50.K w x cs) : cs = [.int .i64 x.f0,.bool x.f1,.int .i64 x.f2,.string x.f3] := by
  obtain ⟨_,_,rfl,rfl,⟨_,_,rfl,rfl,⟨_,_,rfl,rfl,rfl⟩⟩⟩ := h
  exact rfl
theorem k50_openM {w : World} {base : Nat} {ok : Nat → Prop} {x : S50} {cs : List Value} (h : k50.M w base ok x cs) : cs = [.int .i64 x.f0,.bool x.f1,.int .i64 x.f2,.string x.f3] := by
  obtain ⟨_,_,rfl,rfl,⟨_,_,rfl,rfl,⟨_,_,rfl,rfl,rfl⟩⟩⟩ := h
  exact rfl
theorem k50_mk (w : World) (x : S50)  : k50.K w x [.int .i64 x.f0,.bool x.f1,.int .i64 x.f2,.string x.f3] := ⟨[.int .i64 x.f0],[.bool x.f1,.int .i64 x.f2,.string x.f3],rfl,rfl,⟨[.bool x.f1],[.int .i64 x.f2,.string x.f3],rfl,rfl,⟨[.int .i64 x.f2],[.string x.f3],rfl,rfl,rfl⟩⟩⟩
theorem k50_mkM (w : World) (base : Nat) (ok : Nat → Prop) (x : S50)  : k50.M w base ok x [.int .i64 x.f0,.bool x.f1,.int .i64 x.f2,.string x.f3] := ⟨[.int .i64 x.f0],[.bool x.f1,.int .i64 x.f2,.string x.f3],rfl,rfl,⟨[.bool x.f1],[.int .i64 x.f2,.string x.f3],rfl,rfl,⟨[.int .i64 x.f2],[.string x.f3],rfl,rfl,rfl⟩⟩⟩
theorem k50_mkF (W : World) (ok : Nat → Prop) (x : S50) : Kd.FK k50 W ok x [.int .i64 x.f0,.bool x.f1,.int .i64 x.f2,.string x.f3] := fun W2 _ => k50_mk W2 x
def rd_T50 (xs : List S50) (i : Int) : S50 := xs.getD i.toNat z50
theorem at_T50 {w : World} {A : Option Addr} {n : Nat} {xs : List S50} (h : Kd.C k50 w A n xs) (i : Int) (h0 : 0 ≤ i) (h1 : i < n) : ∃ ad ,A = some ad ∧ w.cell? (ad.add (i.toNat * 4)) = some (.int .i64 (rd_T50 xs i).f0) ∧ w.cell? ⟨(ad.add (i.toNat * 4)).block,(ad.add (i.toNat * 4)).off + 1,none⟩ = some (.bool (rd_T50 xs i).f1) ∧ w.cell? ⟨(ad.add (i.toNat * 4)).block,(ad.add (i.toNat * 4)).off + 2,none⟩ = some (.int .i64 (rd_T50 xs i).f2) ∧ w.cell? ⟨(ad.add (i.toNat * 4)).block,(ad.add (i.toNat * 4)).off + 3,none⟩ = some (.string (rd_T50 xs i).f3) := by
  obtain ⟨ad,c,e,_,hK,hc0⟩ := Kd.C_get h z50 i h0 h1
  have hc : ∀ j u,c[j]? = some u → w.cell? (ad.add (i.toNat * 4 + j)) = some u := hc0
  obtain rfl := k50_open hK
  exact ⟨ad,e,hc 0 _ rfl,by rw [← add_field _ _ 1 (by omega)];exact hc 1 _ rfl,by rw [← add_field _ _ 2 (by omega)];exact hc 2 _ rfl,by rw [← add_field _ _ 3 (by omega)];exact hc 3 _ rfl⟩
def rd_L4 (xs : List (List S50)) (i : Int) : (List S50) := xs.getD i.toNat ([] : List S50)
theorem at_L4 {w : World} {A : Option Addr} {n : Nat} {xs : List (List S50)} (h : Kd.C (Kd.slice 50 k50) w A n xs) (i : Int) (h0 : 0 ≤ i) (h1 : i < n) : ∃ ad A0 c0,A = some ad ∧ w.cell? (ad.add i.toNat) = some (.slice A0 (rd_L4 xs i).length c0) ∧ (rd_L4 xs i).length ≤ c0 ∧ k50.C w A0 (rd_L4 xs i).length (rd_L4 xs i) := by
  obtain ⟨ad,c,e,_,hK,hc0⟩ := Kd.C_get h ([] : List S50) i h0 h1
  have hc : ∀ j u,c[j]? = some u → w.cell? (ad.add (i.toNat * 1 + j)) = some u := hc0
  obtain ⟨A0,c0,rfl,l0,g0⟩ := hK
  exact ⟨ad,A0,c0,e,by have hq := hc 0 _ rfl;rwa [Nat.mul_one,Nat.add_zero] at hq,l0,g0⟩
/-! #### struct type 39 -/
structure S39 where
  f0 : Int
  f1 : Int
def z39 : S39 := ⟨(0 : Int),(0 : Int)⟩
def k39 : Kd S39 := Kd.iso (Kd.pair (Kd.int .i64) (Kd.int .i64)) (fun x : S39 => (x.f0,x.f1))
theorem k39_heap : Kd.Heap k39 := Kd.heap_iso _ (Kd.heap_pair (Kd.heap_int .i64) (Kd.heap_int .i64))
theorem k39_open {w : World} {x : S39} {cs : List Value} (h : k39.K w x cs) : cs = [.int .i64 x.f0,.int .i64 x.f1] := by
  obtain ⟨_,_,rfl,rfl,rfl⟩ := h
  exact rfl
theorem k39_openM {w : World} {base : Nat} {ok : Nat → Prop} {x : S39} {cs : List Value} (h : k39.M w base ok x cs) : cs = [.int .i64 x.f0,.int .i64 x.f1] := by
  obtain ⟨_,_,rfl,rfl,rfl⟩ := h
  exact rfl
theorem k39_mk (w : World) (x : S39)  : k39.K w x [.int .i64 x.f0,.int .i64 x.f1] := ⟨[.int .i64 x.f0],[.int .i64 x.f1],rfl,rfl,rfl⟩
theorem k39_mkM (w : World) (base : Nat) (ok : Nat → Prop) (x : S39)  : k39.M w base ok x [.int .i64 x.f0,.int .i64 x.f1] := ⟨[.int .i64 x.f0],[.int .i64 x.f1],rfl,rfl,rfl⟩
theorem k39_mkF (W : World) (ok : Nat → Prop) (x : S39) : Kd.FK k39 W ok x [.int .i64 x.f0,.int .i64 x.f1] := fun W2 _ => k39_mk W2 x
def rd_T39 (xs : List S39) (i : Int) : S39 := xs.getD i.toNat z39
theorem at_T39 {w : World} {A : Option Addr} {n : Nat} {xs : List S39} (h : Kd.C k39 w A n xs) (i : Int) (h0 : 0 ≤ i) (h1 : i < n) : ∃ ad ,A = some ad ∧ w.cell? (ad.add (i.toNat * 2)) = some (.int .i64 (rd_T39 xs i).f0) ∧ w.cell? ⟨(ad.add (i.toNat * 2)).block,(ad.add (i.toNat * 2)).off + 1,none⟩ = some (.int .i64 (rd_T39 xs i).f1) := by
  obtain ⟨ad,c,e,_,hK,hc0⟩ := Kd.C_get h z39 i h0 h1
  have hc : ∀ j u,c[j]? = some u → w.cell? (ad.add (i.toNat * 2 + j)) = some u := hc0
  obtain rfl := k39_open hK
  exact ⟨ad,e,hc 0 _ rfl,by rw [← add_field _ _ 1 (by omega)];exact hc 1 _ rfl⟩
def rd_L6 (xs : List (List (List S50))) (i : Int) : (List (List S50)) := xs.getD i.toNat ([] : List (List S50))
theorem at_L6 {w : World} {A : Option Addr} {n : Nat} {xs : List (List (List S50))} (h : Kd.C (Kd.slice 22 (Kd.slice 50 k50)) w A n xs) (i : Int) (h0 : 0 ≤ i) (h1 : i < n) : ∃ ad A0 c0,A = some ad ∧ w.cell? (ad.add i.toNat) = some (.slice A0 (rd_L6 xs i).length c0) ∧ (rd_L6 xs i).length ≤ c0 ∧ (Kd.slice 50 k50).C w A0 (rd_L6 xs i).length (rd_L6 xs i) := by
  obtain ⟨ad,c,e,_,hK,hc0⟩ := Kd.C_get h ([] : List (List S50)) i h0 h1
  have hc : ∀ j u,c[j]? = some u → w.cell? (ad.add (i.toNat * 1 + j)) = some u := hc0
  obtain ⟨A0,c0,rfl,l0,g0⟩ := hK
  exact ⟨ad,A0,c0,e,by have hq := hc 0 _ rfl;rwa [Nat.mul_one,Nat.add_zero] at hq,l0,g0⟩
end Go.Proofs.Ytfoaeigoajooeaa.Z
namespace Go.Proofs.Ytfoaeigoajooeaa.Z
open Go.RowKit Go.Proofs.YtfoaeigoajooeaaW.PrintWords Go.Proofs.YtfoaeigoajooeaaW.PrintLast Go.Proofs.YtfoaeigoajooeaaW.PrintMore
attribute [local go_sem] max2_int min2_int max_two min_two max_three min_three max_four min_four
set_option linter.unusedVariables false
set_option linter.unusedSimpArgs false
/-! ### verdererref01_Text: function 41 -/
mutual
def verdererref01_Text.l0 : Nat → ByteArray → ByteArray → Int → Option (Int)
  | 0,_,_,_ => none
  | k + 1,x0,x1,x5 => if x5 < (x0.size : Int) then (verdererref01_Text.j1 k x0 x1 x5 (decide (x5 < (x1.size : Int)))) else (verdererref01_Text.j1 k x0 x1 x5 false)
def verdererref01_Text.j1 : Nat → ByteArray → ByteArray → Int → Bool → Option (Int)
  | 0,_,_,_,_ => none
  | k + 1,x0,x1,x5,x15 => if x15 = true then (if 0 ≤ x5 then (if x5 < (x0.size : Int) then (if x5 < (x1.size : Int) then (if (bt x0 x5) < (bt x1 x5) then (some (-1)) else (if (bt x0 x5) > (bt x1 x5) then (some 1) else (verdererref01_Text.l0 k x0 x1 (wrap64 (x5 + 1))))) else (none)) else (none)) else (none)) else (if (x0.size : Int) < (x1.size : Int) then (some (-1)) else (if (x0.size : Int) > (x1.size : Int) then (some 1) else (some 0)))
end
def verdererref01_Text.f (k : Nat) (a0 : ByteArray) (a1 : ByteArray) : Option (Int) := verdererref01_Text.l0 k a0 a1 0
theorem verdererref01_Text.mono_l : ∀ k,(∀ y0 y1 y2,LeO (verdererref01_Text.l0 k y0 y1 y2) (verdererref01_Text.l0 (k + 1) y0 y1 y2)) ∧ (∀ y0 y1 y2 y3,LeO (verdererref01_Text.j1 k y0 y1 y2 y3) (verdererref01_Text.j1 (k + 1) y0 y1 y2 y3))
  | 0 => ⟨fun _ _ _ r h => by simp [verdererref01_Text.l0] at h,fun _ _ _ _ r h => by simp [verdererref01_Text.j1] at h⟩
  | k + 1 => by
    obtain ⟨ih0,ih1⟩ := verdererref01_Text.mono_l k
    refine ⟨?_,?_⟩
    · intro y0 y1 y2
      unfold verdererref01_Text.l0
      repeat' first
      | (with_reducible exact ih0 _ _ _)
      | (with_reducible exact ih1 _ _ _ _)
      | (with_reducible exact LeO.refl _)
      | (with_reducible exact LeO.none _)
      | (with_reducible refine LeO.ite ?_ ?_)
      | (with_reducible refine LeO.bind ?_ (fun _ => ?_))
      | exact ih0 _ _ _
      | exact ih1 _ _ _ _
      | exact LeO.none _
      | refine LeO.ite ?_ ?_
      | refine LeO.bind ?_ (fun _ => ?_)
    · intro y0 y1 y2 y3
      unfold verdererref01_Text.j1
      repeat' first
      | (with_reducible exact ih0 _ _ _)
      | (with_reducible exact ih1 _ _ _ _)
      | (with_reducible exact LeO.refl _)
      | (with_reducible exact LeO.none _)
      | (with_reducible refine LeO.ite ?_ ?_)
      | (with_reducible refine LeO.bind ?_ (fun _ => ?_))
      | exact ih0 _ _ _
      | exact ih1 _ _ _ _
      | exact LeO.none _
      | refine LeO.ite ?_ ?_
      | refine LeO.bind ?_ (fun _ => ?_)
theorem verdererref01_Text.mono : ∀ a0 a1 k,LeO (verdererref01_Text.f k a0 a1) (verdererref01_Text.f (k + 1) a0 a1) := by
  intro a0 a1 k
  obtain ⟨ih0,ih1⟩ := verdererref01_Text.mono_l k
  unfold verdererref01_Text.f
  repeat' first
      | (with_reducible exact ih0 _ _ _)
      | (with_reducible exact ih1 _ _ _ _)
      | (with_reducible exact LeO.refl _)
      | (with_reducible exact LeO.none _)
      | (with_reducible refine LeO.ite ?_ ?_)
      | (with_reducible refine LeO.bind ?_ (fun _ => ?_))
      | exact ih0 _ _ _
      | exact ih1 _ _ _ _
      | exact LeO.none _
      | refine LeO.ite ?_ ?_
      | refine LeO.bind ?_ (fun _ => ?_)
set_option maxHeartbeats 8000000 in
set_option maxRecDepth 100000 in
theorem verdererref01_Text.calls (k : Nat) (a0 : ByteArray) (a1 : ByteArray) (r : Int) (w : World) (h : verdererref01_Text.f k a0 a1 = some r) :
    Calls Try.prog 41 #[.string a0,.string a1] w fun e w' => e = .returned (.int .i64 r) ∧ Drawn0 w w' := by
  have H : (verdererref01_Text.l0 k a0 a1 0) = some r := h
  clear h
  have H' := Aside0.mk H
  clear H
  go_enter Try.func41,Try.ntmps41
  go_wp2
  repeat (go_quiet (fail);try go_wp2)
  go_loopg [5] k (fun kq v5 w' => ∃ (x5_1 : Int),v5 = .int .i64 x5_1 ∧ Aside0 (verdererref01_Text.l0 kq a0 a1 x5_1 = some r) ∧ Aside0 (kq ≤ k) ∧ Drawn0 w w')
  case atStart => exact ⟨(0),(by first | rfl | (simp;done) | (simp [*];done)),H',⟨Nat.le_refl _⟩,by repeat (first | exact Drawn0.refl _ | apply Drawn0.step)⟩
  case round =>
    clear H'
    try clear p2
    obtain ⟨x5_1,rfl,HA,HK1,⟨m1,rfl⟩⟩ := hrel
    cases gk with
    | zero => exact absurd HA.out (by simp [verdererref01_Text.l0])
    | succ k1 =>
      have H := HA.out
      clear HA
      simp only [verdererref01_Text.l0] at H
      have HC3 := Aside0.mk H
      clear H
      go_upto_region 2 with (fail)
      repeat (go_quiet (fail);go_upto_region 2 with (fail))
      go_cut [15] (fun v15 wc => ∃ (kq : Nat) (x15_2 : Bool),v15 = .bool x15_2 ∧ Aside0 (verdererref01_Text.j1 kq a0 a1 x5_1 x15_2 = some r) ∧ Aside0 (kq ≤ k1) ∧ Drawn0 w wc)
      case first =>
        have H := HC3.out
        clear HC3
        by_cases c4 : x5_1 < (a0.size : Int)
        · rw [if_pos c4] at H
          have c4b0 : decide (x5_1 < (a0.size : Int)) = true := decide_eq_true c4
          clear c4
          (first | rw [c4b0] | (simp only [i64_w,i32_w];rw [c4b0]) | skip)
          have H' := Aside0.mk H
          clear H
          go_wp2
          repeat (go_quiet (fail);try go_wp2)
          go_meet
          case rel => exact ⟨_,(decide (x5_1 < (a1.size : Int))),(by first | rfl | (simp;done) | (simp [*];done)),H',⟨by have := HK1.out;first | omega | exact Nat.le_refl _⟩,by repeat (first | exact Drawn0.refl _ | apply Drawn0.step)⟩
        · rw [if_neg c4] at H
          have c4b0 : decide (x5_1 < (a0.size : Int)) = false := decide_eq_false c4
          clear c4
          (first | rw [c4b0] | (simp only [i64_w,i32_w];rw [c4b0]) | skip)
          have H' := Aside0.mk H
          clear H
          go_wp2
          repeat (go_quiet (fail);try go_wp2)
          go_meet
          case rel => exact ⟨_,(false),(by first | rfl | (simp;done) | (simp [*];done)),H',⟨by have := HK1.out;first | omega | exact Nat.le_refl _⟩,by repeat (first | exact Drawn0.refl _ | apply Drawn0.step)⟩
      case rest =>
        clear HC3
        try clear p2
        try clear c4
        try clear c4b0
        try clear p2
        obtain ⟨kq,x15_2,rfl,HA,HJ2,⟨mc2,rfl⟩⟩ := hcut
        cases kq with
        | zero => exact absurd HA.out (by simp [verdererref01_Text.j1])
        | succ kj2 =>
          have H := HA.out
          clear HA
          simp only [verdererref01_Text.j1] at H
          by_cases c5 : x15_2 = true
          · subst c5
            have H1 : (if 0 ≤ x5_1 then (if x5_1 < (a0.size : Int) then (if x5_1 < (a1.size : Int) then (if (bt a0 x5_1) < (bt a1 x5_1) then (some (-1)) else (if (bt a0 x5_1) > (bt a1 x5_1) then (some 1) else (verdererref01_Text.l0 kj2 a0 a1 (wrap64 (x5_1 + 1))))) else (none)) else (none)) else (none)) = some r := by rw [if_pos rfl] at H;exact H
            clear H
            have H := H1
            clear H1
            by_cases c6 : 0 ≤ x5_1
            · rw [if_pos c6] at H
              have c6b0 : decide (0 ≤ x5_1) = true := decide_eq_true c6
              clear c6
              by_cases c7 : x5_1 < (a0.size : Int)
              · rw [if_pos c7] at H
                have c7b0 : decide (x5_1 < (a0.size : Int)) = true := decide_eq_true c7
                clear c7
                by_cases c9 : x5_1 < (a1.size : Int)
                · rw [if_pos c9] at H
                  have c9b0 : decide (x5_1 < (a1.size : Int)) = true := decide_eq_true c9
                  clear c9
                  by_cases c11 : (bt a0 x5_1) < (bt a1 x5_1)
                  · rw [if_pos c11] at H
                    have c11b0 : decide ((bt a0 x5_1) < (bt a1 x5_1)) = true := decide_eq_true c11
                    clear c11
                    obtain rfl := Option.some.inj H
                    have p8 : 0 ≤ (x5_1 : Int) := of_decide_eq_true (by first | (with_reducible assumption) | assumption)
                    have q8 : x5_1 < (a0.size : Int) := of_decide_eq_true (by first | (with_reducible assumption) | assumption)
                    have hx8 := bt_at a0 x5_1
                    replace p8 := eq_true p8
                    replace q8 := eq_true q8
                    have p10 : 0 ≤ (x5_1 : Int) := of_decide_eq_true (by first | (with_reducible assumption) | assumption)
                    have q10 : x5_1 < (a1.size : Int) := of_decide_eq_true (by first | (with_reducible assumption) | assumption)
                    have hx10 := bt_at a1 x5_1
                    replace p10 := eq_true p10
                    replace q10 := eq_true q10
                    go_wp2
                    repeat (go_quiet (fail);try go_wp2)
                    go_ret
                    exact ⟨by first | rfl | (simp;done) | (simp [*];done),by repeat (first | exact Drawn0.refl _ | apply Drawn0.step)⟩
                  · rw [if_neg c11] at H
                    have c11b0 : decide ((bt a0 x5_1) < (bt a1 x5_1)) = false := decide_eq_false c11
                    clear c11
                    by_cases c14 : (bt a0 x5_1) > (bt a1 x5_1)
                    · rw [if_pos c14] at H
                      have c14b0 : decide ((bt a1 x5_1) < (bt a0 x5_1)) = true := decide_eq_true c14
                      clear c14
                      obtain rfl := Option.some.inj H
                      have p8 : 0 ≤ (x5_1 : Int) := of_decide_eq_true (by first | (with_reducible assumption) | assumption)
                      have q8 : x5_1 < (a0.size : Int) := of_decide_eq_true (by first | (with_reducible assumption) | assumption)
                      have hx8 := bt_at a0 x5_1
                      replace p8 := eq_true p8
                      replace q8 := eq_true q8
                      have p10 : 0 ≤ (x5_1 : Int) := of_decide_eq_true (by first | (with_reducible assumption) | assumption)
                      have q10 : x5_1 < (a1.size : Int) := of_decide_eq_true (by first | (with_reducible assumption) | assumption)
                      have hx10 := bt_at a1 x5_1
                      replace p10 := eq_true p10
                      replace q10 := eq_true q10
                      have p12 : 0 ≤ (x5_1 : Int) := of_decide_eq_true (by first | (with_reducible assumption) | assumption)
                      have q12 : x5_1 < (a0.size : Int) := of_decide_eq_true (by first | (with_reducible assumption) | assumption)
                      have hx12 := bt_at a0 x5_1
                      replace p12 := eq_true p12
                      replace q12 := eq_true q12
                      have p13 : 0 ≤ (x5_1 : Int) := of_decide_eq_true (by first | (with_reducible assumption) | assumption)
                      have q13 : x5_1 < (a1.size : Int) := of_decide_eq_true (by first | (with_reducible assumption) | assumption)
                      have hx13 := bt_at a1 x5_1
                      replace p13 := eq_true p13
                      replace q13 := eq_true q13
                      go_wp2
                      repeat (go_quiet (fail);try go_wp2)
                      go_ret
                      exact ⟨by first | rfl | (simp;done) | (simp [*];done),by repeat (first | exact Drawn0.refl _ | apply Drawn0.step)⟩
                    · rw [if_neg c14] at H
                      have c14b0 : decide ((bt a1 x5_1) < (bt a0 x5_1)) = false := decide_eq_false c14
                      clear c14
                      have H' := Aside0.mk H
                      clear H
                      have p8 : 0 ≤ (x5_1 : Int) := of_decide_eq_true (by first | (with_reducible assumption) | assumption)
                      have q8 : x5_1 < (a0.size : Int) := of_decide_eq_true (by first | (with_reducible assumption) | assumption)
                      have hx8 := bt_at a0 x5_1
                      replace p8 := eq_true p8
                      replace q8 := eq_true q8
                      have p10 : 0 ≤ (x5_1 : Int) := of_decide_eq_true (by first | (with_reducible assumption) | assumption)
                      have q10 : x5_1 < (a1.size : Int) := of_decide_eq_true (by first | (with_reducible assumption) | assumption)
                      have hx10 := bt_at a1 x5_1
                      replace p10 := eq_true p10
                      replace q10 := eq_true q10
                      have p12 : 0 ≤ (x5_1 : Int) := of_decide_eq_true (by first | (with_reducible assumption) | assumption)
                      have q12 : x5_1 < (a0.size : Int) := of_decide_eq_true (by first | (with_reducible assumption) | assumption)
                      have hx12 := bt_at a0 x5_1
                      replace p12 := eq_true p12
                      replace q12 := eq_true q12
                      have p13 : 0 ≤ (x5_1 : Int) := of_decide_eq_true (by first | (with_reducible assumption) | assumption)
                      have q13 : x5_1 < (a1.size : Int) := of_decide_eq_true (by first | (with_reducible assumption) | assumption)
                      have hx13 := bt_at a1 x5_1
                      replace p13 := eq_true p13
                      replace q13 := eq_true q13
                      go_wp2
                      repeat (go_quiet (fail);try go_wp2)
                      go_roundg kj2
                      case measure => have := HK1.out;have := HJ2.out;omega
                      case rel => exact ⟨(wrap64 (x5_1 + 1)),(by first | rfl | (simp;done) | (simp [*];done)),H',⟨by have := HK1.out;have := HJ2.out;omega⟩,by repeat (first | exact Drawn0.refl _ | apply Drawn0.step)⟩
                · rw [if_neg c9] at H
                  exact absurd H (by simp)
              · rw [if_neg c7] at H
                exact absurd H (by simp)
            · rw [if_neg c6] at H
              exact absurd H (by simp)
          · replace c5 := Bool.eq_false_iff.mpr c5
            subst c5
            have H1 : (if (a0.size : Int) < (a1.size : Int) then (some (-1)) else (if (a0.size : Int) > (a1.size : Int) then (some 1) else (some 0))) = some r := by rw [if_neg (show ¬ (false = true) by decide)] at H;exact H
            clear H
            have H := H1
            clear H1
            by_cases c15 : (a0.size : Int) < (a1.size : Int)
            · rw [if_pos c15] at H
              have c15b0 : decide ((a0.size : Int) < (a1.size : Int)) = true := decide_eq_true c15
              have c15b1 : decide (a0.size < a1.size) = true := decide_eq_true (Int.ofNat_lt.mp c15)
              clear c15
              obtain rfl := Option.some.inj H
              go_wp2
              repeat (go_quiet (fail);try go_wp2)
              go_ret
              exact ⟨by first | rfl | (simp;done) | (simp [*];done),by repeat (first | exact Drawn0.refl _ | apply Drawn0.step)⟩
            · rw [if_neg c15] at H
              have c15b0 : decide ((a0.size : Int) < (a1.size : Int)) = false := decide_eq_false c15
              have c15b1 : decide (a0.size < a1.size) = false := decide_eq_false (fun h => c15 (Int.ofNat_lt.mpr h))
              clear c15
              by_cases c16 : (a0.size : Int) > (a1.size : Int)
              · rw [if_pos c16] at H
                have c16b0 : decide ((a1.size : Int) < (a0.size : Int)) = true := decide_eq_true c16
                have c16b1 : decide (a1.size < a0.size) = true := decide_eq_true (Int.ofNat_lt.mp c16)
                clear c16
                obtain rfl := Option.some.inj H
                go_wp2
                repeat (go_quiet (fail);try go_wp2)
                go_ret
                exact ⟨by first | rfl | (simp;done) | (simp [*];done),by repeat (first | exact Drawn0.refl _ | apply Drawn0.step)⟩
              · rw [if_neg c16] at H
                have c16b0 : decide ((a1.size : Int) < (a0.size : Int)) = false := decide_eq_false c16
                have c16b1 : decide (a1.size < a0.size) = false := decide_eq_false (fun h => c16 (Int.ofNat_lt.mpr h))
                clear c16
                obtain rfl := Option.some.inj H
                go_wp2
                repeat (go_quiet (fail);try go_wp2)
                go_ret
                exact ⟨by first | rfl | (simp;done) | (simp [*];done),by repeat (first | exact Drawn0.refl _ | apply Drawn0.step)⟩
end Go.Proofs.Ytfoaeigoajooeaa.Z
namespace Go.Proofs.Ytfoaeigoajooeaa.Z
open Go.RowKit Go.Proofs.YtfoaeigoajooeaaW.PrintWords Go.Proofs.YtfoaeigoajooeaaW.PrintLast Go.Proofs.YtfoaeigoajooeaaW.PrintMore
attribute [local go_sem] max2_int min2_int max_two min_two max_three min_three max_four min_four
set_option linter.unusedVariables false
set_option linter.unusedSimpArgs false
/-! ### verdererref01_Compare: function 49 -/
def verdererref01_Compare.f (k : Nat) (a0_0 : Int) (a0_1 : Bool) (a0_2 : Int) (a0_3 : ByteArray) (a1_0 : Int) (a1_1 : Bool) (a1_2 : Int) (a1_3 : ByteArray) : Option (Int) := if a0_0 < a1_0 then (some (-1)) else (if a0_0 > a1_0 then (some 1) else (if a0_0 = 1 then (if (a0_1 == a1_1) = true then (some 0) else (if a1_1 = true then (some (-1)) else (some 1))) else (if a0_0 = 2 then (if a0_2 < a1_2 then (some (-1)) else (if a0_2 > a1_2 then (some 1) else (some 0))) else (if a0_0 = 3 then ((verdererref01_Text.f k a0_3 a1_3).bind fun t255 => (some t255)) else (some 0)))))
theorem verdererref01_Compare.mono : ∀ a0 a1 a2 a3 a4 a5 a6 a7 k,LeO (verdererref01_Compare.f k a0 a1 a2 a3 a4 a5 a6 a7) (verdererref01_Compare.f (k + 1) a0 a1 a2 a3 a4 a5 a6 a7) := by
  intro a0 a1 a2 a3 a4 a5 a6 a7 k
  unfold verdererref01_Compare.f
  repeat' first
      | (with_reducible exact verdererref01_Text.mono _ _ _)
      | (with_reducible exact LeO.refl _)
      | (with_reducible exact LeO.none _)
      | (with_reducible refine LeO.ite ?_ ?_)
      | (with_reducible refine LeO.bind ?_ (fun _ => ?_))
      | exact verdererref01_Text.mono _ _ _
      | exact LeO.none _
      | refine LeO.ite ?_ ?_
      | refine LeO.bind ?_ (fun _ => ?_)
set_option maxHeartbeats 8000000 in
set_option maxRecDepth 100000 in
theorem verdererref01_Compare.calls (k : Nat) (a0_0 : Int) (a0_1 : Bool) (a0_2 : Int) (a0_3 : ByteArray) (a1_0 : Int) (a1_1 : Bool) (a1_2 : Int) (a1_3 : ByteArray) (r : Int) (w : World) (h : verdererref01_Compare.f k a0_0 a0_1 a0_2 a0_3 a1_0 a1_1 a1_2 a1_3 = some r) :
    Calls Try.prog 49 #[.agg #[.int .i64 a0_0,.bool a0_1,.int .i64 a0_2,.string a0_3],.agg #[.int .i64 a1_0,.bool a1_1,.int .i64 a1_2,.string a1_3]] w fun e w' => e = .returned (.int .i64 r) ∧ Below w.heap.size w w' := by
  have hu50 := Try.underlying50
  have HB := Aside0.mk (Below.refl w.heap.size w)
  have H : (if a0_0 < a1_0 then (some (-1)) else (if a0_0 > a1_0 then (some 1) else (if a0_0 = 1 then (if (a0_1 == a1_1) = true then (some 0) else (if a1_1 = true then (some (-1)) else (some 1))) else (if a0_0 = 2 then (if a0_2 < a1_2 then (some (-1)) else (if a0_2 > a1_2 then (some 1) else (some 0))) else (if a0_0 = 3 then ((verdererref01_Text.f k a0_3 a1_3).bind fun t255 => (some t255)) else (some 0)))))) = some r := h
  clear h
  by_cases c3 : a0_0 < a1_0
  · rw [if_pos c3] at H
    have c3b0 : decide (a0_0 < a1_0) = true := decide_eq_true c3
    clear c3
    obtain rfl := Option.some.inj H
    go_enter Try.func49,Try.ntmps49
    go_wp2_with (first | ((with_reducible refine gate_dst (N := 2) rfl ?_);refine box_event ?hg (N := 2) ?hd (cs := #[.int .i64 a0_0,.bool a0_1,.int .i64 a0_2,.string a0_3]) (t := 50) ?hr ?_;(case hd => rfl);(case hg => rfl);(case hr => first | (go_simp;done) | (go_simp;rfl));intro gb253 hg w4 hbox hb;have n0_ := Aside0.mk (below_step (by repeat (first | (with_reducible first | exact HB.out | apply below_alloc | apply pw_below_drewN | apply below_drew1) | exact HB.out)) hb);have n1_ := Aside0.mk (hbox);have n2_ := Aside0.mk ((by rw [hg];exact (below_size (by repeat (first | (with_reducible first | exact HB.out | apply below_alloc | apply pw_below_drewN | apply below_drew1) | exact HB.out))) : w.heap.size ≤ gb253));have n3_ := Aside0.mk ((by rw [hg];exact (below_size (by repeat (first | (with_reducible first | exact HB.out | apply below_alloc | apply pw_below_drewN | apply below_drew1) | exact HB.out))) : w.heap.size ≤ gb253));clear HB;have HB := n0_;have BK253 := n1_;have GW253 := n2_;have GE253 := n3_;clear n0_ n1_ n2_ n3_;clear hb hbox hg) | ((with_reducible refine gate_dst (N := 3) rfl ?_);refine box_event ?hg (N := 3) ?hd (cs := #[.int .i64 a1_0,.bool a1_1,.int .i64 a1_2,.string a1_3]) (t := 50) ?hr ?_;(case hd => rfl);(case hg => rfl);(case hr => first | (go_simp;done) | (go_simp;rfl));intro gb254 hg w5 hbox hb;have n0_ := Aside0.mk (blk_below (g := gb253) (o := .cells #[.int .i64 a0_0,.bool a0_1,.int .i64 a0_2,.string a0_3] 50 (0,0)) (by (with_reducible repeat (first | refine blk_drewN ?_ _ | refine blk_drew ?_ | refine blk_alloc ?_ _));exact BK253.out) hb);have n1_ := Aside0.mk (below_step (by repeat (first | (with_reducible first | exact HB.out | apply below_alloc | apply pw_below_drewN | apply below_drew1 | refine below_set ?_ GE253.out) | exact HB.out)) hb);have n2_ := Aside0.mk (hbox);have n3_ := Aside0.mk ((by rw [hg];exact (below_size (by repeat (first | (with_reducible first | exact HB.out | apply below_alloc | apply pw_below_drewN | apply below_drew1 | refine below_set ?_ GE253.out) | exact HB.out))) : w.heap.size ≤ gb254));have n4_ := Aside0.mk ((by rw [hg];exact (below_size (by repeat (first | (with_reducible first | exact HB.out | apply below_alloc | apply pw_below_drewN | apply below_drew1 | refine below_set ?_ GE253.out) | exact HB.out))) : w.heap.size ≤ gb254));have n5_ := Aside0.mk ((by rw [hg];exact Nat.ne_of_lt (blk_lt (g := gb253) (o := .cells #[.int .i64 a0_0,.bool a0_1,.int .i64 a0_2,.string a0_3] 50 (0,0)) (by (with_reducible repeat (first | refine blk_drewN ?_ _ | refine blk_drew ?_ | refine blk_alloc ?_ _));exact BK253.out)) : gb253 ≠ gb254));have n6_ := Aside0.mk ((by rw [hg];exact Nat.ne_of_gt (blk_lt (g := gb253) (o := .cells #[.int .i64 a0_0,.bool a0_1,.int .i64 a0_2,.string a0_3] 50 (0,0)) (by (with_reducible repeat (first | refine blk_drewN ?_ _ | refine blk_drew ?_ | refine blk_alloc ?_ _));exact BK253.out)) : gb254 ≠ gb253));clear BK253;clear HB;have BK253 := n0_;have HB := n1_;have BK254 := n2_;have GW254 := n3_;have GE254 := n4_;have NB253_254 := n5_;have NB254_253 := n6_;clear n0_ n1_ n2_ n3_ n4_ n5_ n6_;clear hb hbox hg;have hnb6 := NB253_254.out;have hnc6 := NB254_253.out;have hcz7_0 : w5.cell? ⟨gb253,0,none⟩ = some (.int .i64 a0_0) := (blk_cell BK253.out 0).trans rfl;have hcz7_1 : w5.cell? ⟨gb253,1,none⟩ = some (.bool a0_1) := (blk_cell BK253.out 1).trans rfl;have hcz7_2 : w5.cell? ⟨gb253,2,none⟩ = some (.int .i64 a0_2) := (blk_cell BK253.out 2).trans rfl;have hcz7_3 : w5.cell? ⟨gb253,3,none⟩ = some (.string a0_3) := (blk_cell BK253.out 3).trans rfl;have hfz7_0 := blk_frozen BK253.out 0;have hfz7_1 := blk_frozen BK253.out 1;have hfz7_2 := blk_frozen BK253.out 2;have hfz7_3 := blk_frozen BK253.out 3;have hcz8_0 : w5.cell? ⟨gb254,0,none⟩ = some (.int .i64 a1_0) := (blk_cell BK254.out 0).trans rfl;have hcz8_1 : w5.cell? ⟨gb254,1,none⟩ = some (.bool a1_1) := (blk_cell BK254.out 1).trans rfl;have hcz8_2 : w5.cell? ⟨gb254,2,none⟩ = some (.int .i64 a1_2) := (blk_cell BK254.out 2).trans rfl;have hcz8_3 : w5.cell? ⟨gb254,3,none⟩ = some (.string a1_3) := (blk_cell BK254.out 3).trans rfl;have hfz8_0 := blk_frozen BK254.out 0;have hfz8_1 := blk_frozen BK254.out 1;have hfz8_2 := blk_frozen BK254.out 2;have hfz8_3 := blk_frozen BK254.out 3))
    go_ret
    exact ⟨by first | rfl | (simp [errW_none,errW_some] <;> rfl) | (simp [*,errW_none,errW_some] <;> rfl),by repeat (first | (with_reducible first | exact HB.out | apply below_alloc | apply pw_below_drewN | apply below_drew1 | refine below_set ?_ GE253.out | refine below_set ?_ GE254.out) | exact HB.out)⟩
  · rw [if_neg c3] at H
    have c3b0 : decide (a0_0 < a1_0) = false := decide_eq_false c3
    clear c3
    by_cases c9 : a0_0 > a1_0
    · rw [if_pos c9] at H
      have c9b0 : decide (a1_0 < a0_0) = true := decide_eq_true c9
      clear c9
      obtain rfl := Option.some.inj H
      go_enter Try.func49,Try.ntmps49
      go_wp2_with (first | ((with_reducible refine gate_dst (N := 2) rfl ?_);refine box_event ?hg (N := 2) ?hd (cs := #[.int .i64 a0_0,.bool a0_1,.int .i64 a0_2,.string a0_3]) (t := 50) ?hr ?_;(case hd => rfl);(case hg => rfl);(case hr => first | (go_simp;done) | (go_simp;rfl));intro gb253 hg w10 hbox hb;have n0_ := Aside0.mk (below_step (by repeat (first | (with_reducible first | exact HB.out | apply below_alloc | apply pw_below_drewN | apply below_drew1) | exact HB.out)) hb);have n1_ := Aside0.mk (hbox);have n2_ := Aside0.mk ((by rw [hg];exact (below_size (by repeat (first | (with_reducible first | exact HB.out | apply below_alloc | apply pw_below_drewN | apply below_drew1) | exact HB.out))) : w.heap.size ≤ gb253));have n3_ := Aside0.mk ((by rw [hg];exact (below_size (by repeat (first | (with_reducible first | exact HB.out | apply below_alloc | apply pw_below_drewN | apply below_drew1) | exact HB.out))) : w.heap.size ≤ gb253));clear HB;have HB := n0_;have BK253 := n1_;have GW253 := n2_;have GE253 := n3_;clear n0_ n1_ n2_ n3_;clear hb hbox hg) | ((with_reducible refine gate_dst (N := 3) rfl ?_);refine box_event ?hg (N := 3) ?hd (cs := #[.int .i64 a1_0,.bool a1_1,.int .i64 a1_2,.string a1_3]) (t := 50) ?hr ?_;(case hd => rfl);(case hg => rfl);(case hr => first | (go_simp;done) | (go_simp;rfl));intro gb254 hg w11 hbox hb;have n0_ := Aside0.mk (blk_below (g := gb253) (o := .cells #[.int .i64 a0_0,.bool a0_1,.int .i64 a0_2,.string a0_3] 50 (0,0)) (by (with_reducible repeat (first | refine blk_drewN ?_ _ | refine blk_drew ?_ | refine blk_alloc ?_ _));exact BK253.out) hb);have n1_ := Aside0.mk (below_step (by repeat (first | (with_reducible first | exact HB.out | apply below_alloc | apply pw_below_drewN | apply below_drew1 | refine below_set ?_ GE253.out) | exact HB.out)) hb);have n2_ := Aside0.mk (hbox);have n3_ := Aside0.mk ((by rw [hg];exact (below_size (by repeat (first | (with_reducible first | exact HB.out | apply below_alloc | apply pw_below_drewN | apply below_drew1 | refine below_set ?_ GE253.out) | exact HB.out))) : w.heap.size ≤ gb254));have n4_ := Aside0.mk ((by rw [hg];exact (below_size (by repeat (first | (with_reducible first | exact HB.out | apply below_alloc | apply pw_below_drewN | apply below_drew1 | refine below_set ?_ GE253.out) | exact HB.out))) : w.heap.size ≤ gb254));have n5_ := Aside0.mk ((by rw [hg];exact Nat.ne_of_lt (blk_lt (g := gb253) (o := .cells #[.int .i64 a0_0,.bool a0_1,.int .i64 a0_2,.string a0_3] 50 (0,0)) (by (with_reducible repeat (first | refine blk_drewN ?_ _ | refine blk_drew ?_ | refine blk_alloc ?_ _));exact BK253.out)) : gb253 ≠ gb254));have n6_ := Aside0.mk ((by rw [hg];exact Nat.ne_of_gt (blk_lt (g := gb253) (o := .cells #[.int .i64 a0_0,.bool a0_1,.int .i64 a0_2,.string a0_3] 50 (0,0)) (by (with_reducible repeat (first | refine blk_drewN ?_ _ | refine blk_drew ?_ | refine blk_alloc ?_ _));exact BK253.out)) : gb254 ≠ gb253));clear BK253;clear HB;have BK253 := n0_;have HB := n1_;have BK254 := n2_;have GW254 := n3_;have GE254 := n4_;have NB253_254 := n5_;have NB254_253 := n6_;clear n0_ n1_ n2_ n3_ n4_ n5_ n6_;clear hb hbox hg;have hnb12 := NB253_254.out;have hnc12 := NB254_253.out;have hcz13_0 : w11.cell? ⟨gb253,0,none⟩ = some (.int .i64 a0_0) := (blk_cell BK253.out 0).trans rfl;have hcz13_1 : w11.cell? ⟨gb253,1,none⟩ = some (.bool a0_1) := (blk_cell BK253.out 1).trans rfl;have hcz13_2 : w11.cell? ⟨gb253,2,none⟩ = some (.int .i64 a0_2) := (blk_cell BK253.out 2).trans rfl;have hcz13_3 : w11.cell? ⟨gb253,3,none⟩ = some (.string a0_3) := (blk_cell BK253.out 3).trans rfl;have hfz13_0 := blk_frozen BK253.out 0;have hfz13_1 := blk_frozen BK253.out 1;have hfz13_2 := blk_frozen BK253.out 2;have hfz13_3 := blk_frozen BK253.out 3;have hcz14_0 : w11.cell? ⟨gb254,0,none⟩ = some (.int .i64 a1_0) := (blk_cell BK254.out 0).trans rfl;have hcz14_1 : w11.cell? ⟨gb254,1,none⟩ = some (.bool a1_1) := (blk_cell BK254.out 1).trans rfl;have hcz14_2 : w11.cell? ⟨gb254,2,none⟩ = some (.int .i64 a1_2) := (blk_cell BK254.out 2).trans rfl;have hcz14_3 : w11.cell? ⟨gb254,3,none⟩ = some (.string a1_3) := (blk_cell BK254.out 3).trans rfl;have hfz14_0 := blk_frozen BK254.out 0;have hfz14_1 := blk_frozen BK254.out 1;have hfz14_2 := blk_frozen BK254.out 2;have hfz14_3 := blk_frozen BK254.out 3))
      go_ret
      exact ⟨by first | rfl | (simp [errW_none,errW_some] <;> rfl) | (simp [*,errW_none,errW_some] <;> rfl),by repeat (first | (with_reducible first | exact HB.out | apply below_alloc | apply pw_below_drewN | apply below_drew1 | refine below_set ?_ GE253.out | refine below_set ?_ GE254.out) | exact HB.out)⟩
    · rw [if_neg c9] at H
      have c9b0 : decide (a1_0 < a0_0) = false := decide_eq_false c9
      clear c9
      by_cases c15 : a0_0 = 1
      · rw [if_pos c15] at H
        have c15b0 : (a0_0 == 1) = true := beq_iff_eq.mpr c15
        have c15b1 : (a0_0 != 1) = false := bne_eq_false_iff_eq.mpr c15
        clear c15
        by_cases c16 : (a0_1 == a1_1) = true
        · rw [if_pos c16] at H
          have c16b0 : (a0_1 == a1_1) = true := c16
          (try (have c16b1 : decide (a0_1 = a1_1) = true := by simpa using c16))
          (try (have c16b2 : (a0_1 == a1_1) = true := by simpa using c16))
          clear c16
          obtain rfl := Option.some.inj H
          go_enter Try.func49,Try.ntmps49
          go_wp2_with (first | ((with_reducible refine gate_dst (N := 2) rfl ?_);refine box_event ?hg (N := 2) ?hd (cs := #[.int .i64 a0_0,.bool a0_1,.int .i64 a0_2,.string a0_3]) (t := 50) ?hr ?_;(case hd => rfl);(case hg => rfl);(case hr => first | (go_simp;done) | (go_simp;rfl));intro gb253 hg w17 hbox hb;have n0_ := Aside0.mk (below_step (by repeat (first | (with_reducible first | exact HB.out | apply below_alloc | apply pw_below_drewN | apply below_drew1) | exact HB.out)) hb);have n1_ := Aside0.mk (hbox);have n2_ := Aside0.mk ((by rw [hg];exact (below_size (by repeat (first | (with_reducible first | exact HB.out | apply below_alloc | apply pw_below_drewN | apply below_drew1) | exact HB.out))) : w.heap.size ≤ gb253));have n3_ := Aside0.mk ((by rw [hg];exact (below_size (by repeat (first | (with_reducible first | exact HB.out | apply below_alloc | apply pw_below_drewN | apply below_drew1) | exact HB.out))) : w.heap.size ≤ gb253));clear HB;have HB := n0_;have BK253 := n1_;have GW253 := n2_;have GE253 := n3_;clear n0_ n1_ n2_ n3_;clear hb hbox hg) | ((with_reducible refine gate_dst (N := 3) rfl ?_);refine box_event ?hg (N := 3) ?hd (cs := #[.int .i64 a1_0,.bool a1_1,.int .i64 a1_2,.string a1_3]) (t := 50) ?hr ?_;(case hd => rfl);(case hg => rfl);(case hr => first | (go_simp;done) | (go_simp;rfl));intro gb254 hg w18 hbox hb;have n0_ := Aside0.mk (blk_below (g := gb253) (o := .cells #[.int .i64 a0_0,.bool a0_1,.int .i64 a0_2,.string a0_3] 50 (0,0)) (by (with_reducible repeat (first | refine blk_drewN ?_ _ | refine blk_drew ?_ | refine blk_alloc ?_ _));exact BK253.out) hb);have n1_ := Aside0.mk (below_step (by repeat (first | (with_reducible first | exact HB.out | apply below_alloc | apply pw_below_drewN | apply below_drew1 | refine below_set ?_ GE253.out) | exact HB.out)) hb);have n2_ := Aside0.mk (hbox);have n3_ := Aside0.mk ((by rw [hg];exact (below_size (by repeat (first | (with_reducible first | exact HB.out | apply below_alloc | apply pw_below_drewN | apply below_drew1 | refine below_set ?_ GE253.out) | exact HB.out))) : w.heap.size ≤ gb254));have n4_ := Aside0.mk ((by rw [hg];exact (below_size (by repeat (first | (with_reducible first | exact HB.out | apply below_alloc | apply pw_below_drewN | apply below_drew1 | refine below_set ?_ GE253.out) | exact HB.out))) : w.heap.size ≤ gb254));have n5_ := Aside0.mk ((by rw [hg];exact Nat.ne_of_lt (blk_lt (g := gb253) (o := .cells #[.int .i64 a0_0,.bool a0_1,.int .i64 a0_2,.string a0_3] 50 (0,0)) (by (with_reducible repeat (first | refine blk_drewN ?_ _ | refine blk_drew ?_ | refine blk_alloc ?_ _));exact BK253.out)) : gb253 ≠ gb254));have n6_ := Aside0.mk ((by rw [hg];exact Nat.ne_of_gt (blk_lt (g := gb253) (o := .cells #[.int .i64 a0_0,.bool a0_1,.int .i64 a0_2,.string a0_3] 50 (0,0)) (by (with_reducible repeat (first | refine blk_drewN ?_ _ | refine blk_drew ?_ | refine blk_alloc ?_ _));exact BK253.out)) : gb254 ≠ gb253));clear BK253;clear HB;have BK253 := n0_;have HB := n1_;have BK254 := n2_;have GW254 := n3_;have GE254 := n4_;have NB253_254 := n5_;have NB254_253 := n6_;clear n0_ n1_ n2_ n3_ n4_ n5_ n6_;clear hb hbox hg;have hnb19 := NB253_254.out;have hnc19 := NB254_253.out;have hcz20_0 : w18.cell? ⟨gb253,0,none⟩ = some (.int .i64 a0_0) := (blk_cell BK253.out 0).trans rfl;have hcz20_1 : w18.cell? ⟨gb253,1,none⟩ = some (.bool a0_1) := (blk_cell BK253.out 1).trans rfl;have hcz20_2 : w18.cell? ⟨gb253,2,none⟩ = some (.int .i64 a0_2) := (blk_cell BK253.out 2).trans rfl;have hcz20_3 : w18.cell? ⟨gb253,3,none⟩ = some (.string a0_3) := (blk_cell BK253.out 3).trans rfl;have hfz20_0 := blk_frozen BK253.out 0;have hfz20_1 := blk_frozen BK253.out 1;have hfz20_2 := blk_frozen BK253.out 2;have hfz20_3 := blk_frozen BK253.out 3;have hcz21_0 : w18.cell? ⟨gb254,0,none⟩ = some (.int .i64 a1_0) := (blk_cell BK254.out 0).trans rfl;have hcz21_1 : w18.cell? ⟨gb254,1,none⟩ = some (.bool a1_1) := (blk_cell BK254.out 1).trans rfl;have hcz21_2 : w18.cell? ⟨gb254,2,none⟩ = some (.int .i64 a1_2) := (blk_cell BK254.out 2).trans rfl;have hcz21_3 : w18.cell? ⟨gb254,3,none⟩ = some (.string a1_3) := (blk_cell BK254.out 3).trans rfl;have hfz21_0 := blk_frozen BK254.out 0;have hfz21_1 := blk_frozen BK254.out 1;have hfz21_2 := blk_frozen BK254.out 2;have hfz21_3 := blk_frozen BK254.out 3))
          go_ret
          exact ⟨by first | rfl | (simp [errW_none,errW_some] <;> rfl) | (simp [*,errW_none,errW_some] <;> rfl),by repeat (first | (with_reducible first | exact HB.out | apply below_alloc | apply pw_below_drewN | apply below_drew1 | refine below_set ?_ GE253.out | refine below_set ?_ GE254.out) | exact HB.out)⟩
        · rw [if_neg c16] at H
          have c16b0 : (a0_1 == a1_1) = false := by simpa using c16
          (try (have c16b1 : decide (a0_1 = a1_1) = false := by simpa using c16))
          (try (have c16b2 : (a0_1 == a1_1) = false := by simpa using c16))
          (try (have c16b3 : ¬ (a0_1 = a1_1) := by simpa using c16))
          clear c16
          by_cases c22 : a1_1 = true
          · subst c22
            have H1 : (some (-1)) = some r := by rw [if_pos rfl] at H;exact H
            clear H
            have H := H1
            clear H1
            obtain rfl := Option.some.inj H
            go_enter Try.func49,Try.ntmps49
            go_wp2_with (first | ((with_reducible refine gate_dst (N := 2) rfl ?_);refine box_event ?hg (N := 2) ?hd (cs := #[.int .i64 a0_0,.bool a0_1,.int .i64 a0_2,.string a0_3]) (t := 50) ?hr ?_;(case hd => rfl);(case hg => rfl);(case hr => first | (go_simp;done) | (go_simp;rfl));intro gb253 hg w23 hbox hb;have n0_ := Aside0.mk (below_step (by repeat (first | (with_reducible first | exact HB.out | apply below_alloc | apply pw_below_drewN | apply below_drew1) | exact HB.out)) hb);have n1_ := Aside0.mk (hbox);have n2_ := Aside0.mk ((by rw [hg];exact (below_size (by repeat (first | (with_reducible first | exact HB.out | apply below_alloc | apply pw_below_drewN | apply below_drew1) | exact HB.out))) : w.heap.size ≤ gb253));have n3_ := Aside0.mk ((by rw [hg];exact (below_size (by repeat (first | (with_reducible first | exact HB.out | apply below_alloc | apply pw_below_drewN | apply below_drew1) | exact HB.out))) : w.heap.size ≤ gb253));clear HB;have HB := n0_;have BK253 := n1_;have GW253 := n2_;have GE253 := n3_;clear n0_ n1_ n2_ n3_;clear hb hbox hg) | ((with_reducible refine gate_dst (N := 3) rfl ?_);refine box_event ?hg (N := 3) ?hd (cs := #[.int .i64 a1_0,.bool true,.int .i64 a1_2,.string a1_3]) (t := 50) ?hr ?_;(case hd => rfl);(case hg => rfl);(case hr => first | (go_simp;done) | (go_simp;rfl));intro gb254 hg w24 hbox hb;have n0_ := Aside0.mk (blk_below (g := gb253) (o := .cells #[.int .i64 a0_0,.bool a0_1,.int .i64 a0_2,.string a0_3] 50 (0,0)) (by (with_reducible repeat (first | refine blk_drewN ?_ _ | refine blk_drew ?_ | refine blk_alloc ?_ _));exact BK253.out) hb);have n1_ := Aside0.mk (below_step (by repeat (first | (with_reducible first | exact HB.out | apply below_alloc | apply pw_below_drewN | apply below_drew1 | refine below_set ?_ GE253.out) | exact HB.out)) hb);have n2_ := Aside0.mk (hbox);have n3_ := Aside0.mk ((by rw [hg];exact (below_size (by repeat (first | (with_reducible first | exact HB.out | apply below_alloc | apply pw_below_drewN | apply below_drew1 | refine below_set ?_ GE253.out) | exact HB.out))) : w.heap.size ≤ gb254));have n4_ := Aside0.mk ((by rw [hg];exact (below_size (by repeat (first | (with_reducible first | exact HB.out | apply below_alloc | apply pw_below_drewN | apply below_drew1 | refine below_set ?_ GE253.out) | exact HB.out))) : w.heap.size ≤ gb254));have n5_ := Aside0.mk ((by rw [hg];exact Nat.ne_of_lt (blk_lt (g := gb253) (o := .cells #[.int .i64 a0_0,.bool a0_1,.int .i64 a0_2,.string a0_3] 50 (0,0)) (by (with_reducible repeat (first | refine blk_drewN ?_ _ | refine blk_drew ?_ | refine blk_alloc ?_ _));exact BK253.out)) : gb253 ≠ gb254));have n6_ := Aside0.mk ((by rw [hg];exact Nat.ne_of_gt (blk_lt (g := gb253) (o := .cells #[.int .i64 a0_0,.bool a0_1,.int .i64 a0_2,.string a0_3] 50 (0,0)) (by (with_reducible repeat (first | refine blk_drewN ?_ _ | refine blk_drew ?_ | refine blk_alloc ?_ _));exact BK253.out)) : gb254 ≠ gb253));clear BK253;clear HB;have BK253 := n0_;have HB := n1_;have BK254 := n2_;have GW254 := n3_;have GE254 := n4_;have NB253_254 := n5_;have NB254_253 := n6_;clear n0_ n1_ n2_ n3_ n4_ n5_ n6_;clear hb hbox hg;have hnb25 := NB253_254.out;have hnc25 := NB254_253.out;have hcz26_0 : w24.cell? ⟨gb253,0,none⟩ = some (.int .i64 a0_0) := (blk_cell BK253.out 0).trans rfl;have hcz26_1 : w24.cell? ⟨gb253,1,none⟩ = some (.bool a0_1) := (blk_cell BK253.out 1).trans rfl;have hcz26_2 : w24.cell? ⟨gb253,2,none⟩ = some (.int .i64 a0_2) := (blk_cell BK253.out 2).trans rfl;have hcz26_3 : w24.cell? ⟨gb253,3,none⟩ = some (.string a0_3) := (blk_cell BK253.out 3).trans rfl;have hfz26_0 := blk_frozen BK253.out 0;have hfz26_1 := blk_frozen BK253.out 1;have hfz26_2 := blk_frozen BK253.out 2;have hfz26_3 := blk_frozen BK253.out 3;have hcz27_0 : w24.cell? ⟨gb254,0,none⟩ = some (.int .i64 a1_0) := (blk_cell BK254.out 0).trans rfl;have hcz27_1 : w24.cell? ⟨gb254,1,none⟩ = some (.bool true) := (blk_cell BK254.out 1).trans rfl;have hcz27_2 : w24.cell? ⟨gb254,2,none⟩ = some (.int .i64 a1_2) := (blk_cell BK254.out 2).trans rfl;have hcz27_3 : w24.cell? ⟨gb254,3,none⟩ = some (.string a1_3) := (blk_cell BK254.out 3).trans rfl;have hfz27_0 := blk_frozen BK254.out 0;have hfz27_1 := blk_frozen BK254.out 1;have hfz27_2 := blk_frozen BK254.out 2;have hfz27_3 := blk_frozen BK254.out 3))
            go_ret
            exact ⟨by first | rfl | (simp [errW_none,errW_some] <;> rfl) | (simp [*,errW_none,errW_some] <;> rfl),by repeat (first | (with_reducible first | exact HB.out | apply below_alloc | apply pw_below_drewN | apply below_drew1 | refine below_set ?_ GE253.out | refine below_set ?_ GE254.out) | exact HB.out)⟩
          · replace c22 := Bool.eq_false_iff.mpr c22
            subst c22
            have H1 : (some 1) = some r := by rw [if_neg (show ¬ (false = true) by decide)] at H;exact H
            clear H
            have H := H1
            clear H1
            obtain rfl := Option.some.inj H
            go_enter Try.func49,Try.ntmps49
            go_wp2_with (first | ((with_reducible refine gate_dst (N := 2) rfl ?_);refine box_event ?hg (N := 2) ?hd (cs := #[.int .i64 a0_0,.bool a0_1,.int .i64 a0_2,.string a0_3]) (t := 50) ?hr ?_;(case hd => rfl);(case hg => rfl);(case hr => first | (go_simp;done) | (go_simp;rfl));intro gb253 hg w28 hbox hb;have n0_ := Aside0.mk (below_step (by repeat (first | (with_reducible first | exact HB.out | apply below_alloc | apply pw_below_drewN | apply below_drew1) | exact HB.out)) hb);have n1_ := Aside0.mk (hbox);have n2_ := Aside0.mk ((by rw [hg];exact (below_size (by repeat (first | (with_reducible first | exact HB.out | apply below_alloc | apply pw_below_drewN | apply below_drew1) | exact HB.out))) : w.heap.size ≤ gb253));have n3_ := Aside0.mk ((by rw [hg];exact (below_size (by repeat (first | (with_reducible first | exact HB.out | apply below_alloc | apply pw_below_drewN | apply below_drew1) | exact HB.out))) : w.heap.size ≤ gb253));clear HB;have HB := n0_;have BK253 := n1_;have GW253 := n2_;have GE253 := n3_;clear n0_ n1_ n2_ n3_;clear hb hbox hg) | ((with_reducible refine gate_dst (N := 3) rfl ?_);refine box_event ?hg (N := 3) ?hd (cs := #[.int .i64 a1_0,.bool false,.int .i64 a1_2,.string a1_3]) (t := 50) ?hr ?_;(case hd => rfl);(case hg => rfl);(case hr => first | (go_simp;done) | (go_simp;rfl));intro gb254 hg w29 hbox hb;have n0_ := Aside0.mk (blk_below (g := gb253) (o := .cells #[.int .i64 a0_0,.bool a0_1,.int .i64 a0_2,.string a0_3] 50 (0,0)) (by (with_reducible repeat (first | refine blk_drewN ?_ _ | refine blk_drew ?_ | refine blk_alloc ?_ _));exact BK253.out) hb);have n1_ := Aside0.mk (below_step (by repeat (first | (with_reducible first | exact HB.out | apply below_alloc | apply pw_below_drewN | apply below_drew1 | refine below_set ?_ GE253.out) | exact HB.out)) hb);have n2_ := Aside0.mk (hbox);have n3_ := Aside0.mk ((by rw [hg];exact (below_size (by repeat (first | (with_reducible first | exact HB.out | apply below_alloc | apply pw_below_drewN | apply below_drew1 | refine below_set ?_ GE253.out) | exact HB.out))) : w.heap.size ≤ gb254));have n4_ := Aside0.mk ((by rw [hg];exact (below_size (by repeat (first | (with_reducible first | exact HB.out | apply below_alloc | apply pw_below_drewN | apply below_drew1 | refine below_set ?_ GE253.out) | exact HB.out))) : w.heap.size ≤ gb254));have n5_ := Aside0.mk ((by rw [hg];exact Nat.ne_of_lt (blk_lt (g := gb253) (o := .cells #[.int .i64 a0_0,.bool a0_1,.int .i64 a0_2,.string a0_3] 50 (0,0)) (by (with_reducible repeat (first | refine blk_drewN ?_ _ | refine blk_drew ?_ | refine blk_alloc ?_ _));exact BK253.out)) : gb253 ≠ gb254));have n6_ := Aside0.mk ((by rw [hg];exact Nat.ne_of_gt (blk_lt (g := gb253) (o := .cells #[.int .i64 a0_0,.bool a0_1,.int .i64 a0_2,.string a0_3] 50 (0,0)) (by (with_reducible repeat (first | refine blk_drewN ?_ _ | refine blk_drew ?_ | refine blk_alloc ?_ _));exact BK253.out)) : gb254 ≠ gb253));clear BK253;clear HB;have BK253 := n0_;have HB := n1_;have BK254 := n2_;have GW254 := n3_;have GE254 := n4_;have NB253_254 := n5_;have NB254_253 := n6_;clear n0_ n1_ n2_ n3_ n4_ n5_ n6_;clear hb hbox hg;have hnb30 := NB253_254.out;have hnc30 := NB254_253.out;have hcz31_0 : w29.cell? ⟨gb253,0,none⟩ = some (.int .i64 a0_0) := (blk_cell BK253.out 0).trans rfl;have hcz31_1 : w29.cell? ⟨gb253,1,none⟩ = some (.bool a0_1) := (blk_cell BK253.out 1).trans rfl;have hcz31_2 : w29.cell? ⟨gb253,2,none⟩ = some (.int .i64 a0_2) := (blk_cell BK253.out 2).trans rfl;have hcz31_3 : w29.cell? ⟨gb253,3,none⟩ = some (.string a0_3) := (blk_cell BK253.out 3).trans rfl;have hfz31_0 := blk_frozen BK253.out 0;have hfz31_1 := blk_frozen BK253.out 1;have hfz31_2 := blk_frozen BK253.out 2;have hfz31_3 := blk_frozen BK253.out 3;have hcz32_0 : w29.cell? ⟨gb254,0,none⟩ = some (.int .i64 a1_0) := (blk_cell BK254.out 0).trans rfl;have hcz32_1 : w29.cell? ⟨gb254,1,none⟩ = some (.bool false) := (blk_cell BK254.out 1).trans rfl;have hcz32_2 : w29.cell? ⟨gb254,2,none⟩ = some (.int .i64 a1_2) := (blk_cell BK254.out 2).trans rfl;have hcz32_3 : w29.cell? ⟨gb254,3,none⟩ = some (.string a1_3) := (blk_cell BK254.out 3).trans rfl;have hfz32_0 := blk_frozen BK254.out 0;have hfz32_1 := blk_frozen BK254.out 1;have hfz32_2 := blk_frozen BK254.out 2;have hfz32_3 := blk_frozen BK254.out 3))
            go_ret
            exact ⟨by first | rfl | (simp [errW_none,errW_some] <;> rfl) | (simp [*,errW_none,errW_some] <;> rfl),by repeat (first | (with_reducible first | exact HB.out | apply below_alloc | apply pw_below_drewN | apply below_drew1 | refine below_set ?_ GE253.out | refine below_set ?_ GE254.out) | exact HB.out)⟩
      · rw [if_neg c15] at H
        have c15b0 : (a0_0 == 1) = false := beq_eq_false_iff_ne.mpr c15
        have c15b1 : (a0_0 != 1) = true := bne_iff_ne.mpr c15
        by_cases c33 : a0_0 = 2
        · rw [if_pos c33] at H
          have c33b0 : (a0_0 == 2) = true := beq_iff_eq.mpr c33
          have c33b1 : (a0_0 != 2) = false := bne_eq_false_iff_eq.mpr c33
          clear c33
          by_cases c34 : a0_2 < a1_2
          · rw [if_pos c34] at H
            have c34b0 : decide (a0_2 < a1_2) = true := decide_eq_true c34
            clear c34
            obtain rfl := Option.some.inj H
            go_enter Try.func49,Try.ntmps49
            go_wp2_with (first | ((with_reducible refine gate_dst (N := 2) rfl ?_);refine box_event ?hg (N := 2) ?hd (cs := #[.int .i64 a0_0,.bool a0_1,.int .i64 a0_2,.string a0_3]) (t := 50) ?hr ?_;(case hd => rfl);(case hg => rfl);(case hr => first | (go_simp;done) | (go_simp;rfl));intro gb253 hg w35 hbox hb;have n0_ := Aside0.mk (below_step (by repeat (first | (with_reducible first | exact HB.out | apply below_alloc | apply pw_below_drewN | apply below_drew1) | exact HB.out)) hb);have n1_ := Aside0.mk (hbox);have n2_ := Aside0.mk ((by rw [hg];exact (below_size (by repeat (first | (with_reducible first | exact HB.out | apply below_alloc | apply pw_below_drewN | apply below_drew1) | exact HB.out))) : w.heap.size ≤ gb253));have n3_ := Aside0.mk ((by rw [hg];exact (below_size (by repeat (first | (with_reducible first | exact HB.out | apply below_alloc | apply pw_below_drewN | apply below_drew1) | exact HB.out))) : w.heap.size ≤ gb253));clear HB;have HB := n0_;have BK253 := n1_;have GW253 := n2_;have GE253 := n3_;clear n0_ n1_ n2_ n3_;clear hb hbox hg) | ((with_reducible refine gate_dst (N := 3) rfl ?_);refine box_event ?hg (N := 3) ?hd (cs := #[.int .i64 a1_0,.bool a1_1,.int .i64 a1_2,.string a1_3]) (t := 50) ?hr ?_;(case hd => rfl);(case hg => rfl);(case hr => first | (go_simp;done) | (go_simp;rfl));intro gb254 hg w36 hbox hb;have n0_ := Aside0.mk (blk_below (g := gb253) (o := .cells #[.int .i64 a0_0,.bool a0_1,.int .i64 a0_2,.string a0_3] 50 (0,0)) (by (with_reducible repeat (first | refine blk_drewN ?_ _ | refine blk_drew ?_ | refine blk_alloc ?_ _));exact BK253.out) hb);have n1_ := Aside0.mk (below_step (by repeat (first | (with_reducible first | exact HB.out | apply below_alloc | apply pw_below_drewN | apply below_drew1 | refine below_set ?_ GE253.out) | exact HB.out)) hb);have n2_ := Aside0.mk (hbox);have n3_ := Aside0.mk ((by rw [hg];exact (below_size (by repeat (first | (with_reducible first | exact HB.out | apply below_alloc | apply pw_below_drewN | apply below_drew1 | refine below_set ?_ GE253.out) | exact HB.out))) : w.heap.size ≤ gb254));have n4_ := Aside0.mk ((by rw [hg];exact (below_size (by repeat (first | (with_reducible first | exact HB.out | apply below_alloc | apply pw_below_drewN | apply below_drew1 | refine below_set ?_ GE253.out) | exact HB.out))) : w.heap.size ≤ gb254));have n5_ := Aside0.mk ((by rw [hg];exact Nat.ne_of_lt (blk_lt (g := gb253) (o := .cells #[.int .i64 a0_0,.bool a0_1,.int .i64 a0_2,.string a0_3] 50 (0,0)) (by (with_reducible repeat (first | refine blk_drewN ?_ _ | refine blk_drew ?_ | refine blk_alloc ?_ _));exact BK253.out)) : gb253 ≠ gb254));have n6_ := Aside0.mk ((by rw [hg];exact Nat.ne_of_gt (blk_lt (g := gb253) (o := .cells #[.int .i64 a0_0,.bool a0_1,.int .i64 a0_2,.string a0_3] 50 (0,0)) (by (with_reducible repeat (first | refine blk_drewN ?_ _ | refine blk_drew ?_ | refine blk_alloc ?_ _));exact BK253.out)) : gb254 ≠ gb253));clear BK253;clear HB;have BK253 := n0_;have HB := n1_;have BK254 := n2_;have GW254 := n3_;have GE254 := n4_;have NB253_254 := n5_;have NB254_253 := n6_;clear n0_ n1_ n2_ n3_ n4_ n5_ n6_;clear hb hbox hg;have hnb37 := NB253_254.out;have hnc37 := NB254_253.out;have hcz38_0 : w36.cell? ⟨gb253,0,none⟩ = some (.int .i64 a0_0) := (blk_cell BK253.out 0).trans rfl;have hcz38_1 : w36.cell? ⟨gb253,1,none⟩ = some (.bool a0_1) := (blk_cell BK253.out 1).trans rfl;have hcz38_2 : w36.cell? ⟨gb253,2,none⟩ = some (.int .i64 a0_2) := (blk_cell BK253.out 2).trans rfl;have hcz38_3 : w36.cell? ⟨gb253,3,none⟩ = some (.string a0_3) := (blk_cell BK253.out 3).trans rfl;have hfz38_0 := blk_frozen BK253.out 0;have hfz38_1 := blk_frozen BK253.out 1;have hfz38_2 := blk_frozen BK253.out 2;have hfz38_3 := blk_frozen BK253.out 3;have hcz39_0 : w36.cell? ⟨gb254,0,none⟩ = some (.int .i64 a1_0) := (blk_cell BK254.out 0).trans rfl;have hcz39_1 : w36.cell? ⟨gb254,1,none⟩ = some (.bool a1_1) := (blk_cell BK254.out 1).trans rfl;have hcz39_2 : w36.cell? ⟨gb254,2,none⟩ = some (.int .i64 a1_2) := (blk_cell BK254.out 2).trans rfl;have hcz39_3 : w36.cell? ⟨gb254,3,none⟩ = some (.string a1_3) := (blk_cell BK254.out 3).trans rfl;have hfz39_0 := blk_frozen BK254.out 0;have hfz39_1 := blk_frozen BK254.out 1;have hfz39_2 := blk_frozen BK254.out 2;have hfz39_3 := blk_frozen BK254.out 3))
            go_ret
            exact ⟨by first | rfl | (simp [errW_none,errW_some] <;> rfl) | (simp [*,errW_none,errW_some] <;> rfl),by repeat (first | (with_reducible first | exact HB.out | apply below_alloc | apply pw_below_drewN | apply below_drew1 | refine below_set ?_ GE253.out | refine below_set ?_ GE254.out) | exact HB.out)⟩
          · rw [if_neg c34] at H
            have c34b0 : decide (a0_2 < a1_2) = false := decide_eq_false c34
            clear c34
            by_cases c40 : a0_2 > a1_2
            · rw [if_pos c40] at H
              have c40b0 : decide (a1_2 < a0_2) = true := decide_eq_true c40
              clear c40
              obtain rfl := Option.some.inj H
              go_enter Try.func49,Try.ntmps49
              go_wp2_with (first | ((with_reducible refine gate_dst (N := 2) rfl ?_);refine box_event ?hg (N := 2) ?hd (cs := #[.int .i64 a0_0,.bool a0_1,.int .i64 a0_2,.string a0_3]) (t := 50) ?hr ?_;(case hd => rfl);(case hg => rfl);(case hr => first | (go_simp;done) | (go_simp;rfl));intro gb253 hg w41 hbox hb;have n0_ := Aside0.mk (below_step (by repeat (first | (with_reducible first | exact HB.out | apply below_alloc | apply pw_below_drewN | apply below_drew1) | exact HB.out)) hb);have n1_ := Aside0.mk (hbox);have n2_ := Aside0.mk ((by rw [hg];exact (below_size (by repeat (first | (with_reducible first | exact HB.out | apply below_alloc | apply pw_below_drewN | apply below_drew1) | exact HB.out))) : w.heap.size ≤ gb253));have n3_ := Aside0.mk ((by rw [hg];exact (below_size (by repeat (first | (with_reducible first | exact HB.out | apply below_alloc | apply pw_below_drewN | apply below_drew1) | exact HB.out))) : w.heap.size ≤ gb253));clear HB;have HB := n0_;have BK253 := n1_;have GW253 := n2_;have GE253 := n3_;clear n0_ n1_ n2_ n3_;clear hb hbox hg) | ((with_reducible refine gate_dst (N := 3) rfl ?_);refine box_event ?hg (N := 3) ?hd (cs := #[.int .i64 a1_0,.bool a1_1,.int .i64 a1_2,.string a1_3]) (t := 50) ?hr ?_;(case hd => rfl);(case hg => rfl);(case hr => first | (go_simp;done) | (go_simp;rfl));intro gb254 hg w42 hbox hb;have n0_ := Aside0.mk (blk_below (g := gb253) (o := .cells #[.int .i64 a0_0,.bool a0_1,.int .i64 a0_2,.string a0_3] 50 (0,0)) (by (with_reducible repeat (first | refine blk_drewN ?_ _ | refine blk_drew ?_ | refine blk_alloc ?_ _));exact BK253.out) hb);have n1_ := Aside0.mk (below_step (by repeat (first | (with_reducible first | exact HB.out | apply below_alloc | apply pw_below_drewN | apply below_drew1 | refine below_set ?_ GE253.out) | exact HB.out)) hb);have n2_ := Aside0.mk (hbox);have n3_ := Aside0.mk ((by rw [hg];exact (below_size (by repeat (first | (with_reducible first | exact HB.out | apply below_alloc | apply pw_below_drewN | apply below_drew1 | refine below_set ?_ GE253.out) | exact HB.out))) : w.heap.size ≤ gb254));have n4_ := Aside0.mk ((by rw [hg];exact (below_size (by repeat (first | (with_reducible first | exact HB.out | apply below_alloc | apply pw_below_drewN | apply below_drew1 | refine below_set ?_ GE253.out) | exact HB.out))) : w.heap.size ≤ gb254));have n5_ := Aside0.mk ((by rw [hg];exact Nat.ne_of_lt (blk_lt (g := gb253) (o := .cells #[.int .i64 a0_0,.bool a0_1,.int .i64 a0_2,.string a0_3] 50 (0,0)) (by (with_reducible repeat (first | refine blk_drewN ?_ _ | refine blk_drew ?_ | refine blk_alloc ?_ _));exact BK253.out)) : gb253 ≠ gb254));have n6_ := Aside0.mk ((by rw [hg];exact Nat.ne_of_gt (blk_lt (g := gb253) (o := .cells #[.int .i64 a0_0,.bool a0_1,.int .i64 a0_2,.string a0_3] 50 (0,0)) (by (with_reducible repeat (first | refine blk_drewN ?_ _ | refine blk_drew ?_ | refine blk_alloc ?_ _));exact BK253.out)) : gb254 ≠ gb253));clear BK253;clear HB;have BK253 := n0_;have HB := n1_;have BK254 := n2_;have GW254 := n3_;have GE254 := n4_;have NB253_254 := n5_;have NB254_253 := n6_;clear n0_ n1_ n2_ n3_ n4_ n5_ n6_;clear hb hbox hg;have hnb43 := NB253_254.out;have hnc43 := NB254_253.out;have hcz44_0 : w42.cell? ⟨gb253,0,none⟩ = some (.int .i64 a0_0) := (blk_cell BK253.out 0).trans rfl;have hcz44_1 : w42.cell? ⟨gb253,1,none⟩ = some (.bool a0_1) := (blk_cell BK253.out 1).trans rfl;have hcz44_2 : w42.cell? ⟨gb253,2,none⟩ = some (.int .i64 a0_2) := (blk_cell BK253.out 2).trans rfl;have hcz44_3 : w42.cell? ⟨gb253,3,none⟩ = some (.string a0_3) := (blk_cell BK253.out 3).trans rfl;have hfz44_0 := blk_frozen BK253.out 0;have hfz44_1 := blk_frozen BK253.out 1;have hfz44_2 := blk_frozen BK253.out 2;have hfz44_3 := blk_frozen BK253.out 3;have hcz45_0 : w42.cell? ⟨gb254,0,none⟩ = some (.int .i64 a1_0) := (blk_cell BK254.out 0).trans rfl;have hcz45_1 : w42.cell? ⟨gb254,1,none⟩ = some (.bool a1_1) := (blk_cell BK254.out 1).trans rfl;have hcz45_2 : w42.cell? ⟨gb254,2,none⟩ = some (.int .i64 a1_2) := (blk_cell BK254.out 2).trans rfl;have hcz45_3 : w42.cell? ⟨gb254,3,none⟩ = some (.string a1_3) := (blk_cell BK254.out 3).trans rfl;have hfz45_0 := blk_frozen BK254.out 0;have hfz45_1 := blk_frozen BK254.out 1;have hfz45_2 := blk_frozen BK254.out 2;have hfz45_3 := blk_frozen BK254.out 3))
              go_ret
              exact ⟨by first | rfl | (simp [errW_none,errW_some] <;> rfl) | (simp [*,errW_none,errW_some] <;> rfl),by repeat (first | (with_reducible first | exact HB.out | apply below_alloc | apply pw_below_drewN | apply below_drew1 | refine below_set ?_ GE253.out | refine below_set ?_ GE254.out) | exact HB.out)⟩
            · rw [if_neg c40] at H
              have c40b0 : decide (a1_2 < a0_2) = false := decide_eq_false c40
              clear c40
              obtain rfl := Option.some.inj H
              go_enter Try.func49,Try.ntmps49
              go_wp2_with (first | ((with_reducible refine gate_dst (N := 2) rfl ?_);refine box_event ?hg (N := 2) ?hd (cs := #[.int .i64 a0_0,.bool a0_1,.int .i64 a0_2,.string a0_3]) (t := 50) ?hr ?_;(case hd => rfl);(case hg => rfl);(case hr => first | (go_simp;done) | (go_simp;rfl));intro gb253 hg w46 hbox hb;have n0_ := Aside0.mk (below_step (by repeat (first | (with_reducible first | exact HB.out | apply below_alloc | apply pw_below_drewN | apply below_drew1) | exact HB.out)) hb);have n1_ := Aside0.mk (hbox);have n2_ := Aside0.mk ((by rw [hg];exact (below_size (by repeat (first | (with_reducible first | exact HB.out | apply below_alloc | apply pw_below_drewN | apply below_drew1) | exact HB.out))) : w.heap.size ≤ gb253));have n3_ := Aside0.mk ((by rw [hg];exact (below_size (by repeat (first | (with_reducible first | exact HB.out | apply below_alloc | apply pw_below_drewN | apply below_drew1) | exact HB.out))) : w.heap.size ≤ gb253));clear HB;have HB := n0_;have BK253 := n1_;have GW253 := n2_;have GE253 := n3_;clear n0_ n1_ n2_ n3_;clear hb hbox hg) | ((with_reducible refine gate_dst (N := 3) rfl ?_);refine box_event ?hg (N := 3) ?hd (cs := #[.int .i64 a1_0,.bool a1_1,.int .i64 a1_2,.string a1_3]) (t := 50) ?hr ?_;(case hd => rfl);(case hg => rfl);(case hr => first | (go_simp;done) | (go_simp;rfl));intro gb254 hg w47 hbox hb;have n0_ := Aside0.mk (blk_below (g := gb253) (o := .cells #[.int .i64 a0_0,.bool a0_1,.int .i64 a0_2,.string a0_3] 50 (0,0)) (by (with_reducible repeat (first | refine blk_drewN ?_ _ | refine blk_drew ?_ | refine blk_alloc ?_ _));exact BK253.out) hb);have n1_ := Aside0.mk (below_step (by repeat (first | (with_reducible first | exact HB.out | apply below_alloc | apply pw_below_drewN | apply below_drew1 | refine below_set ?_ GE253.out) | exact HB.out)) hb);have n2_ := Aside0.mk (hbox);have n3_ := Aside0.mk ((by rw [hg];exact (below_size (by repeat (first | (with_reducible first | exact HB.out | apply below_alloc | apply pw_below_drewN | apply below_drew1 | refine below_set ?_ GE253.out) | exact HB.out))) : w.heap.size ≤ gb254));have n4_ := Aside0.mk ((by rw [hg];exact (below_size (by repeat (first | (with_reducible first | exact HB.out | apply below_alloc | apply pw_below_drewN | apply below_drew1 | refine below_set ?_ GE253.out) | exact HB.out))) : w.heap.size ≤ gb254));have n5_ := Aside0.mk ((by rw [hg];exact Nat.ne_of_lt (blk_lt (g := gb253) (o := .cells #[.int .i64 a0_0,.bool a0_1,.int .i64 a0_2,.string a0_3] 50 (0,0)) (by (with_reducible repeat (first | refine blk_drewN ?_ _ | refine blk_drew ?_ | refine blk_alloc ?_ _));exact BK253.out)) : gb253 ≠ gb254));have n6_ := Aside0.mk ((by rw [hg];exact Nat.ne_of_gt (blk_lt (g := gb253) (o := .cells #[.int .i64 a0_0,.bool a0_1,.int .i64 a0_2,.string a0_3] 50 (0,0)) (by (with_reducible repeat (first | refine blk_drewN ?_ _ | refine blk_drew ?_ | refine blk_alloc ?_ _));exact BK253.out)) : gb254 ≠ gb253));clear BK253;clear HB;have BK253 := n0_;have HB := n1_;have BK254 := n2_;have GW254 := n3_;have GE254 := n4_;have NB253_254 := n5_;have NB254_253 := n6_;clear n0_ n1_ n2_ n3_ n4_ n5_ n6_;clear hb hbox hg;have hnb48 := NB253_254.out;have hnc48 := NB254_253.out;have hcz49_0 : w47.cell? ⟨gb253,0,none⟩ = some (.int .i64 a0_0) := (blk_cell BK253.out 0).trans rfl;have hcz49_1 : w47.cell? ⟨gb253,1,none⟩ = some (.bool a0_1) := (blk_cell BK253.out 1).trans rfl;have hcz49_2 : w47.cell? ⟨gb253,2,none⟩ = some (.int .i64 a0_2) := (blk_cell BK253.out 2).trans rfl;have hcz49_3 : w47.cell? ⟨gb253,3,none⟩ = some (.string a0_3) := (blk_cell BK253.out 3).trans rfl;have hfz49_0 := blk_frozen BK253.out 0;have hfz49_1 := blk_frozen BK253.out 1;have hfz49_2 := blk_frozen BK253.out 2;have hfz49_3 := blk_frozen BK253.out 3;have hcz50_0 : w47.cell? ⟨gb254,0,none⟩ = some (.int .i64 a1_0) := (blk_cell BK254.out 0).trans rfl;have hcz50_1 : w47.cell? ⟨gb254,1,none⟩ = some (.bool a1_1) := (blk_cell BK254.out 1).trans rfl;have hcz50_2 : w47.cell? ⟨gb254,2,none⟩ = some (.int .i64 a1_2) := (blk_cell BK254.out 2).trans rfl;have hcz50_3 : w47.cell? ⟨gb254,3,none⟩ = some (.string a1_3) := (blk_cell BK254.out 3).trans rfl;have hfz50_0 := blk_frozen BK254.out 0;have hfz50_1 := blk_frozen BK254.out 1;have hfz50_2 := blk_frozen BK254.out 2;have hfz50_3 := blk_frozen BK254.out 3))
              go_ret
              exact ⟨by first | rfl | (simp [errW_none,errW_some] <;> rfl) | (simp [*,errW_none,errW_some] <;> rfl),by repeat (first | (with_reducible first | exact HB.out | apply below_alloc | apply pw_below_drewN | apply below_drew1 | refine below_set ?_ GE253.out | refine below_set ?_ GE254.out) | exact HB.out)⟩
        · rw [if_neg c33] at H
          have c33b0 : (a0_0 == 2) = false := beq_eq_false_iff_ne.mpr c33
          have c33b1 : (a0_0 != 2) = true := bne_iff_ne.mpr c33
          by_cases c51 : a0_0 = 3
          · rw [if_pos c51] at H
            have c51b0 : (a0_0 == 3) = true := beq_iff_eq.mpr c51
            have c51b1 : (a0_0 != 3) = false := bne_eq_false_iff_eq.mpr c51
            clear c51
            replace H := Option.bind_eq_some_iff.mp H
            obtain ⟨t255,A520,H⟩ := H
            replace H : (some t255) = some r := H
            have A52 := Aside0.mk A520
            clear A520
            obtain rfl := Option.some.inj H
            go_enter Try.func49,Try.ntmps49
            go_wp2_with (first | ((with_reducible refine gate_dst (N := 2) rfl ?_);refine box_event ?hg (N := 2) ?hd (cs := #[.int .i64 a0_0,.bool a0_1,.int .i64 a0_2,.string a0_3]) (t := 50) ?hr ?_;(case hd => rfl);(case hg => rfl);(case hr => first | (go_simp;done) | (go_simp;rfl));intro gb253 hg w53 hbox hb;have n0_ := Aside0.mk (below_step (by repeat (first | (with_reducible first | exact HB.out | apply below_alloc | apply pw_below_drewN | apply below_drew1) | exact HB.out)) hb);have n1_ := Aside0.mk (hbox);have n2_ := Aside0.mk ((by rw [hg];exact (below_size (by repeat (first | (with_reducible first | exact HB.out | apply below_alloc | apply pw_below_drewN | apply below_drew1) | exact HB.out))) : w.heap.size ≤ gb253));have n3_ := Aside0.mk ((by rw [hg];exact (below_size (by repeat (first | (with_reducible first | exact HB.out | apply below_alloc | apply pw_below_drewN | apply below_drew1) | exact HB.out))) : w.heap.size ≤ gb253));clear HB;have HB := n0_;have BK253 := n1_;have GW253 := n2_;have GE253 := n3_;clear n0_ n1_ n2_ n3_;clear hb hbox hg) | ((with_reducible refine gate_dst (N := 3) rfl ?_);refine box_event ?hg (N := 3) ?hd (cs := #[.int .i64 a1_0,.bool a1_1,.int .i64 a1_2,.string a1_3]) (t := 50) ?hr ?_;(case hd => rfl);(case hg => rfl);(case hr => first | (go_simp;done) | (go_simp;rfl));intro gb254 hg w54 hbox hb;have n0_ := Aside0.mk (blk_below (g := gb253) (o := .cells #[.int .i64 a0_0,.bool a0_1,.int .i64 a0_2,.string a0_3] 50 (0,0)) (by (with_reducible repeat (first | refine blk_drewN ?_ _ | refine blk_drew ?_ | refine blk_alloc ?_ _));exact BK253.out) hb);have n1_ := Aside0.mk (below_step (by repeat (first | (with_reducible first | exact HB.out | apply below_alloc | apply pw_below_drewN | apply below_drew1 | refine below_set ?_ GE253.out) | exact HB.out)) hb);have n2_ := Aside0.mk (hbox);have n3_ := Aside0.mk ((by rw [hg];exact (below_size (by repeat (first | (with_reducible first | exact HB.out | apply below_alloc | apply pw_below_drewN | apply below_drew1 | refine below_set ?_ GE253.out) | exact HB.out))) : w.heap.size ≤ gb254));have n4_ := Aside0.mk ((by rw [hg];exact (below_size (by repeat (first | (with_reducible first | exact HB.out | apply below_alloc | apply pw_below_drewN | apply below_drew1 | refine below_set ?_ GE253.out) | exact HB.out))) : w.heap.size ≤ gb254));have n5_ := Aside0.mk ((by rw [hg];exact Nat.ne_of_lt (blk_lt (g := gb253) (o := .cells #[.int .i64 a0_0,.bool a0_1,.int .i64 a0_2,.string a0_3] 50 (0,0)) (by (with_reducible repeat (first | refine blk_drewN ?_ _ | refine blk_drew ?_ | refine blk_alloc ?_ _));exact BK253.out)) : gb253 ≠ gb254));have n6_ := Aside0.mk ((by rw [hg];exact Nat.ne_of_gt (blk_lt (g := gb253) (o := .cells #[.int .i64 a0_0,.bool a0_1,.int .i64 a0_2,.string a0_3] 50 (0,0)) (by (with_reducible repeat (first | refine blk_drewN ?_ _ | refine blk_drew ?_ | refine blk_alloc ?_ _));exact BK253.out)) : gb254 ≠ gb253));clear BK253;clear HB;have BK253 := n0_;have HB := n1_;have BK254 := n2_;have GW254 := n3_;have GE254 := n4_;have NB253_254 := n5_;have NB254_253 := n6_;clear n0_ n1_ n2_ n3_ n4_ n5_ n6_;clear hb hbox hg;have hnb55 := NB253_254.out;have hnc55 := NB254_253.out;have hcz56_0 : w54.cell? ⟨gb253,0,none⟩ = some (.int .i64 a0_0) := (blk_cell BK253.out 0).trans rfl;have hcz56_1 : w54.cell? ⟨gb253,1,none⟩ = some (.bool a0_1) := (blk_cell BK253.out 1).trans rfl;have hcz56_2 : w54.cell? ⟨gb253,2,none⟩ = some (.int .i64 a0_2) := (blk_cell BK253.out 2).trans rfl;have hcz56_3 : w54.cell? ⟨gb253,3,none⟩ = some (.string a0_3) := (blk_cell BK253.out 3).trans rfl;have hfz56_0 := blk_frozen BK253.out 0;have hfz56_1 := blk_frozen BK253.out 1;have hfz56_2 := blk_frozen BK253.out 2;have hfz56_3 := blk_frozen BK253.out 3;have hcz57_0 : w54.cell? ⟨gb254,0,none⟩ = some (.int .i64 a1_0) := (blk_cell BK254.out 0).trans rfl;have hcz57_1 : w54.cell? ⟨gb254,1,none⟩ = some (.bool a1_1) := (blk_cell BK254.out 1).trans rfl;have hcz57_2 : w54.cell? ⟨gb254,2,none⟩ = some (.int .i64 a1_2) := (blk_cell BK254.out 2).trans rfl;have hcz57_3 : w54.cell? ⟨gb254,3,none⟩ = some (.string a1_3) := (blk_cell BK254.out 3).trans rfl;have hfz57_0 := blk_frozen BK254.out 0;have hfz57_1 := blk_frozen BK254.out 1;have hfz57_2 := blk_frozen BK254.out 2;have hfz57_3 := blk_frozen BK254.out 3) | ((with_reducible refine gate_callee (f := 41) rfl ?_);refine goesL_ (some 45) rfl rfl Try.func41 (by kernel_rfl) rfl #[.string a0_3,.string a1_3] rfl (by (try simp only [List.map_toArray,List.map_cons,List.map_nil]);first | done | rfl | (simp only [List.length_drop,List.length_take];rfl)) ?_;(with_reducible refine (verdererref01_Text.calls k a0_3 a1_3 t255 _ A52.out).mono ?_);rintro e w' ⟨rfl,⟨nd,rfl⟩⟩;refine ⟨_,rfl,?_⟩))
            go_ret
            exact ⟨by first | rfl | (simp [errW_none,errW_some] <;> rfl) | (simp [*,errW_none,errW_some] <;> rfl),by repeat (first | (with_reducible first | exact HB.out | apply below_alloc | apply pw_below_drewN | apply below_drew1 | refine below_set ?_ GE253.out | refine below_set ?_ GE254.out) | exact HB.out)⟩
          · rw [if_neg c51] at H
            have c51b0 : (a0_0 == 3) = false := beq_eq_false_iff_ne.mpr c51
            have c51b1 : (a0_0 != 3) = true := bne_iff_ne.mpr c51
            obtain rfl := Option.some.inj H
            go_enter Try.func49,Try.ntmps49
            go_wp2_with (first | ((with_reducible refine gate_dst (N := 2) rfl ?_);refine box_event ?hg (N := 2) ?hd (cs := #[.int .i64 a0_0,.bool a0_1,.int .i64 a0_2,.string a0_3]) (t := 50) ?hr ?_;(case hd => rfl);(case hg => rfl);(case hr => first | (go_simp;done) | (go_simp;rfl));intro gb253 hg w58 hbox hb;have n0_ := Aside0.mk (below_step (by repeat (first | (with_reducible first | exact HB.out | apply below_alloc | apply pw_below_drewN | apply below_drew1) | exact HB.out)) hb);have n1_ := Aside0.mk (hbox);have n2_ := Aside0.mk ((by rw [hg];exact (below_size (by repeat (first | (with_reducible first | exact HB.out | apply below_alloc | apply pw_below_drewN | apply below_drew1) | exact HB.out))) : w.heap.size ≤ gb253));have n3_ := Aside0.mk ((by rw [hg];exact (below_size (by repeat (first | (with_reducible first | exact HB.out | apply below_alloc | apply pw_below_drewN | apply below_drew1) | exact HB.out))) : w.heap.size ≤ gb253));clear HB;have HB := n0_;have BK253 := n1_;have GW253 := n2_;have GE253 := n3_;clear n0_ n1_ n2_ n3_;clear hb hbox hg) | ((with_reducible refine gate_dst (N := 3) rfl ?_);refine box_event ?hg (N := 3) ?hd (cs := #[.int .i64 a1_0,.bool a1_1,.int .i64 a1_2,.string a1_3]) (t := 50) ?hr ?_;(case hd => rfl);(case hg => rfl);(case hr => first | (go_simp;done) | (go_simp;rfl));intro gb254 hg w59 hbox hb;have n0_ := Aside0.mk (blk_below (g := gb253) (o := .cells #[.int .i64 a0_0,.bool a0_1,.int .i64 a0_2,.string a0_3] 50 (0,0)) (by (with_reducible repeat (first | refine blk_drewN ?_ _ | refine blk_drew ?_ | refine blk_alloc ?_ _));exact BK253.out) hb);have n1_ := Aside0.mk (below_step (by repeat (first | (with_reducible first | exact HB.out | apply below_alloc | apply pw_below_drewN | apply below_drew1 | refine below_set ?_ GE253.out) | exact HB.out)) hb);have n2_ := Aside0.mk (hbox);have n3_ := Aside0.mk ((by rw [hg];exact (below_size (by repeat (first | (with_reducible first | exact HB.out | apply below_alloc | apply pw_below_drewN | apply below_drew1 | refine below_set ?_ GE253.out) | exact HB.out))) : w.heap.size ≤ gb254));have n4_ := Aside0.mk ((by rw [hg];exact (below_size (by repeat (first | (with_reducible first | exact HB.out | apply below_alloc | apply pw_below_drewN | apply below_drew1 | refine below_set ?_ GE253.out) | exact HB.out))) : w.heap.size ≤ gb254));have n5_ := Aside0.mk ((by rw [hg];exact Nat.ne_of_lt (blk_lt (g := gb253) (o := .cells #[.int .i64 a0_0,.bool a0_1,.int .i64 a0_2,.string a0_3] 50 (0,0)) (by (with_reducible repeat (first | refine blk_drewN ?_ _ | refine blk_drew ?_ | refine blk_alloc ?_ _));exact BK253.out)) : gb253 ≠ gb254));have n6_ := Aside0.mk ((by rw [hg];exact Nat.ne_of_gt (blk_lt (g := gb253) (o := .cells #[.int .i64 a0_0,.bool a0_1,.int .i64 a0_2,.string a0_3] 50 (0,0)) (by (with_reducible repeat (first | refine blk_drewN ?_ _ | refine blk_drew ?_ | refine blk_alloc ?_ _));exact BK253.out)) : gb254 ≠ gb253));clear BK253;clear HB;have BK253 := n0_;have HB := n1_;have BK254 := n2_;have GW254 := n3_;have GE254 := n4_;have NB253_254 := n5_;have NB254_253 := n6_;clear n0_ n1_ n2_ n3_ n4_ n5_ n6_;clear hb hbox hg;have hnb60 := NB253_254.out;have hnc60 := NB254_253.out;have hcz61_0 : w59.cell? ⟨gb253,0,none⟩ = some (.int .i64 a0_0) := (blk_cell BK253.out 0).trans rfl;have hcz61_1 : w59.cell? ⟨gb253,1,none⟩ = some (.bool a0_1) := (blk_cell BK253.out 1).trans rfl;have hcz61_2 : w59.cell? ⟨gb253,2,none⟩ = some (.int .i64 a0_2) := (blk_cell BK253.out 2).trans rfl;have hcz61_3 : w59.cell? ⟨gb253,3,none⟩ = some (.string a0_3) := (blk_cell BK253.out 3).trans rfl;have hfz61_0 := blk_frozen BK253.out 0;have hfz61_1 := blk_frozen BK253.out 1;have hfz61_2 := blk_frozen BK253.out 2;have hfz61_3 := blk_frozen BK253.out 3;have hcz62_0 : w59.cell? ⟨gb254,0,none⟩ = some (.int .i64 a1_0) := (blk_cell BK254.out 0).trans rfl;have hcz62_1 : w59.cell? ⟨gb254,1,none⟩ = some (.bool a1_1) := (blk_cell BK254.out 1).trans rfl;have hcz62_2 : w59.cell? ⟨gb254,2,none⟩ = some (.int .i64 a1_2) := (blk_cell BK254.out 2).trans rfl;have hcz62_3 : w59.cell? ⟨gb254,3,none⟩ = some (.string a1_3) := (blk_cell BK254.out 3).trans rfl;have hfz62_0 := blk_frozen BK254.out 0;have hfz62_1 := blk_frozen BK254.out 1;have hfz62_2 := blk_frozen BK254.out 2;have hfz62_3 := blk_frozen BK254.out 3))
            go_ret
            exact ⟨by first | rfl | (simp [errW_none,errW_some] <;> rfl) | (simp [*,errW_none,errW_some] <;> rfl),by repeat (first | (with_reducible first | exact HB.out | apply below_alloc | apply pw_below_drewN | apply below_drew1 | refine below_set ?_ GE253.out | refine below_set ?_ GE254.out) | exact HB.out)⟩
end Go.Proofs.Ytfoaeigoajooeaa.Z
namespace Go.Proofs.Ytfoaeigoajooeaa.Z
open Go.RowKit Go.Proofs.YtfoaeigoajooeaaW.PrintWords Go.Proofs.YtfoaeigoajooeaaW.PrintLast Go.Proofs.YtfoaeigoajooeaaW.PrintMore
attribute [local go_sem] max2_int min2_int max_two min_two max_three min_three max_four min_four
set_option linter.unusedVariables false
set_option linter.unusedSimpArgs false
/-! ### verdererref02_Compare: function 22 -/
mutual
def verdererref02_Compare.l0 : Nat → List (S50) → List (S50) → Int → Option (Int)
  | 0,_,_,_ => none
  | k + 1,x0,x1,x5 => if x5 < (x0.length : Int) then (verdererref02_Compare.j1 k x0 x1 x5 (decide (x5 < (x1.length : Int)))) else (verdererref02_Compare.j1 k x0 x1 x5 false)
def verdererref02_Compare.j1 : Nat → List (S50) → List (S50) → Int → Bool → Option (Int)
  | 0,_,_,_,_ => none
  | k + 1,x0,x1,x5,x16 => if x16 = true then (if 0 ≤ x5 then (if x5 < (x0.length : Int) then (if x5 < (x1.length : Int) then ((verdererref01_Compare.f k ((rd_T50 x0 x5).f0) ((rd_T50 x0 x5).f1) ((rd_T50 x0 x5).f2) ((rd_T50 x0 x5).f3) ((rd_T50 x1 x5).f0) ((rd_T50 x1 x5).f1) ((rd_T50 x1 x5).f2) ((rd_T50 x1 x5).f3)).bind fun t301 => (if t301 = 0 then (verdererref02_Compare.l0 k x0 x1 (wrap64 (x5 + 1))) else (some t301))) else (none)) else (none)) else (none)) else (if (x0.length : Int) < (x1.length : Int) then (some (-1)) else (if (x0.length : Int) > (x1.length : Int) then (some 1) else (some 0)))
end
def verdererref02_Compare.f (k : Nat) (l0 : List (S50)) (l1 : List (S50)) : Option (Int) := verdererref02_Compare.l0 k l0 l1 0
theorem verdererref02_Compare.mono_l : ∀ k,(∀ y0 y1 y2,LeO (verdererref02_Compare.l0 k y0 y1 y2) (verdererref02_Compare.l0 (k + 1) y0 y1 y2)) ∧ (∀ y0 y1 y2 y3,LeO (verdererref02_Compare.j1 k y0 y1 y2 y3) (verdererref02_Compare.j1 (k + 1) y0 y1 y2 y3))
  | 0 => ⟨fun _ _ _ r h => by simp [verdererref02_Compare.l0] at h,fun _ _ _ _ r h => by simp [verdererref02_Compare.j1] at h⟩
  | k + 1 => by
    obtain ⟨ih0,ih1⟩ := verdererref02_Compare.mono_l k
    refine ⟨?_,?_⟩
    · intro y0 y1 y2
      unfold verdererref02_Compare.l0
      repeat' first
      | (with_reducible exact ih0 _ _ _)
      | (with_reducible exact ih1 _ _ _ _)
      | (with_reducible exact verdererref01_Compare.mono _ _ _ _ _ _ _ _ _)
      | (with_reducible exact LeO.refl _)
      | (with_reducible exact LeO.none _)
      | (with_reducible refine LeO.ite ?_ ?_)
      | (with_reducible refine LeO.bind ?_ (fun _ => ?_))
      | exact ih0 _ _ _
      | exact ih1 _ _ _ _
      | exact verdererref01_Compare.mono _ _ _ _ _ _ _ _ _
      | exact LeO.none _
      | refine LeO.ite ?_ ?_
      | refine LeO.bind ?_ (fun _ => ?_)
    · intro y0 y1 y2 y3
      unfold verdererref02_Compare.j1
      repeat' first
      | (with_reducible exact ih0 _ _ _)
      | (with_reducible exact ih1 _ _ _ _)
      | (with_reducible exact verdererref01_Compare.mono _ _ _ _ _ _ _ _ _)
      | (with_reducible exact LeO.refl _)
      | (with_reducible exact LeO.none _)
      | (with_reducible refine LeO.ite ?_ ?_)
      | (with_reducible refine LeO.bind ?_ (fun _ => ?_))
      | exact ih0 _ _ _
      | exact ih1 _ _ _ _
      | exact verdererref01_Compare.mono _ _ _ _ _ _ _ _ _
      | exact LeO.none _
      | refine LeO.ite ?_ ?_
      | refine LeO.bind ?_ (fun _ => ?_)
theorem verdererref02_Compare.mono : ∀ a0 a1 k,LeO (verdererref02_Compare.f k a0 a1) (verdererref02_Compare.f (k + 1) a0 a1) := by
  intro a0 a1 k
  obtain ⟨ih0,ih1⟩ := verdererref02_Compare.mono_l k
  unfold verdererref02_Compare.f
  repeat' first
      | (with_reducible exact ih0 _ _ _)
      | (with_reducible exact ih1 _ _ _ _)
      | (with_reducible exact verdererref01_Compare.mono _ _ _ _ _ _ _ _ _)
      | (with_reducible exact LeO.refl _)
      | (with_reducible exact LeO.none _)
      | (with_reducible refine LeO.ite ?_ ?_)
      | (with_reducible refine LeO.bind ?_ (fun _ => ?_))
      | exact ih0 _ _ _
      | exact ih1 _ _ _ _
      | exact verdererref01_Compare.mono _ _ _ _ _ _ _ _ _
      | exact LeO.none _
      | refine LeO.ite ?_ ?_
      | refine LeO.bind ?_ (fun _ => ?_)
def verdererref02_Compare.T4 : Bool × List (List Nat × List Nat) := (true,[([],[]),([],[]),([0,1],[0,1]),([2],[2]),([],[]),([],[]),([4,5],[4,5]),([6],[6]),([3,7],[3,7]),([8,8,0,1,2,3,4,5,6,7,8],[8])])
def verdererref02_Compare.B4 : List Nat := [0,0,3,7,0,0,48,112,255,511]
theorem verdererref02_Compare.tab4 : rtab .any (opsOf Try.f22 4) = verdererref02_Compare.T4 := by kernel_rfl
theorem verdererref02_Compare.bits4 : waitsOk verdererref02_Compare.T4.2 verdererref02_Compare.B4 = true := by kernel_rfl
set_option maxHeartbeats 8000000 in
set_option maxRecDepth 100000 in
theorem verdererref02_Compare.calls (k : Nat) (A0 : Option Addr) (c0 : Nat) (l0 : List (S50)) (A1 : Option Addr) (c1 : Nat) (l1 : List (S50)) (r : Int) (w : World) (hr0 : Kd.C k50 w A0 l0.length l0) (hc0 : l0.length ≤ c0) (hr1 : Kd.C k50 w A1 l1.length l1) (hc1 : l1.length ≤ c1) (h : verdererref02_Compare.f k l0 l1 = some r) :
    Calls Try.prog 22 #[.slice A0 l0.length c0,.slice A1 l1.length c1] w fun e w' => e = .returned (.int .i64 r) ∧ Below w.heap.size w w' := by
  have hu50 := Try.underlying50
  have HR0 := Aside0.mk hr0
  have HC0 := Aside0.mk hc0
  clear hr0 hc0
  have HR1 := Aside0.mk hr1
  have HC1 := Aside0.mk hc1
  clear hr1 hc1
  have HB := Aside0.mk (Below.refl w.heap.size w)
  have H : (verdererref02_Compare.l0 k l0 l1 0) = some r := h
  clear h
  have H' := Aside0.mk H
  clear H
  go_enter Try.func22,Try.ntmps22
  go_wp2
  go_loopg [5] k (fun kq v5 w' => ∃ (x5_1 : Int),v5 = .int .i64 x5_1 ∧ Aside0 (verdererref02_Compare.l0 kq l0 l1 x5_1 = some r) ∧ Aside0 (kq ≤ k) ∧ Aside0 (Below w.heap.size w w'))
  case atStart => exact ⟨(0),(by first | rfl | (simp;done) | (simp [*];done)),H',⟨Nat.le_refl _⟩,⟨by repeat (first | (with_reducible first | exact HB.out | apply below_alloc | apply pw_below_drewN | apply below_drew1) | exact HB.out)⟩⟩
  case round =>
    clear H'
    try clear c1
    try clear c2
    try clear p2
    obtain ⟨x5_1,rfl,HA,HK1,HB⟩ := hrel
    cases gk with
    | zero => exact absurd HA.out (by simp [verdererref02_Compare.l0])
    | succ k1 =>
      have H := HA.out
      clear HA
      simp only [verdererref02_Compare.l0] at H
      have HC3 := Aside0.mk H
      clear H
      go_upto_region 2 with (fail)
      go_cut [16] (fun v16 wc => ∃ (kq : Nat) (x16_2 : Bool),v16 = .bool x16_2 ∧ Aside0 (verdererref02_Compare.j1 kq l0 l1 x5_1 x16_2 = some r) ∧ Aside0 (kq ≤ k1) ∧ Aside0 (Below w.heap.size w wc))
      case first =>
        have H := HC3.out
        clear HC3
        by_cases c4 : x5_1 < (l0.length : Int)
        · rw [if_pos c4] at H
          have c4b0 : decide (x5_1 < (l0.length : Int)) = true := decide_eq_true c4
          clear c4
          (first | rw [c4b0] | (simp only [i64_w,i32_w];rw [c4b0]) | skip)
          have H' := Aside0.mk H
          clear H
          go_wp2
          go_meet
          case rel => exact ⟨_,(decide (x5_1 < (l1.length : Int))),(by first | rfl | (simp;done) | (simp [*];done)),H',⟨by have := HK1.out;first | omega | exact Nat.le_refl _⟩,⟨by repeat (first | (with_reducible first | exact HB.out | apply below_alloc | apply pw_below_drewN | apply below_drew1) | exact HB.out)⟩⟩
        · rw [if_neg c4] at H
          have c4b0 : decide (x5_1 < (l0.length : Int)) = false := decide_eq_false c4
          clear c4
          (first | rw [c4b0] | (simp only [i64_w,i32_w];rw [c4b0]) | skip)
          have H' := Aside0.mk H
          clear H
          go_wp2
          go_meet
          case rel => exact ⟨_,(false),(by first | rfl | (simp;done) | (simp [*];done)),H',⟨by have := HK1.out;first | omega | exact Nat.le_refl _⟩,⟨by repeat (first | (with_reducible first | exact HB.out | apply below_alloc | apply pw_below_drewN | apply below_drew1) | exact HB.out)⟩⟩
      case rest =>
        clear HC3
        try clear c1
        try clear c2
        try clear p2
        try clear c4
        try clear c4b0
        try clear p2
        obtain ⟨kq,x16_2,rfl,HA,HJ2,HB⟩ := hcut
        cases kq with
        | zero => exact absurd HA.out (by simp [verdererref02_Compare.j1])
        | succ kj2 =>
          have H := HA.out
          clear HA
          simp only [verdererref02_Compare.j1] at H
          by_cases c5 : x16_2 = true
          · subst c5
            have H1 : (if 0 ≤ x5_1 then (if x5_1 < (l0.length : Int) then (if x5_1 < (l1.length : Int) then ((verdererref01_Compare.f kj2 ((rd_T50 l0 x5_1).f0) ((rd_T50 l0 x5_1).f1) ((rd_T50 l0 x5_1).f2) ((rd_T50 l0 x5_1).f3) ((rd_T50 l1 x5_1).f0) ((rd_T50 l1 x5_1).f1) ((rd_T50 l1 x5_1).f2) ((rd_T50 l1 x5_1).f3)).bind fun t301 => (if t301 = 0 then (verdererref02_Compare.l0 kj2 l0 l1 (wrap64 (x5_1 + 1))) else (some t301))) else (none)) else (none)) else (none)) = some r := by rw [if_pos rfl] at H;exact H
            clear H
            have H := H1
            clear H1
            by_cases c6 : 0 ≤ x5_1
            · rw [if_pos c6] at H
              have c6b0 : decide (0 ≤ x5_1) = true := decide_eq_true c6
              clear c6
              by_cases c7 : x5_1 < (l0.length : Int)
              · rw [if_pos c7] at H
                have c7b0 : decide (x5_1 < (l0.length : Int)) = true := decide_eq_true c7
                clear c7
                by_cases c8 : x5_1 < (l1.length : Int)
                · rw [if_pos c8] at H
                  have c8b0 : decide (x5_1 < (l1.length : Int)) = true := decide_eq_true c8
                  clear c8
                  replace H := Option.bind_eq_some_iff.mp H
                  obtain ⟨t301,A90,H⟩ := H
                  replace H : (if t301 = 0 then (verdererref02_Compare.l0 kj2 l0 l1 (wrap64 (x5_1 + 1))) else (some t301)) = some r := H
                  have A9 := Aside0.mk A90
                  clear A90
                  by_cases c10 : t301 = 0
                  · rw [if_pos c10] at H
                    have c10b0 : (t301 == 0) = true := beq_iff_eq.mpr c10
                    have c10b1 : (t301 != 0) = false := bne_eq_false_iff_eq.mpr c10
                    clear c10
                    have H' := Aside0.mk H
                    clear H
                    try go_wp2
                    have n0_ := Aside0.mk (below_drew1 HB.out)
                    clear HB
                    have HB := n0_
                    clear n0_
                    have p299 : 0 ≤ (x5_1 : Int) := of_decide_eq_true (by first | (with_reducible assumption) | assumption)
                    have q299 : x5_1 < (l0.length : Int) := of_decide_eq_true (by first | (with_reducible assumption) | assumption)
                    obtain ⟨ad299,e299,hx299_0,hx299_1,hx299_2,hx299_3⟩ := at_T50 HR0.out x5_1 p299 q299
                    have hw299_3 := hx299_3
                    have hw299_2 := hx299_2
                    have hw299_1 := hx299_1
                    have hw299_0 := hx299_0
                    cases e299
                    replace hx299_0 := (HB.out.cell (World.block_lt_of_cell? w _ hx299_0)).trans hx299_0
                    replace hx299_1 := (HB.out.cell (World.block_lt_of_cell? w _ hx299_1)).trans hx299_1
                    replace hx299_2 := (HB.out.cell (World.block_lt_of_cell? w _ hx299_2)).trans hx299_2
                    replace hx299_3 := (HB.out.cell (World.block_lt_of_cell? w _ hx299_3)).trans hx299_3
                    replace p299 := eq_true p299
                    replace q299 := eq_true q299
                    have p300 : 0 ≤ (x5_1 : Int) := of_decide_eq_true (by first | (with_reducible assumption) | assumption)
                    have q300 : x5_1 < (l1.length : Int) := of_decide_eq_true (by first | (with_reducible assumption) | assumption)
                    obtain ⟨ad300,e300,hx300_0,hx300_1,hx300_2,hx300_3⟩ := at_T50 HR1.out x5_1 p300 q300
                    have hw300_3 := hx300_3
                    have hw300_2 := hx300_2
                    have hw300_1 := hx300_1
                    have hw300_0 := hx300_0
                    cases e300
                    replace hx300_0 := (HB.out.cell (World.block_lt_of_cell? w _ hx300_0)).trans hx300_0
                    replace hx300_1 := (HB.out.cell (World.block_lt_of_cell? w _ hx300_1)).trans hx300_1
                    replace hx300_2 := (HB.out.cell (World.block_lt_of_cell? w _ hx300_2)).trans hx300_2
                    replace hx300_3 := (HB.out.cell (World.block_lt_of_cell? w _ hx300_3)).trans hx300_3
                    replace p300 := eq_true p300
                    replace q300 := eq_true q300
                    refine start_ (n := 10) (S := fun w' => w'.cell? (ad299.add ((x5_1).toNat * 4)) = some (.int .i64 ((rd_T50 l0 x5_1).f0)) ∧ w'.cell? ⟨(ad299.add ((x5_1).toNat * 4)).block,(ad299.add ((x5_1).toNat * 4)).off + 1,none⟩ = some (.bool ((rd_T50 l0 x5_1).f1)) ∧ w'.cell? ⟨(ad299.add ((x5_1).toNat * 4)).block,(ad299.add ((x5_1).toNat * 4)).off + 2,none⟩ = some (.int .i64 ((rd_T50 l0 x5_1).f2)) ∧ w'.cell? ⟨(ad299.add ((x5_1).toNat * 4)).block,(ad299.add ((x5_1).toNat * 4)).off + 3,none⟩ = some (.string ((rd_T50 l0 x5_1).f3)) ∧ w'.cell? (ad300.add ((x5_1).toNat * 4)) = some (.int .i64 ((rd_T50 l1 x5_1).f0)) ∧ w'.cell? ⟨(ad300.add ((x5_1).toNat * 4)).block,(ad300.add ((x5_1).toNat * 4)).off + 1,none⟩ = some (.bool ((rd_T50 l1 x5_1).f1)) ∧ w'.cell? ⟨(ad300.add ((x5_1).toNat * 4)).block,(ad300.add ((x5_1).toNat * 4)).off + 2,none⟩ = some (.int .i64 ((rd_T50 l1 x5_1).f2)) ∧ w'.cell? ⟨(ad300.add ((x5_1).toNat * 4)).block,(ad300.add ((x5_1).toNat * 4)).off + 3,none⟩ = some (.string ((rd_T50 l1 x5_1).f3))) (ds := []) #[false,false,false,false,false,false,false,false,false,false] (by kernel_rfl) rfl rfl ⟨((HB.out.cell (World.block_lt_of_cell? w _ hw299_0)).trans hw299_0),((HB.out.cell (World.block_lt_of_cell? w _ hw299_1)).trans hw299_1),((HB.out.cell (World.block_lt_of_cell? w _ hw299_2)).trans hw299_2),((HB.out.cell (World.block_lt_of_cell? w _ hw299_3)).trans hw299_3),((HB.out.cell (World.block_lt_of_cell? w _ hw300_0)).trans hw300_0),((HB.out.cell (World.block_lt_of_cell? w _ hw300_1)).trans hw300_1),((HB.out.cell (World.block_lt_of_cell? w _ hw300_2)).trans hw300_2),((HB.out.cell (World.block_lt_of_cell? w _ hw300_3)).trans hw300_3)⟩ (fun hHeld => ?_);refine with_tabW verdererref02_Compare.tab4 verdererref02_Compare.bits4 (fun HT_ HW_ => ?_)
                    generalize wc.drew = w11 at HB hx299_0 hx299_1 hx299_2 hx299_3 hx300_0 hx300_1 hx300_2 hx300_3 hHeld ⊢
                    refine pure_ (i := 0) (N := some 19) (v := ?_) (a' := ?_) #[true,false,false,false,false,false,false,false,false,false] rfl rfl (any_of HT_.out (by kernel_rfl)) (fun _ _ _ h => h) (Or.inl ⟨by rfl,?_⟩) ?_ ?_
                    rotate_left
                    · intro w'
                      go_simp
                      with_reducible rfl
                    rotate_left
                    · simp only [Act.put,zA,zB,zC,i64_w,i32_w]
                      rfl
                    refine pure_ (i := 1) (N := some 20) (v := ?_) (a' := ?_) #[true,true,false,false,false,false,false,false,false,false] rfl rfl (any_of HT_.out (by kernel_rfl)) (fun _ _ _ h => h) (Or.inl ⟨by rfl,?_⟩) ?_ ?_
                    rotate_left
                    · intro w'
                      go_simp
                      with_reducible rfl
                    rotate_left
                    · simp only [Act.put,zA,zB,zC,i64_w,i32_w]
                      rfl
                    refine pure_ (i := 2) (N := some 21) (v := ?_) (a' := ?_) #[true,true,true,false,false,false,false,false,false,false] rfl rfl (any_of HT_.out (by kernel_rfl)) (fun _ _ _ h => h) (Or.inl ⟨by rfl,?_⟩) ?_ ?_
                    rotate_left
                    · intro w'
                      go_simp
                      with_reducible rfl
                    rotate_left
                    · simp only [Act.put,zA,zB,zC,i64_w,i32_w]
                      rfl
                    refine pure_ (i := 4) (N := some 23) (v := ?_) (a' := ?_) #[true,true,true,false,true,false,false,false,false,false] rfl rfl (any_of HT_.out (by kernel_rfl)) (fun _ _ _ h => h) (Or.inl ⟨by rfl,?_⟩) ?_ ?_
                    rotate_left
                    · intro w'
                      go_simp
                      with_reducible rfl
                    rotate_left
                    · simp only [Act.put,zA,zB,zC,i64_w,i32_w]
                      rfl
                    refine pure_ (i := 5) (N := some 24) (v := ?_) (a' := ?_) #[true,true,true,false,true,true,false,false,false,false] rfl rfl (any_of HT_.out (by kernel_rfl)) (fun _ _ _ h => h) (Or.inl ⟨by rfl,?_⟩) ?_ ?_
                    rotate_left
                    · intro w'
                      go_simp
                      with_reducible rfl
                    rotate_left
                    · simp only [Act.put,zA,zB,zC,i64_w,i32_w]
                      rfl
                    refine pure_ (i := 6) (N := some 25) (v := ?_) (a' := ?_) #[true,true,true,false,true,true,true,false,false,false] rfl rfl (any_of HT_.out (by kernel_rfl)) (fun _ _ _ h => h) (Or.inl ⟨by rfl,?_⟩) ?_ ?_
                    rotate_left
                    · intro w'
                      go_simp
                      with_reducible rfl
                    rotate_left
                    · simp only [Act.put,zA,zB,zC,i64_w,i32_w]
                      rfl
                    refine take_ (i := 3) (N := some 22) (v := ?_) (a' := ?_) #[true,true,true,true,true,true,true,false,false,false] rfl rfl (take_ofW HT_.out HW_.out (by kernel_rfl)) (fun _ _ _ h => h) (Or.inl ⟨by rfl,?_⟩) hHeld ?_ ?_
                    rotate_left
                    · rintro w' ⟨s0,s1,s2,s3,s4,s5,s6,s7⟩
                      go_simp
                      with_reducible rfl
                    rotate_left
                    · simp only [Act.put,zA,zB,zC,i64_w,i32_w]
                      rfl
                    refine take_ (i := 7) (N := some 26) (v := ?_) (a' := ?_) #[true,true,true,true,true,true,true,true,false,false] rfl rfl (take_ofW HT_.out HW_.out (by kernel_rfl)) (fun _ _ _ h => h) (Or.inl ⟨by rfl,?_⟩) hHeld ?_ ?_
                    rotate_left
                    · rintro w' ⟨s0,s1,s2,s3,s4,s5,s6,s7⟩
                      go_simp
                      with_reducible rfl
                    rotate_left
                    · simp only [Act.put,zA,zB,zC,i64_w,i32_w]
                      rfl
                    refine one_ (i := 8) (N := some 27) #[true,true,true,true,true,true,true,true,true,false] rfl rfl (one_of HT_.out (by kernel_rfl)) (by decide) (fun K hK => ?_)
                    refine goes_ Try.func49 (by kernel_rfl) rfl #[.agg #[.int .i64 ((rd_T50 l0 x5_1).f0),.bool ((rd_T50 l0 x5_1).f1),.int .i64 ((rd_T50 l0 x5_1).f2),.string ((rd_T50 l0 x5_1).f3)],.agg #[.int .i64 ((rd_T50 l1 x5_1).f0),.bool ((rd_T50 l1 x5_1).f1),.int .i64 ((rd_T50 l1 x5_1).f2),.string ((rd_T50 l1 x5_1).f3)]] (by rfl) rfl rfl (by (try simp only [List.map_toArray,List.map_cons,List.map_nil]);first | done | rfl | (simp only [List.length_drop,List.length_take];rfl)) ?_
                    with_reducible refine (verdererref01_Compare.calls kj2 ((rd_T50 l0 x5_1).f0) ((rd_T50 l0 x5_1).f1) ((rd_T50 l0 x5_1).f2) ((rd_T50 l0 x5_1).f3) ((rd_T50 l1 x5_1).f0) ((rd_T50 l1 x5_1).f1) ((rd_T50 l1 x5_1).f2) ((rd_T50 l1 x5_1).f3) t301 _ A9.out).mono ?_
                    rintro e w12 ⟨rfl,hb⟩
                    refine ⟨_,rfl,?_⟩
                    have n0_ := Aside0.mk (below_step (by repeat (first | (with_reducible first | exact HB.out | apply below_alloc | apply pw_below_drewN | apply below_drew1) | exact HB.out)) hb)
                    clear HB
                    have HB := n0_
                    clear n0_
                    (try clear hb)
                    (try clear hb2)
                    (try clear hk)
                    (try clear hi)
                    refine hK.out _ _ ⟨((HB.out.cell (World.block_lt_of_cell? w _ hw299_0)).trans hw299_0),((HB.out.cell (World.block_lt_of_cell? w _ hw299_1)).trans hw299_1),((HB.out.cell (World.block_lt_of_cell? w _ hw299_2)).trans hw299_2),((HB.out.cell (World.block_lt_of_cell? w _ hw299_3)).trans hw299_3),((HB.out.cell (World.block_lt_of_cell? w _ hw300_0)).trans hw300_0),((HB.out.cell (World.block_lt_of_cell? w _ hw300_1)).trans hw300_1),((HB.out.cell (World.block_lt_of_cell? w _ hw300_2)).trans hw300_2),((HB.out.cell (World.block_lt_of_cell? w _ hw300_3)).trans hw300_3)⟩ (fun hHeld => ?_)
                    clear hK K
                    refine norm_ (a' := ?_) ?_ ?_
                    rotate_left
                    · show Act.put _ (some 27) _ = _
                      simp only [Act.put,zA,zB,zC,i64_w,i32_w]
                      rfl
                    refine pure_ (i := 9) (N := some 6) (v := ?_) (a' := ?_) #[true,true,true,true,true,true,true,true,true,true] rfl rfl (any_of HT_.out (by kernel_rfl)) (fun _ _ _ h => h) (Or.inl ⟨by rfl,?_⟩) ?_ ?_
                    rotate_left
                    · intro w'
                      go_simp
                      with_reducible rfl
                    rotate_left
                    · simp only [Act.put,zA,zB,zC,i64_w,i32_w]
                      rfl
                    refine done_ (done_of HT_.out (by kernel_rfl)) ?_
                    try go_wp2
                    go_roundg kj2
                    case measure => have := HK1.out;have := HJ2.out;omega
                    case rel => exact ⟨(wrap64 (x5_1 + 1)),(by first | rfl | (simp;done) | (simp [*];done)),H',⟨by have := HK1.out;have := HJ2.out;omega⟩,⟨by repeat (first | (with_reducible first | exact HB.out | apply below_alloc | apply pw_below_drewN | apply below_drew1) | exact HB.out)⟩⟩
                  · rw [if_neg c10] at H
                    have c10b0 : (t301 == 0) = false := beq_eq_false_iff_ne.mpr c10
                    have c10b1 : (t301 != 0) = true := bne_iff_ne.mpr c10
                    obtain rfl := Option.some.inj H
                    try go_wp2
                    have n0_ := Aside0.mk (below_drew1 HB.out)
                    clear HB
                    have HB := n0_
                    clear n0_
                    have p299 : 0 ≤ (x5_1 : Int) := of_decide_eq_true (by first | (with_reducible assumption) | assumption)
                    have q299 : x5_1 < (l0.length : Int) := of_decide_eq_true (by first | (with_reducible assumption) | assumption)
                    obtain ⟨ad299,e299,hx299_0,hx299_1,hx299_2,hx299_3⟩ := at_T50 HR0.out x5_1 p299 q299
                    have hw299_3 := hx299_3
                    have hw299_2 := hx299_2
                    have hw299_1 := hx299_1
                    have hw299_0 := hx299_0
                    cases e299
                    replace hx299_0 := (HB.out.cell (World.block_lt_of_cell? w _ hx299_0)).trans hx299_0
                    replace hx299_1 := (HB.out.cell (World.block_lt_of_cell? w _ hx299_1)).trans hx299_1
                    replace hx299_2 := (HB.out.cell (World.block_lt_of_cell? w _ hx299_2)).trans hx299_2
                    replace hx299_3 := (HB.out.cell (World.block_lt_of_cell? w _ hx299_3)).trans hx299_3
                    replace p299 := eq_true p299
                    replace q299 := eq_true q299
                    have p300 : 0 ≤ (x5_1 : Int) := of_decide_eq_true (by first | (with_reducible assumption) | assumption)
                    have q300 : x5_1 < (l1.length : Int) := of_decide_eq_true (by first | (with_reducible assumption) | assumption)
                    obtain ⟨ad300,e300,hx300_0,hx300_1,hx300_2,hx300_3⟩ := at_T50 HR1.out x5_1 p300 q300
                    have hw300_3 := hx300_3
                    have hw300_2 := hx300_2
                    have hw300_1 := hx300_1
                    have hw300_0 := hx300_0
                    cases e300
                    replace hx300_0 := (HB.out.cell (World.block_lt_of_cell? w _ hx300_0)).trans hx300_0
                    replace hx300_1 := (HB.out.cell (World.block_lt_of_cell? w _ hx300_1)).trans hx300_1
                    replace hx300_2 := (HB.out.cell (World.block_lt_of_cell? w _ hx300_2)).trans hx300_2
                    replace hx300_3 := (HB.out.cell (World.block_lt_of_cell? w _ hx300_3)).trans hx300_3
                    replace p300 := eq_true p300
                    replace q300 := eq_true q300
                    refine start_ (n := 10) (S := fun w' => w'.cell? (ad299.add ((x5_1).toNat * 4)) = some (.int .i64 ((rd_T50 l0 x5_1).f0)) ∧ w'.cell? ⟨(ad299.add ((x5_1).toNat * 4)).block,(ad299.add ((x5_1).toNat * 4)).off + 1,none⟩ = some (.bool ((rd_T50 l0 x5_1).f1)) ∧ w'.cell? ⟨(ad299.add ((x5_1).toNat * 4)).block,(ad299.add ((x5_1).toNat * 4)).off + 2,none⟩ = some (.int .i64 ((rd_T50 l0 x5_1).f2)) ∧ w'.cell? ⟨(ad299.add ((x5_1).toNat * 4)).block,(ad299.add ((x5_1).toNat * 4)).off + 3,none⟩ = some (.string ((rd_T50 l0 x5_1).f3)) ∧ w'.cell? (ad300.add ((x5_1).toNat * 4)) = some (.int .i64 ((rd_T50 l1 x5_1).f0)) ∧ w'.cell? ⟨(ad300.add ((x5_1).toNat * 4)).block,(ad300.add ((x5_1).toNat * 4)).off + 1,none⟩ = some (.bool ((rd_T50 l1 x5_1).f1)) ∧ w'.cell? ⟨(ad300.add ((x5_1).toNat * 4)).block,(ad300.add ((x5_1).toNat * 4)).off + 2,none⟩ = some (.int .i64 ((rd_T50 l1 x5_1).f2)) ∧ w'.cell? ⟨(ad300.add ((x5_1).toNat * 4)).block,(ad300.add ((x5_1).toNat * 4)).off + 3,none⟩ = some (.string ((rd_T50 l1 x5_1).f3))) (ds := []) #[false,false,false,false,false,false,false,false,false,false] (by kernel_rfl) rfl rfl ⟨((HB.out.cell (World.block_lt_of_cell? w _ hw299_0)).trans hw299_0),((HB.out.cell (World.block_lt_of_cell? w _ hw299_1)).trans hw299_1),((HB.out.cell (World.block_lt_of_cell? w _ hw299_2)).trans hw299_2),((HB.out.cell (World.block_lt_of_cell? w _ hw299_3)).trans hw299_3),((HB.out.cell (World.block_lt_of_cell? w _ hw300_0)).trans hw300_0),((HB.out.cell (World.block_lt_of_cell? w _ hw300_1)).trans hw300_1),((HB.out.cell (World.block_lt_of_cell? w _ hw300_2)).trans hw300_2),((HB.out.cell (World.block_lt_of_cell? w _ hw300_3)).trans hw300_3)⟩ (fun hHeld => ?_);refine with_tabW verdererref02_Compare.tab4 verdererref02_Compare.bits4 (fun HT_ HW_ => ?_)
                    generalize wc.drew = w13 at HB hx299_0 hx299_1 hx299_2 hx299_3 hx300_0 hx300_1 hx300_2 hx300_3 hHeld ⊢
                    refine pure_ (i := 0) (N := some 19) (v := ?_) (a' := ?_) #[true,false,false,false,false,false,false,false,false,false] rfl rfl (any_of HT_.out (by kernel_rfl)) (fun _ _ _ h => h) (Or.inl ⟨by rfl,?_⟩) ?_ ?_
                    rotate_left
                    · intro w'
                      go_simp
                      with_reducible rfl
                    rotate_left
                    · simp only [Act.put,zA,zB,zC,i64_w,i32_w]
                      rfl
                    refine pure_ (i := 1) (N := some 20) (v := ?_) (a' := ?_) #[true,true,false,false,false,false,false,false,false,false] rfl rfl (any_of HT_.out (by kernel_rfl)) (fun _ _ _ h => h) (Or.inl ⟨by rfl,?_⟩) ?_ ?_
                    rotate_left
                    · intro w'
                      go_simp
                      with_reducible rfl
                    rotate_left
                    · simp only [Act.put,zA,zB,zC,i64_w,i32_w]
                      rfl
                    refine pure_ (i := 2) (N := some 21) (v := ?_) (a' := ?_) #[true,true,true,false,false,false,false,false,false,false] rfl rfl (any_of HT_.out (by kernel_rfl)) (fun _ _ _ h => h) (Or.inl ⟨by rfl,?_⟩) ?_ ?_
                    rotate_left
                    · intro w'
                      go_simp
                      with_reducible rfl
                    rotate_left
                    · simp only [Act.put,zA,zB,zC,i64_w,i32_w]
                      rfl
                    refine pure_ (i := 4) (N := some 23) (v := ?_) (a' := ?_) #[true,true,true,false,true,false,false,false,false,false] rfl rfl (any_of HT_.out (by kernel_rfl)) (fun _ _ _ h => h) (Or.inl ⟨by rfl,?_⟩) ?_ ?_
                    rotate_left
                    · intro w'
                      go_simp
                      with_reducible rfl
                    rotate_left
                    · simp only [Act.put,zA,zB,zC,i64_w,i32_w]
                      rfl
                    refine pure_ (i := 5) (N := some 24) (v := ?_) (a' := ?_) #[true,true,true,false,true,true,false,false,false,false] rfl rfl (any_of HT_.out (by kernel_rfl)) (fun _ _ _ h => h) (Or.inl ⟨by rfl,?_⟩) ?_ ?_
                    rotate_left
                    · intro w'
                      go_simp
                      with_reducible rfl
                    rotate_left
                    · simp only [Act.put,zA,zB,zC,i64_w,i32_w]
                      rfl
                    refine pure_ (i := 6) (N := some 25) (v := ?_) (a' := ?_) #[true,true,true,false,true,true,true,false,false,false] rfl rfl (any_of HT_.out (by kernel_rfl)) (fun _ _ _ h => h) (Or.inl ⟨by rfl,?_⟩) ?_ ?_
                    rotate_left
                    · intro w'
                      go_simp
                      with_reducible rfl
                    rotate_left
                    · simp only [Act.put,zA,zB,zC,i64_w,i32_w]
                      rfl
                    refine take_ (i := 3) (N := some 22) (v := ?_) (a' := ?_) #[true,true,true,true,true,true,true,false,false,false] rfl rfl (take_ofW HT_.out HW_.out (by kernel_rfl)) (fun _ _ _ h => h) (Or.inl ⟨by rfl,?_⟩) hHeld ?_ ?_
                    rotate_left
                    · rintro w' ⟨s0,s1,s2,s3,s4,s5,s6,s7⟩
                      go_simp
                      with_reducible rfl
                    rotate_left
                    · simp only [Act.put,zA,zB,zC,i64_w,i32_w]
                      rfl
                    refine take_ (i := 7) (N := some 26) (v := ?_) (a' := ?_) #[true,true,true,true,true,true,true,true,false,false] rfl rfl (take_ofW HT_.out HW_.out (by kernel_rfl)) (fun _ _ _ h => h) (Or.inl ⟨by rfl,?_⟩) hHeld ?_ ?_
                    rotate_left
                    · rintro w' ⟨s0,s1,s2,s3,s4,s5,s6,s7⟩
                      go_simp
                      with_reducible rfl
                    rotate_left
                    · simp only [Act.put,zA,zB,zC,i64_w,i32_w]
                      rfl
                    refine one_ (i := 8) (N := some 27) #[true,true,true,true,true,true,true,true,true,false] rfl rfl (one_of HT_.out (by kernel_rfl)) (by decide) (fun K hK => ?_)
                    refine goes_ Try.func49 (by kernel_rfl) rfl #[.agg #[.int .i64 ((rd_T50 l0 x5_1).f0),.bool ((rd_T50 l0 x5_1).f1),.int .i64 ((rd_T50 l0 x5_1).f2),.string ((rd_T50 l0 x5_1).f3)],.agg #[.int .i64 ((rd_T50 l1 x5_1).f0),.bool ((rd_T50 l1 x5_1).f1),.int .i64 ((rd_T50 l1 x5_1).f2),.string ((rd_T50 l1 x5_1).f3)]] (by rfl) rfl rfl (by (try simp only [List.map_toArray,List.map_cons,List.map_nil]);first | done | rfl | (simp only [List.length_drop,List.length_take];rfl)) ?_
                    with_reducible refine (verdererref01_Compare.calls kj2 ((rd_T50 l0 x5_1).f0) ((rd_T50 l0 x5_1).f1) ((rd_T50 l0 x5_1).f2) ((rd_T50 l0 x5_1).f3) ((rd_T50 l1 x5_1).f0) ((rd_T50 l1 x5_1).f1) ((rd_T50 l1 x5_1).f2) ((rd_T50 l1 x5_1).f3) t301 _ A9.out).mono ?_
                    rintro e w14 ⟨rfl,hb⟩
                    refine ⟨_,rfl,?_⟩
                    have n0_ := Aside0.mk (below_step (by repeat (first | (with_reducible first | exact HB.out | apply below_alloc | apply pw_below_drewN | apply below_drew1) | exact HB.out)) hb)
                    clear HB
                    have HB := n0_
                    clear n0_
                    (try clear hb)
                    (try clear hb2)
                    (try clear hk)
                    (try clear hi)
                    refine hK.out _ _ ⟨((HB.out.cell (World.block_lt_of_cell? w _ hw299_0)).trans hw299_0),((HB.out.cell (World.block_lt_of_cell? w _ hw299_1)).trans hw299_1),((HB.out.cell (World.block_lt_of_cell? w _ hw299_2)).trans hw299_2),((HB.out.cell (World.block_lt_of_cell? w _ hw299_3)).trans hw299_3),((HB.out.cell (World.block_lt_of_cell? w _ hw300_0)).trans hw300_0),((HB.out.cell (World.block_lt_of_cell? w _ hw300_1)).trans hw300_1),((HB.out.cell (World.block_lt_of_cell? w _ hw300_2)).trans hw300_2),((HB.out.cell (World.block_lt_of_cell? w _ hw300_3)).trans hw300_3)⟩ (fun hHeld => ?_)
                    clear hK K
                    refine norm_ (a' := ?_) ?_ ?_
                    rotate_left
                    · show Act.put _ (some 27) _ = _
                      simp only [Act.put,zA,zB,zC,i64_w,i32_w]
                      rfl
                    refine pure_ (i := 9) (N := some 6) (v := ?_) (a' := ?_) #[true,true,true,true,true,true,true,true,true,true] rfl rfl (any_of HT_.out (by kernel_rfl)) (fun _ _ _ h => h) (Or.inl ⟨by rfl,?_⟩) ?_ ?_
                    rotate_left
                    · intro w'
                      go_simp
                      with_reducible rfl
                    rotate_left
                    · simp only [Act.put,zA,zB,zC,i64_w,i32_w]
                      rfl
                    refine done_ (done_of HT_.out (by kernel_rfl)) ?_
                    try go_wp2
                    go_ret
                    exact ⟨by first | rfl | (simp [errW_none,errW_some] <;> rfl) | (simp [*,errW_none,errW_some] <;> rfl),by repeat (first | (with_reducible first | exact HB.out | apply below_alloc | apply pw_below_drewN | apply below_drew1) | exact HB.out)⟩
                · rw [if_neg c8] at H
                  exact absurd H (by simp)
              · rw [if_neg c7] at H
                exact absurd H (by simp)
            · rw [if_neg c6] at H
              exact absurd H (by simp)
          · replace c5 := Bool.eq_false_iff.mpr c5
            subst c5
            have H1 : (if (l0.length : Int) < (l1.length : Int) then (some (-1)) else (if (l0.length : Int) > (l1.length : Int) then (some 1) else (some 0))) = some r := by rw [if_neg (show ¬ (false = true) by decide)] at H;exact H
            clear H
            have H := H1
            clear H1
            by_cases c15 : (l0.length : Int) < (l1.length : Int)
            · rw [if_pos c15] at H
              have c15b0 : decide ((l0.length : Int) < (l1.length : Int)) = true := decide_eq_true c15
              have c15b1 : decide (l0.length < l1.length) = true := decide_eq_true (Int.ofNat_lt.mp c15)
              clear c15
              obtain rfl := Option.some.inj H
              go_wp2
              go_ret
              exact ⟨by first | rfl | (simp [errW_none,errW_some] <;> rfl) | (simp [*,errW_none,errW_some] <;> rfl),by repeat (first | (with_reducible first | exact HB.out | apply below_alloc | apply pw_below_drewN | apply below_drew1) | exact HB.out)⟩
            · rw [if_neg c15] at H
              have c15b0 : decide ((l0.length : Int) < (l1.length : Int)) = false := decide_eq_false c15
              have c15b1 : decide (l0.length < l1.length) = false := decide_eq_false (fun h => c15 (Int.ofNat_lt.mpr h))
              clear c15
              by_cases c16 : (l0.length : Int) > (l1.length : Int)
              · rw [if_pos c16] at H
                have c16b0 : decide ((l1.length : Int) < (l0.length : Int)) = true := decide_eq_true c16
                have c16b1 : decide (l1.length < l0.length) = true := decide_eq_true (Int.ofNat_lt.mp c16)
                clear c16
                obtain rfl := Option.some.inj H
                go_wp2
                go_ret
                exact ⟨by first | rfl | (simp [errW_none,errW_some] <;> rfl) | (simp [*,errW_none,errW_some] <;> rfl),by repeat (first | (with_reducible first | exact HB.out | apply below_alloc | apply pw_below_drewN | apply below_drew1) | exact HB.out)⟩
              · rw [if_neg c16] at H
                have c16b0 : decide ((l1.length : Int) < (l0.length : Int)) = false := decide_eq_false c16
                have c16b1 : decide (l1.length < l0.length) = false := decide_eq_false (fun h => c16 (Int.ofNat_lt.mpr h))
                clear c16
                obtain rfl := Option.some.inj H
                go_wp2
                go_ret
                exact ⟨by first | rfl | (simp [errW_none,errW_some] <;> rfl) | (simp [*,errW_none,errW_some] <;> rfl),by repeat (first | (with_reducible first | exact HB.out | apply below_alloc | apply pw_below_drewN | apply below_drew1) | exact HB.out)⟩
end Go.Proofs.Ytfoaeigoajooeaa.Z
namespace Go.Proofs.Ytfoaeigoajooeaa.Z
open Go.RowKit Go.Proofs.YtfoaeigoajooeaaW.PrintWords Go.Proofs.YtfoaeigoajooeaaW.PrintLast Go.Proofs.YtfoaeigoajooeaaW.PrintMore
attribute [local go_sem] max2_int min2_int max_two min_two max_three min_three max_four min_four
set_option linter.unusedVariables false
set_option linter.unusedSimpArgs false
/-! ### verdererlaw04_few: function 31 -/
def verdererlaw04_few.l0 : Nat → List (S50) → Int → Option (Bool)
  | 0,_,_ => none
  | k + 1,x0,x3 => if x3 < (x0.length : Int) then (if 0 ≤ x3 then (if (((rd_T50 x0 x3).f3).size : Int) > 500 then (some false) else (verdererlaw04_few.l0 k x0 (wrap64 (x3 + 1)))) else (none)) else (some true)
def verdererlaw04_few.f (k : Nat) (l0 : List (S50)) : Option (Bool) := if (l0.length : Int) > 100 then (some false) else (verdererlaw04_few.l0 k l0 0)
theorem verdererlaw04_few.mono_l : ∀ k,(∀ y0 y1,LeO (verdererlaw04_few.l0 k y0 y1) (verdererlaw04_few.l0 (k + 1) y0 y1))
  | 0 => fun _ _ r h => by simp [verdererlaw04_few.l0] at h
  | k + 1 => by
    have ih0 := verdererlaw04_few.mono_l k
    · intro y0 y1
      unfold verdererlaw04_few.l0
      repeat' first
      | (with_reducible exact ih0 _ _)
      | (with_reducible exact LeO.refl _)
      | (with_reducible exact LeO.none _)
      | (with_reducible refine LeO.ite ?_ ?_)
      | (with_reducible refine LeO.bind ?_ (fun _ => ?_))
      | exact ih0 _ _
      | exact LeO.none _
      | refine LeO.ite ?_ ?_
      | refine LeO.bind ?_ (fun _ => ?_)
theorem verdererlaw04_few.mono : ∀ a0 k,LeO (verdererlaw04_few.f k a0) (verdererlaw04_few.f (k + 1) a0) := by
  intro a0 k
  have ih0 := verdererlaw04_few.mono_l k
  unfold verdererlaw04_few.f
  repeat' first
      | (with_reducible exact ih0 _ _)
      | (with_reducible exact LeO.refl _)
      | (with_reducible exact LeO.none _)
      | (with_reducible refine LeO.ite ?_ ?_)
      | (with_reducible refine LeO.bind ?_ (fun _ => ?_))
      | exact ih0 _ _
      | exact LeO.none _
      | refine LeO.ite ?_ ?_
      | refine LeO.bind ?_ (fun _ => ?_)
set_option maxHeartbeats 8000000 in
set_option maxRecDepth 100000 in
theorem verdererlaw04_few.calls (k : Nat) (A0 : Option Addr) (c0 : Nat) (l0 : List (S50)) (r : Bool) (w : World) (hr0 : Kd.C k50 w A0 l0.length l0) (hc0 : l0.length ≤ c0) (h : verdererlaw04_few.f k l0 = some r) :
    Calls Try.prog 31 #[.slice A0 l0.length c0] w fun e w' => e = .returned (.bool r) ∧ Drawn0 w w' := by
  have HR0 := Aside0.mk hr0
  have HC0 := Aside0.mk hc0
  clear hr0 hc0
  have H : (if (l0.length : Int) > 100 then (some false) else (verdererlaw04_few.l0 k l0 0)) = some r := h
  clear h
  by_cases c2 : (l0.length : Int) > 100
  · rw [if_pos c2] at H
    have c2b0 : decide (100 < (l0.length : Int)) = true := decide_eq_true c2
    have c2b1 : decide (100 < l0.length) = true := decide_eq_true (by omega)
    clear c2
    obtain rfl := Option.some.inj H
    go_enter Try.func31,Try.ntmps31
    go_wp2
    go_ret
    exact ⟨by first | rfl | (simp;done) | (simp [*];done),by repeat (first | exact Drawn0.refl _ | apply Drawn0.step)⟩
  · rw [if_neg c2] at H
    have c2b0 : decide (100 < (l0.length : Int)) = false := decide_eq_false c2
    have c2b1 : decide (100 < l0.length) = false := decide_eq_false (by omega)
    clear c2
    have H' := Aside0.mk H
    clear H
    go_enter Try.func31,Try.ntmps31
    go_wp2
    go_loopg [3] k (fun kq v3 w' => ∃ (x3_1 : Int),v3 = .int .i64 x3_1 ∧ Aside0 (verdererlaw04_few.l0 kq l0 x3_1 = some r) ∧ Aside0 (kq ≤ k) ∧ Drawn0 w w')
    case atStart => exact ⟨(0),(by first | rfl | (simp;done) | (simp [*];done)),H',⟨Nat.le_refl _⟩,by repeat (first | exact Drawn0.refl _ | apply Drawn0.step)⟩
    case round =>
      clear H'
      try clear c2
      try clear c2b0
      try clear c2b1
      try clear p2
      obtain ⟨x3_1,rfl,HA,HK1,⟨m1,rfl⟩⟩ := hrel
      cases gk with
      | zero => exact absurd HA.out (by simp [verdererlaw04_few.l0])
      | succ k1 =>
        have H := HA.out
        clear HA
        simp only [verdererlaw04_few.l0] at H
        by_cases c3 : x3_1 < (l0.length : Int)
        · rw [if_pos c3] at H
          have c3b0 : decide (x3_1 < (l0.length : Int)) = true := decide_eq_true c3
          clear c3
          by_cases c4 : 0 ≤ x3_1
          · rw [if_pos c4] at H
            have c4b0 : decide (0 ≤ x3_1) = true := decide_eq_true c4
            clear c4
            by_cases c5 : (((rd_T50 l0 x3_1).f3).size : Int) > 500
            · rw [if_pos c5] at H
              have c5b0 : decide (500 < (((rd_T50 l0 x3_1).f3).size : Int)) = true := decide_eq_true c5
              have c5b1 : decide (500 < ((rd_T50 l0 x3_1).f3).size) = true := decide_eq_true (by omega)
              clear c5
              obtain rfl := Option.some.inj H
              have p402 : 0 ≤ (x3_1 : Int) := of_decide_eq_true (by first | (with_reducible assumption) | assumption)
              have q402 : x3_1 < (l0.length : Int) := of_decide_eq_true (by first | (with_reducible assumption) | assumption)
              obtain ⟨ad402,e402,hx402_0,hx402_1,hx402_2,hx402_3⟩ := at_T50 HR0.out x3_1 p402 q402
              cases e402
              replace p402 := eq_true p402
              replace q402 := eq_true q402
              go_wp2
              go_ret
              exact ⟨by first | rfl | (simp;done) | (simp [*];done),by repeat (first | exact Drawn0.refl _ | apply Drawn0.step)⟩
            · rw [if_neg c5] at H
              have c5b0 : decide (500 < (((rd_T50 l0 x3_1).f3).size : Int)) = false := decide_eq_false c5
              have c5b1 : decide (500 < ((rd_T50 l0 x3_1).f3).size) = false := decide_eq_false (by omega)
              clear c5
              have H' := Aside0.mk H
              clear H
              have p402 : 0 ≤ (x3_1 : Int) := of_decide_eq_true (by first | (with_reducible assumption) | assumption)
              have q402 : x3_1 < (l0.length : Int) := of_decide_eq_true (by first | (with_reducible assumption) | assumption)
              obtain ⟨ad402,e402,hx402_0,hx402_1,hx402_2,hx402_3⟩ := at_T50 HR0.out x3_1 p402 q402
              cases e402
              replace p402 := eq_true p402
              replace q402 := eq_true q402
              go_wp2
              go_roundg k1
              case measure => have := HK1.out;omega
              case rel => exact ⟨(wrap64 (x3_1 + 1)),(by first | rfl | (simp;done) | (simp [*];done)),H',⟨by have := HK1.out;omega⟩,by repeat (first | exact Drawn0.refl _ | apply Drawn0.step)⟩
          · rw [if_neg c4] at H
            exact absurd H (by simp)
        · rw [if_neg c3] at H
          have c3b0 : decide (x3_1 < (l0.length : Int)) = false := decide_eq_false c3
          clear c3
          obtain rfl := Option.some.inj H
          go_wp2
          go_ret
          exact ⟨by first | rfl | (simp;done) | (simp [*];done),by repeat (first | exact Drawn0.refl _ | apply Drawn0.step)⟩
end Go.Proofs.Ytfoaeigoajooeaa.Z
namespace Go.Proofs.Ytfoaeigoajooeaa.Z
open Go.RowKit Go.Proofs.YtfoaeigoajooeaaW.PrintWords Go.Proofs.YtfoaeigoajooeaaW.PrintLast Go.Proofs.YtfoaeigoajooeaaW.PrintMore
attribute [local go_sem] max2_int min2_int max_two min_two max_three min_three max_four min_four
set_option linter.unusedVariables false
set_option linter.unusedSimpArgs false
theorem eqA50 (d : Nat) (w : World) (x0 y0 : Int) (x1 y1 : Bool) (x2 y2 : Int) (x3 y3 : ByteArray) :
    (Op.equalIn (d + 2) 50 (.agg #[.int .i64 x0,.bool x1,.int .i64 x2,.string x3]) (.agg #[.int .i64 y0,.bool y1,.int .i64 y2,.string y3])).run Try.prog w = .ok (x0 == y0 && (x1 == y1 && (x2 == y2 && (x3.toList == y3.toList)))) w := by
  refine eqA_of Try.underlying50 (by kernel_rfl) ?_
  refine eqf_cons (by rfl) (by go_simp;rfl) (by go_simp;rfl) (by go_simp) ?_
  refine eqf_cons (by rfl) (by go_simp;rfl) (by go_simp;rfl) (by go_simp) ?_
  refine eqf_cons (by rfl) (by go_simp;rfl) (by go_simp;rfl) (by go_simp) ?_
  exact eqf_last (by rfl) (by go_simp;rfl) (by go_simp;rfl) (by go_simp)
end Go.Proofs.Ytfoaeigoajooeaa.Z
namespace Go.Proofs.Ytfoaeigoajooeaa.Z
open Go.RowKit Go.Proofs.YtfoaeigoajooeaaW.PrintWords Go.Proofs.YtfoaeigoajooeaaW.PrintLast Go.Proofs.YtfoaeigoajooeaaW.PrintMore
attribute [local go_sem] max2_int min2_int max_two min_two max_three min_three max_four min_four
set_option linter.unusedVariables false
set_option linter.unusedSimpArgs false
/-! ### value_Int: function 42 -/
def value_Int.f (a0 : Int) : Option (Int × Bool × Int × ByteArray) := some (2,false,a0,(⟨#[]⟩ : ByteArray))
set_option maxHeartbeats 8000000 in
set_option maxRecDepth 100000 in
theorem value_Int.calls (a0 : Int) (r1 : Int) (r2 : Bool) (r3 : Int) (r4 : ByteArray) (w : World) (h : value_Int.f a0 = some (r1,r2,r3,r4)) :
    Calls Try.prog 42 #[.int .i64 a0] w fun e w' => e = .returned (.agg #[.int .i64 r1,.bool r2,.int .i64 r3,.string r4]) ∧ Below w.heap.size w w' := by
  have hu50 := Try.underlying50
  have HB := Aside0.mk (Below.refl w.heap.size w)
  have H : (some (2,false,a0,(⟨#[]⟩ : ByteArray))) = some (r1,r2,r3,r4) := h
  clear h
  simp only [Option.some.injEq,Prod.mk.injEq] at H
  obtain ⟨rfl,rfl,rfl,rfl⟩ := H
  go_enter Try.func42,Try.ntmps42
  go_wp2_with (first | ((with_reducible refine gate_dst (N := 2) rfl ?_);refine box_event ?hg (N := 2) ?hd (cs := #[.int .i64 0,.bool false,.int .i64 0,.string (⟨#[]⟩ : ByteArray)]) (t := 50) ?hr ?_;(case hd => rfl);(case hg => rfl);(case hr => first | (go_simp;done) | (go_simp;rfl));intro gb150 hg w2 hbox hb;have n0_ := Aside0.mk (below_step (by repeat (first | (with_reducible first | exact HB.out | apply below_alloc | apply pw_below_drewN | apply below_drew1) | exact HB.out)) hb);have n1_ := Aside0.mk (hbox);have n2_ := Aside0.mk ((by rw [hg];exact (below_size (by repeat (first | (with_reducible first | exact HB.out | apply below_alloc | apply pw_below_drewN | apply below_drew1) | exact HB.out))) : w.heap.size ≤ gb150));have n3_ := Aside0.mk ((by rw [hg];exact (below_size (by repeat (first | (with_reducible first | exact HB.out | apply below_alloc | apply pw_below_drewN | apply below_drew1) | exact HB.out))) : w.heap.size ≤ gb150));clear HB;have HB := n0_;have BK150 := n1_;have GW150 := n2_;have GE150 := n3_;clear n0_ n1_ n2_ n3_;clear hb hbox hg;have hcz3_0 : w2.cell? ⟨gb150,0,none⟩ = some (.int .i64 0) := (blk_cell BK150.out 0).trans rfl;have hcz3_1 : w2.cell? ⟨gb150,1,none⟩ = some (.bool false) := (blk_cell BK150.out 1).trans rfl;have hcz3_2 : w2.cell? ⟨gb150,2,none⟩ = some (.int .i64 0) := (blk_cell BK150.out 2).trans rfl;have hcz3_3 : w2.cell? ⟨gb150,3,none⟩ = some (.string (⟨#[]⟩ : ByteArray)) := (blk_cell BK150.out 3).trans rfl;have hfz3_0 := blk_frozen BK150.out 0;have hfz3_1 := blk_frozen BK150.out 1;have hfz3_2 := blk_frozen BK150.out 2;have hfz3_3 := blk_frozen BK150.out 3))
  refine bodyPost_ret (results_cell_row rfl _ _ gb150 50 #[.int .i64 2,.bool false,.int .i64 a0,.string (⟨#[]⟩ : ByteArray)] (0,0) _ rfl (by (with_reducible repeat (first | refine blk_drewN ?_ _ | refine blk_drew ?_ | refine blk_alloc ?_ _));refine blk_put (cs := #[.int .i64 2,.bool false,.int .i64 a0,.string (⟨#[]⟩ : ByteArray)]) ?_ 3 _ rfl;(with_reducible repeat (first | refine blk_drewN ?_ _ | refine blk_drew ?_ | refine blk_alloc ?_ _));refine blk_put (cs := #[.int .i64 2,.bool false,.int .i64 0,.string (⟨#[]⟩ : ByteArray)]) ?_ 2 _ rfl;(with_reducible repeat (first | refine blk_drewN ?_ _ | refine blk_drew ?_ | refine blk_alloc ?_ _));refine blk_put (cs := #[.int .i64 2,.bool false,.int .i64 0,.string (⟨#[]⟩ : ByteArray)]) ?_ 1 _ rfl;(with_reducible repeat (first | refine blk_drewN ?_ _ | refine blk_drew ?_ | refine blk_alloc ?_ _));refine blk_put (cs := #[.int .i64 0,.bool false,.int .i64 0,.string (⟨#[]⟩ : ByteArray)]) ?_ 0 _ rfl;(with_reducible repeat (first | refine blk_drewN ?_ _ | refine blk_drew ?_ | refine blk_alloc ?_ _));exact BK150.out) Try.underlying50 rfl (by kernel_rfl)) rfl ?_
  exact ⟨by first | rfl | (simp [errW_none,errW_some] <;> rfl) | (simp [*,errW_none,errW_some] <;> rfl),by repeat (first | (with_reducible first | exact HB.out | apply below_alloc | apply pw_below_drewN | apply below_drew1 | refine below_set ?_ GE150.out) | exact HB.out)⟩
end Go.Proofs.Ytfoaeigoajooeaa.Z
namespace Go.Proofs.Ytfoaeigoajooeaa.Z
open Go.RowKit Go.Proofs.YtfoaeigoajooeaaW.PrintWords Go.Proofs.YtfoaeigoajooeaaW.PrintLast Go.Proofs.YtfoaeigoajooeaaW.PrintMore
attribute [local go_sem] max2_int min2_int max_two min_two max_three min_three max_four min_four
set_option linter.unusedVariables false
set_option linter.unusedSimpArgs false
/-! ### value_Bool: function 43 -/
def value_Bool.f (a0 : Bool) : Option (Int × Bool × Int × ByteArray) := some (1,a0,0,(⟨#[]⟩ : ByteArray))
set_option maxHeartbeats 8000000 in
set_option maxRecDepth 100000 in
theorem value_Bool.calls (a0 : Bool) (r1 : Int) (r2 : Bool) (r3 : Int) (r4 : ByteArray) (w : World) (h : value_Bool.f a0 = some (r1,r2,r3,r4)) :
    Calls Try.prog 43 #[.bool a0] w fun e w' => e = .returned (.agg #[.int .i64 r1,.bool r2,.int .i64 r3,.string r4]) ∧ Below w.heap.size w w' := by
  have hu50 := Try.underlying50
  have HB := Aside0.mk (Below.refl w.heap.size w)
  have H : (some (1,a0,0,(⟨#[]⟩ : ByteArray))) = some (r1,r2,r3,r4) := h
  clear h
  simp only [Option.some.injEq,Prod.mk.injEq] at H
  obtain ⟨rfl,rfl,rfl,rfl⟩ := H
  go_enter Try.func43,Try.ntmps43
  go_wp2_with (first | ((with_reducible refine gate_dst (N := 2) rfl ?_);refine box_event ?hg (N := 2) ?hd (cs := #[.int .i64 0,.bool false,.int .i64 0,.string (⟨#[]⟩ : ByteArray)]) (t := 50) ?hr ?_;(case hd => rfl);(case hg => rfl);(case hr => first | (go_simp;done) | (go_simp;rfl));intro gb151 hg w2 hbox hb;have n0_ := Aside0.mk (below_step (by repeat (first | (with_reducible first | exact HB.out | apply below_alloc | apply pw_below_drewN | apply below_drew1) | exact HB.out)) hb);have n1_ := Aside0.mk (hbox);have n2_ := Aside0.mk ((by rw [hg];exact (below_size (by repeat (first | (with_reducible first | exact HB.out | apply below_alloc | apply pw_below_drewN | apply below_drew1) | exact HB.out))) : w.heap.size ≤ gb151));have n3_ := Aside0.mk ((by rw [hg];exact (below_size (by repeat (first | (with_reducible first | exact HB.out | apply below_alloc | apply pw_below_drewN | apply below_drew1) | exact HB.out))) : w.heap.size ≤ gb151));clear HB;have HB := n0_;have BK151 := n1_;have GW151 := n2_;have GE151 := n3_;clear n0_ n1_ n2_ n3_;clear hb hbox hg;have hcz3_0 : w2.cell? ⟨gb151,0,none⟩ = some (.int .i64 0) := (blk_cell BK151.out 0).trans rfl;have hcz3_1 : w2.cell? ⟨gb151,1,none⟩ = some (.bool false) := (blk_cell BK151.out 1).trans rfl;have hcz3_2 : w2.cell? ⟨gb151,2,none⟩ = some (.int .i64 0) := (blk_cell BK151.out 2).trans rfl;have hcz3_3 : w2.cell? ⟨gb151,3,none⟩ = some (.string (⟨#[]⟩ : ByteArray)) := (blk_cell BK151.out 3).trans rfl;have hfz3_0 := blk_frozen BK151.out 0;have hfz3_1 := blk_frozen BK151.out 1;have hfz3_2 := blk_frozen BK151.out 2;have hfz3_3 := blk_frozen BK151.out 3))
  refine bodyPost_ret (results_cell_row rfl _ _ gb151 50 #[.int .i64 1,.bool a0,.int .i64 0,.string (⟨#[]⟩ : ByteArray)] (0,0) _ rfl (by (with_reducible repeat (first | refine blk_drewN ?_ _ | refine blk_drew ?_ | refine blk_alloc ?_ _));refine blk_put (cs := #[.int .i64 1,.bool a0,.int .i64 0,.string (⟨#[]⟩ : ByteArray)]) ?_ 3 _ rfl;(with_reducible repeat (first | refine blk_drewN ?_ _ | refine blk_drew ?_ | refine blk_alloc ?_ _));refine blk_put (cs := #[.int .i64 1,.bool a0,.int .i64 0,.string (⟨#[]⟩ : ByteArray)]) ?_ 2 _ rfl;(with_reducible repeat (first | refine blk_drewN ?_ _ | refine blk_drew ?_ | refine blk_alloc ?_ _));refine blk_put (cs := #[.int .i64 1,.bool false,.int .i64 0,.string (⟨#[]⟩ : ByteArray)]) ?_ 1 _ rfl;(with_reducible repeat (first | refine blk_drewN ?_ _ | refine blk_drew ?_ | refine blk_alloc ?_ _));refine blk_put (cs := #[.int .i64 0,.bool false,.int .i64 0,.string (⟨#[]⟩ : ByteArray)]) ?_ 0 _ rfl;(with_reducible repeat (first | refine blk_drewN ?_ _ | refine blk_drew ?_ | refine blk_alloc ?_ _));exact BK151.out) Try.underlying50 rfl (by kernel_rfl)) rfl ?_
  exact ⟨by first | rfl | (simp [errW_none,errW_some] <;> rfl) | (simp [*,errW_none,errW_some] <;> rfl),by repeat (first | (with_reducible first | exact HB.out | apply below_alloc | apply pw_below_drewN | apply below_drew1 | refine below_set ?_ GE151.out) | exact HB.out)⟩
end Go.Proofs.Ytfoaeigoajooeaa.Z
namespace Go.Proofs.Ytfoaeigoajooeaa.Z
open Go.RowKit Go.Proofs.YtfoaeigoajooeaaW.PrintWords Go.Proofs.YtfoaeigoajooeaaW.PrintLast Go.Proofs.YtfoaeigoajooeaaW.PrintMore
attribute [local go_sem] max2_int min2_int max_two min_two max_three min_three max_four min_four
set_option linter.unusedVariables false
set_option linter.unusedSimpArgs false
/-! ### value_Null: function 44 -/
def value_Null.f  : Option (Int × Bool × Int × ByteArray) := some (0,false,0,(⟨#[]⟩ : ByteArray))
set_option maxHeartbeats 8000000 in
set_option maxRecDepth 100000 in
theorem value_Null.calls  (r1 : Int) (r2 : Bool) (r3 : Int) (r4 : ByteArray) (w : World) (h : value_Null.f  = some (r1,r2,r3,r4)) :
    Calls Try.prog 44 #[] w fun e w' => e = .returned (.agg #[.int .i64 r1,.bool r2,.int .i64 r3,.string r4]) ∧ Below w.heap.size w w' := by
  have hu50 := Try.underlying50
  have HB := Aside0.mk (Below.refl w.heap.size w)
  have H : (some (0,false,0,(⟨#[]⟩ : ByteArray))) = some (r1,r2,r3,r4) := h
  clear h
  simp only [Option.some.injEq,Prod.mk.injEq] at H
  obtain ⟨rfl,rfl,rfl,rfl⟩ := H
  go_enter Try.func44,Try.ntmps44
  go_wp2_with (first | ((with_reducible refine gate_dst (N := 0) rfl ?_);refine box_event ?hg (N := 0) ?hd (cs := #[.int .i64 0,.bool false,.int .i64 0,.string (⟨#[]⟩ : ByteArray)]) (t := 50) ?hr ?_;(case hd => rfl);(case hg => rfl);(case hr => first | (go_simp;done) | (go_simp;rfl));intro gb152 hg w1 hbox hb;have n0_ := Aside0.mk (below_step (by repeat (first | (with_reducible first | exact HB.out | apply below_alloc | apply pw_below_drewN | apply below_drew1) | exact HB.out)) hb);have n1_ := Aside0.mk (hbox);have n2_ := Aside0.mk ((by rw [hg];exact (below_size (by repeat (first | (with_reducible first | exact HB.out | apply below_alloc | apply pw_below_drewN | apply below_drew1) | exact HB.out))) : w.heap.size ≤ gb152));have n3_ := Aside0.mk ((by rw [hg];exact (below_size (by repeat (first | (with_reducible first | exact HB.out | apply below_alloc | apply pw_below_drewN | apply below_drew1) | exact HB.out))) : w.heap.size ≤ gb152));clear HB;have HB := n0_;have BK152 := n1_;have GW152 := n2_;have GE152 := n3_;clear n0_ n1_ n2_ n3_;clear hb hbox hg;have hcz2_0 : w1.cell? ⟨gb152,0,none⟩ = some (.int .i64 0) := (blk_cell BK152.out 0).trans rfl;have hcz2_1 : w1.cell? ⟨gb152,1,none⟩ = some (.bool false) := (blk_cell BK152.out 1).trans rfl;have hcz2_2 : w1.cell? ⟨gb152,2,none⟩ = some (.int .i64 0) := (blk_cell BK152.out 2).trans rfl;have hcz2_3 : w1.cell? ⟨gb152,3,none⟩ = some (.string (⟨#[]⟩ : ByteArray)) := (blk_cell BK152.out 3).trans rfl;have hfz2_0 := blk_frozen BK152.out 0;have hfz2_1 := blk_frozen BK152.out 1;have hfz2_2 := blk_frozen BK152.out 2;have hfz2_3 := blk_frozen BK152.out 3))
  refine bodyPost_ret (results_cell_row rfl _ _ gb152 50 #[.int .i64 0,.bool false,.int .i64 0,.string (⟨#[]⟩ : ByteArray)] (0,0) _ rfl (by (with_reducible repeat (first | refine blk_drewN ?_ _ | refine blk_drew ?_ | refine blk_alloc ?_ _));refine blk_put (cs := #[.int .i64 0,.bool false,.int .i64 0,.string (⟨#[]⟩ : ByteArray)]) ?_ 3 _ rfl;(with_reducible repeat (first | refine blk_drewN ?_ _ | refine blk_drew ?_ | refine blk_alloc ?_ _));refine blk_put (cs := #[.int .i64 0,.bool false,.int .i64 0,.string (⟨#[]⟩ : ByteArray)]) ?_ 2 _ rfl;(with_reducible repeat (first | refine blk_drewN ?_ _ | refine blk_drew ?_ | refine blk_alloc ?_ _));refine blk_put (cs := #[.int .i64 0,.bool false,.int .i64 0,.string (⟨#[]⟩ : ByteArray)]) ?_ 1 _ rfl;(with_reducible repeat (first | refine blk_drewN ?_ _ | refine blk_drew ?_ | refine blk_alloc ?_ _));refine blk_put (cs := #[.int .i64 0,.bool false,.int .i64 0,.string (⟨#[]⟩ : ByteArray)]) ?_ 0 _ rfl;(with_reducible repeat (first | refine blk_drewN ?_ _ | refine blk_drew ?_ | refine blk_alloc ?_ _));exact BK152.out) Try.underlying50 rfl (by kernel_rfl)) rfl ?_
  exact ⟨by first | rfl | (simp [errW_none,errW_some] <;> rfl) | (simp [*,errW_none,errW_some] <;> rfl),by repeat (first | (with_reducible first | exact HB.out | apply below_alloc | apply pw_below_drewN | apply below_drew1 | refine below_set ?_ GE152.out) | exact HB.out)⟩
end Go.Proofs.Ytfoaeigoajooeaa.Z
namespace Go.Proofs.Ytfoaeigoajooeaa.Z
open Go.RowKit Go.Proofs.YtfoaeigoajooeaaW.PrintWords Go.Proofs.YtfoaeigoajooeaaW.PrintLast Go.Proofs.YtfoaeigoajooeaaW.PrintMore
attribute [local go_sem] max2_int min2_int max_two min_two max_three min_three max_four min_four
set_option linter.unusedVariables false
set_option linter.unusedSimpArgs false
/-! ### value_Text: function 61 -/
def value_Text.f (a0 : ByteArray) : Option (Int × Bool × Int × ByteArray) := some (3,false,0,a0)
set_option maxHeartbeats 8000000 in
set_option maxRecDepth 100000 in
theorem value_Text.calls (a0 : ByteArray) (r1 : Int) (r2 : Bool) (r3 : Int) (r4 : ByteArray) (w : World) (h : value_Text.f a0 = some (r1,r2,r3,r4)) :
    Calls Try.prog 61 #[.string a0] w fun e w' => e = .returned (.agg #[.int .i64 r1,.bool r2,.int .i64 r3,.string r4]) ∧ Below w.heap.size w w' := by
  have hu50 := Try.underlying50
  have HB := Aside0.mk (Below.refl w.heap.size w)
  have H : (some (3,false,0,a0)) = some (r1,r2,r3,r4) := h
  clear h
  simp only [Option.some.injEq,Prod.mk.injEq] at H
  obtain ⟨rfl,rfl,rfl,rfl⟩ := H
  go_enter Try.func61,Try.ntmps61
  go_wp2_with (first | ((with_reducible refine gate_dst (N := 2) rfl ?_);refine box_event ?hg (N := 2) ?hd (cs := #[.int .i64 0,.bool false,.int .i64 0,.string (⟨#[]⟩ : ByteArray)]) (t := 50) ?hr ?_;(case hd => rfl);(case hg => rfl);(case hr => first | (go_simp;done) | (go_simp;rfl));intro gb303 hg w2 hbox hb;have n0_ := Aside0.mk (below_step (by repeat (first | (with_reducible first | exact HB.out | apply below_alloc | apply pw_below_drewN | apply below_drew1) | exact HB.out)) hb);have n1_ := Aside0.mk (hbox);have n2_ := Aside0.mk ((by rw [hg];exact (below_size (by repeat (first | (with_reducible first | exact HB.out | apply below_alloc | apply pw_below_drewN | apply below_drew1) | exact HB.out))) : w.heap.size ≤ gb303));have n3_ := Aside0.mk ((by rw [hg];exact (below_size (by repeat (first | (with_reducible first | exact HB.out | apply below_alloc | apply pw_below_drewN | apply below_drew1) | exact HB.out))) : w.heap.size ≤ gb303));clear HB;have HB := n0_;have BK303 := n1_;have GW303 := n2_;have GE303 := n3_;clear n0_ n1_ n2_ n3_;clear hb hbox hg;have hcz3_0 : w2.cell? ⟨gb303,0,none⟩ = some (.int .i64 0) := (blk_cell BK303.out 0).trans rfl;have hcz3_1 : w2.cell? ⟨gb303,1,none⟩ = some (.bool false) := (blk_cell BK303.out 1).trans rfl;have hcz3_2 : w2.cell? ⟨gb303,2,none⟩ = some (.int .i64 0) := (blk_cell BK303.out 2).trans rfl;have hcz3_3 : w2.cell? ⟨gb303,3,none⟩ = some (.string (⟨#[]⟩ : ByteArray)) := (blk_cell BK303.out 3).trans rfl;have hfz3_0 := blk_frozen BK303.out 0;have hfz3_1 := blk_frozen BK303.out 1;have hfz3_2 := blk_frozen BK303.out 2;have hfz3_3 := blk_frozen BK303.out 3))
  refine bodyPost_ret (results_cell_row rfl _ _ gb303 50 #[.int .i64 3,.bool false,.int .i64 0,.string a0] (0,0) _ rfl (by (with_reducible repeat (first | refine blk_drewN ?_ _ | refine blk_drew ?_ | refine blk_alloc ?_ _));refine blk_put (cs := #[.int .i64 3,.bool false,.int .i64 0,.string (⟨#[]⟩ : ByteArray)]) ?_ 3 _ rfl;(with_reducible repeat (first | refine blk_drewN ?_ _ | refine blk_drew ?_ | refine blk_alloc ?_ _));refine blk_put (cs := #[.int .i64 3,.bool false,.int .i64 0,.string (⟨#[]⟩ : ByteArray)]) ?_ 2 _ rfl;(with_reducible repeat (first | refine blk_drewN ?_ _ | refine blk_drew ?_ | refine blk_alloc ?_ _));refine blk_put (cs := #[.int .i64 3,.bool false,.int .i64 0,.string (⟨#[]⟩ : ByteArray)]) ?_ 1 _ rfl;(with_reducible repeat (first | refine blk_drewN ?_ _ | refine blk_drew ?_ | refine blk_alloc ?_ _));refine blk_put (cs := #[.int .i64 0,.bool false,.int .i64 0,.string (⟨#[]⟩ : ByteArray)]) ?_ 0 _ rfl;(with_reducible repeat (first | refine blk_drewN ?_ _ | refine blk_drew ?_ | refine blk_alloc ?_ _));exact BK303.out) Try.underlying50 rfl (by kernel_rfl)) rfl ?_
  exact ⟨by first | rfl | (simp [errW_none,errW_some] <;> rfl) | (simp [*,errW_none,errW_some] <;> rfl),by repeat (first | (with_reducible first | exact HB.out | apply below_alloc | apply pw_below_drewN | apply below_drew1 | refine below_set ?_ GE303.out) | exact HB.out)⟩
end Go.Proofs.Ytfoaeigoajooeaa.Z
namespace Go.Proofs.Ytfoaeigoajooeaa.Z
open Go.RowKit Go.Proofs.YtfoaeigoajooeaaW.PrintWords Go.Proofs.YtfoaeigoajooeaaW.PrintLast Go.Proofs.YtfoaeigoajooeaaW.PrintMore
attribute [local go_sem] max2_int min2_int max_two min_two max_three min_three max_four min_four
set_option linter.unusedVariables false
set_option linter.unusedSimpArgs false
attribute [local go_sem high] eqA50
/-! ### value_Right: function 52 -/
def value_Right.f (a0_0 : Int) (a0_1 : Bool) (a0_2 : Int) (a0_3 : ByteArray) : Option (Bool) := if a0_0 = 0 then ((value_Null.f).bind fun bt305 => (some (a0_0 == bt305.1 && (a0_1 == bt305.2.1 && (a0_2 == bt305.2.2.1 && (a0_3.toList == bt305.2.2.2.toList)))))) else (if a0_0 = 1 then ((value_Bool.f a0_1).bind fun bt309 => (some (a0_0 == bt309.1 && (a0_1 == bt309.2.1 && (a0_2 == bt309.2.2.1 && (a0_3.toList == bt309.2.2.2.toList)))))) else (if a0_0 = 2 then ((value_Int.f a0_2).bind fun bt313 => (some (a0_0 == bt313.1 && (a0_1 == bt313.2.1 && (a0_2 == bt313.2.2.1 && (a0_3.toList == bt313.2.2.2.toList)))))) else (if a0_0 = 3 then ((value_Text.f a0_3).bind fun bt317 => (if (a0_0 == bt317.1 && (a0_1 == bt317.2.1 && (a0_2 == bt317.2.2.1 && (a0_3.toList == bt317.2.2.2.toList)))) = true then (some (decide ((a0_3.size : Int) ≤ 60))) else (some false))) else (some false))))
def value_Right.T9 : Bool × List (List Nat × List Nat) := (true,[([],[]),([],[]),([1],[1]),([2],[2]),([0,3],[0,3]),([4,3],[4]),([5],[5]),([6,5],[5,6]),([7,5],[5,7]),([8,5],[5,8]),([5,9],[5,9]),([10,5,0,1,2,3,4,5,6,7,8,9,10],[10])])
def value_Right.B9 : List Nat := [0,0,2,6,15,31,63,127,255,511,1023,2047]
theorem value_Right.tab9 : rtab .any (opsOf Try.f52 9) = value_Right.T9 := by kernel_rfl
theorem value_Right.bits9 : waitsOk value_Right.T9.2 value_Right.B9 = true := by kernel_rfl
set_option maxHeartbeats 8000000 in
set_option maxRecDepth 100000 in
theorem value_Right.calls (a0_0 : Int) (a0_1 : Bool) (a0_2 : Int) (a0_3 : ByteArray) (r : Bool) (w : World) (h : value_Right.f a0_0 a0_1 a0_2 a0_3 = some r) :
    Calls Try.prog 52 #[.agg #[.int .i64 a0_0,.bool a0_1,.int .i64 a0_2,.string a0_3]] w fun e w' => e = .returned (.bool r) ∧ Below w.heap.size w w' := by
  have hu50 := Try.underlying50
  have HB := Aside0.mk (Below.refl w.heap.size w)
  have H : (if a0_0 = 0 then ((value_Null.f).bind fun bt305 => (some (a0_0 == bt305.1 && (a0_1 == bt305.2.1 && (a0_2 == bt305.2.2.1 && (a0_3.toList == bt305.2.2.2.toList)))))) else (if a0_0 = 1 then ((value_Bool.f a0_1).bind fun bt309 => (some (a0_0 == bt309.1 && (a0_1 == bt309.2.1 && (a0_2 == bt309.2.2.1 && (a0_3.toList == bt309.2.2.2.toList)))))) else (if a0_0 = 2 then ((value_Int.f a0_2).bind fun bt313 => (some (a0_0 == bt313.1 && (a0_1 == bt313.2.1 && (a0_2 == bt313.2.2.1 && (a0_3.toList == bt313.2.2.2.toList)))))) else (if a0_0 = 3 then ((value_Text.f a0_3).bind fun bt317 => (if (a0_0 == bt317.1 && (a0_1 == bt317.2.1 && (a0_2 == bt317.2.2.1 && (a0_3.toList == bt317.2.2.2.toList)))) = true then (some (decide ((a0_3.size : Int) ≤ 60))) else (some false))) else (some false))))) = some r := h
  clear h
  by_cases c2 : a0_0 = 0
  · rw [if_pos c2] at H
    have c2b0 : (a0_0 == 0) = true := beq_iff_eq.mpr c2
    have c2b1 : (a0_0 != 0) = false := bne_eq_false_iff_eq.mpr c2
    clear c2
    replace H := Option.bind_eq_some_iff.mp H
    obtain ⟨⟨t305,t306,t307,t308⟩,A30,H⟩ := H
    replace H : (some (a0_0 == t305 && (a0_1 == t306 && (a0_2 == t307 && (a0_3.toList == t308.toList))))) = some r := H
    have A3 := Aside0.mk A30
    clear A30
    obtain rfl := Option.some.inj H
    go_enter Try.func52,Try.ntmps52
    try go_wp2_with (first | ((with_reducible refine gate_dst (N := 1) rfl ?_);(try (refine gate_guard (by rfl) ?_;dsimp only));refine box_event ?hg (N := 1) ?hd (cs := #[.int .i64 a0_0,.bool a0_1,.int .i64 a0_2,.string a0_3]) (t := 50) ?hr ?_;(case hd => rfl);(case hg => rfl);(case hr => first | (go_simp;done) | (go_simp;rfl));intro gb304 hg w4 hbox hb;have n0_ := Aside0.mk (below_step (by repeat (first | (with_reducible first | exact HB.out | apply below_alloc | apply pw_below_drewN | apply below_drew1) | exact HB.out)) hb);have n1_ := Aside0.mk (hbox);have n2_ := Aside0.mk ((by rw [hg];exact (below_size (by repeat (first | (with_reducible first | exact HB.out | apply below_alloc | apply pw_below_drewN | apply below_drew1) | exact HB.out))) : w.heap.size ≤ gb304));have n3_ := Aside0.mk ((by rw [hg];exact (below_size (by repeat (first | (with_reducible first | exact HB.out | apply below_alloc | apply pw_below_drewN | apply below_drew1) | exact HB.out))) : w.heap.size ≤ gb304));clear HB;have HB := n0_;have BK304 := n1_;have GW304 := n2_;have GE304 := n3_;clear n0_ n1_ n2_ n3_;clear hb hbox hg;have hcz5_0 : w4.cell? ⟨gb304,0,none⟩ = some (.int .i64 a0_0) := (blk_cell BK304.out 0).trans rfl;have hcz5_1 : w4.cell? ⟨gb304,1,none⟩ = some (.bool a0_1) := (blk_cell BK304.out 1).trans rfl;have hcz5_2 : w4.cell? ⟨gb304,2,none⟩ = some (.int .i64 a0_2) := (blk_cell BK304.out 2).trans rfl;have hcz5_3 : w4.cell? ⟨gb304,3,none⟩ = some (.string a0_3) := (blk_cell BK304.out 3).trans rfl;have hfz5_0 := blk_frozen BK304.out 0;have hfz5_1 := blk_frozen BK304.out 1;have hfz5_2 := blk_frozen BK304.out 2;have hfz5_3 := blk_frozen BK304.out 3))
    have n0_ := Aside0.mk (blk_drew BK304.out)
    have n1_ := Aside0.mk (below_drew1 HB.out)
    clear BK304
    clear HB
    have BK304 := n0_
    have HB := n1_
    clear n0_ n1_
    refine start_ (n := 4) (S := fun w' => w'.cell? ⟨gb304,0,none⟩ = some (.int .i64 a0_0) ∧ w'.cell? ⟨gb304,1,none⟩ = some (.bool a0_1) ∧ w'.cell? ⟨gb304,2,none⟩ = some (.int .i64 a0_2) ∧ w'.cell? ⟨gb304,3,none⟩ = some (.string a0_3)) (ds := []) #[false,false,false,false] (by kernel_rfl) rfl rfl ⟨(blk_cell BK304.out 0).trans rfl,(blk_cell BK304.out 1).trans rfl,(blk_cell BK304.out 2).trans rfl,(blk_cell BK304.out 3).trans rfl⟩ (fun hHeld => ?_)
    generalize w4.drew = w6 at BK304 HB hHeld ⊢
    refine take_ (i := 0) (N := some 7) (v := ?_) (a' := ?_) #[true,false,false,false] rfl rfl (by kernel_rfl) (fun _ _ _ h => h) (Or.inl ⟨by rfl,?_⟩) hHeld ?_ ?_
    rotate_left
    · rintro w' ⟨s0,s1,s2,s3⟩
      go_simp
      with_reducible rfl
    rotate_left
    · simp only [Act.put,zA,zB,zC,i64_w,i32_w]
      rfl
    refine one_ (i := 1) (N := some 8) #[true,true,false,false] rfl rfl (by kernel_rfl) (by decide) (fun K hK => ?_)
    refine goes_ Try.func44 (by kernel_rfl) rfl #[] (by rfl) rfl rfl (by (try simp only [List.map_toArray,List.map_cons,List.map_nil]);first | done | rfl | (simp only [List.length_drop,List.length_take];rfl)) ?_
    with_reducible refine (value_Null.calls  t305 t306 t307 t308 _ A3.out).mono ?_
    rintro e w7 ⟨rfl,hb⟩
    refine ⟨_,rfl,?_⟩
    have n0_ := Aside0.mk (blk_below (g := gb304) (o := .cells #[.int .i64 a0_0,.bool a0_1,.int .i64 a0_2,.string a0_3] 50 (0,0)) (by (with_reducible repeat (first | refine blk_drewN ?_ _ | refine blk_drew ?_ | refine blk_alloc ?_ _));exact BK304.out) hb)
    have n1_ := Aside0.mk (below_step (by repeat (first | (with_reducible first | exact HB.out | apply below_alloc | apply pw_below_drewN | apply below_drew1 | refine below_set ?_ GE304.out) | exact HB.out)) hb)
    clear BK304
    clear HB
    have BK304 := n0_
    have HB := n1_
    clear n0_ n1_
    (try clear hb)
    (try clear hb2)
    (try clear hk)
    (try clear hi)
    refine hK.out _ _ ⟨(blk_cell BK304.out 0).trans rfl,(blk_cell BK304.out 1).trans rfl,(blk_cell BK304.out 2).trans rfl,(blk_cell BK304.out 3).trans rfl⟩ (fun hHeld => ?_)
    clear hK K
    refine norm_ (a' := ?_) ?_ ?_
    rotate_left
    · show Act.put _ (some 8) _ = _
      simp only [Act.put,zA,zB,zC,i64_w,i32_w]
      rfl
    refine pure_ (i := 2) (N := some 9) (v := ?_) (a' := ?_) #[true,true,true,false] rfl rfl (by kernel_rfl) (fun _ _ _ h => h) (Or.inl ⟨by rfl,?_⟩) ?_ ?_
    rotate_left
    · intro w'
      go_simp
      with_reducible rfl
    rotate_left
    · simp only [Act.put,zA,zB,zC,i64_w,i32_w]
      rfl
    refine pure_ (i := 3) (N := some 2) (v := ?_) (a' := ?_) #[true,true,true,true] rfl rfl (by kernel_rfl) (fun _ _ _ h => h) (Or.inl ⟨by rfl,?_⟩) ?_ ?_
    rotate_left
    · intro w'
      go_simp
      with_reducible rfl
    rotate_left
    · simp only [Act.put,zA,zB,zC,i64_w,i32_w]
      rfl
    refine done_ (by kernel_rfl) ?_
    try go_wp2
    go_ret
    exact ⟨by first | rfl | (simp [errW_none,errW_some] <;> rfl) | (simp [*,errW_none,errW_some] <;> rfl),by repeat (first | (with_reducible first | exact HB.out | apply below_alloc | apply pw_below_drewN | apply below_drew1 | refine below_set ?_ GE304.out) | exact HB.out)⟩
  · rw [if_neg c2] at H
    have c2b0 : (a0_0 == 0) = false := beq_eq_false_iff_ne.mpr c2
    have c2b1 : (a0_0 != 0) = true := bne_iff_ne.mpr c2
    by_cases c8 : a0_0 = 1
    · rw [if_pos c8] at H
      have c8b0 : (a0_0 == 1) = true := beq_iff_eq.mpr c8
      have c8b1 : (a0_0 != 1) = false := bne_eq_false_iff_eq.mpr c8
      clear c8
      replace H := Option.bind_eq_some_iff.mp H
      obtain ⟨⟨t309,t310,t311,t312⟩,A90,H⟩ := H
      replace H : (some (a0_0 == t309 && (a0_1 == t310 && (a0_2 == t311 && (a0_3.toList == t312.toList))))) = some r := H
      have A9 := Aside0.mk A90
      clear A90
      obtain rfl := Option.some.inj H
      go_enter Try.func52,Try.ntmps52
      try go_wp2_with (first | ((with_reducible refine gate_dst (N := 1) rfl ?_);(try (refine gate_guard (by rfl) ?_;dsimp only));refine box_event ?hg (N := 1) ?hd (cs := #[.int .i64 a0_0,.bool a0_1,.int .i64 a0_2,.string a0_3]) (t := 50) ?hr ?_;(case hd => rfl);(case hg => rfl);(case hr => first | (go_simp;done) | (go_simp;rfl));intro gb304 hg w10 hbox hb;have n0_ := Aside0.mk (below_step (by repeat (first | (with_reducible first | exact HB.out | apply below_alloc | apply pw_below_drewN | apply below_drew1) | exact HB.out)) hb);have n1_ := Aside0.mk (hbox);have n2_ := Aside0.mk ((by rw [hg];exact (below_size (by repeat (first | (with_reducible first | exact HB.out | apply below_alloc | apply pw_below_drewN | apply below_drew1) | exact HB.out))) : w.heap.size ≤ gb304));have n3_ := Aside0.mk ((by rw [hg];exact (below_size (by repeat (first | (with_reducible first | exact HB.out | apply below_alloc | apply pw_below_drewN | apply below_drew1) | exact HB.out))) : w.heap.size ≤ gb304));clear HB;have HB := n0_;have BK304 := n1_;have GW304 := n2_;have GE304 := n3_;clear n0_ n1_ n2_ n3_;clear hb hbox hg;have hcz11_0 : w10.cell? ⟨gb304,0,none⟩ = some (.int .i64 a0_0) := (blk_cell BK304.out 0).trans rfl;have hcz11_1 : w10.cell? ⟨gb304,1,none⟩ = some (.bool a0_1) := (blk_cell BK304.out 1).trans rfl;have hcz11_2 : w10.cell? ⟨gb304,2,none⟩ = some (.int .i64 a0_2) := (blk_cell BK304.out 2).trans rfl;have hcz11_3 : w10.cell? ⟨gb304,3,none⟩ = some (.string a0_3) := (blk_cell BK304.out 3).trans rfl;have hfz11_0 := blk_frozen BK304.out 0;have hfz11_1 := blk_frozen BK304.out 1;have hfz11_2 := blk_frozen BK304.out 2;have hfz11_3 := blk_frozen BK304.out 3))
      have n0_ := Aside0.mk (blk_drew BK304.out)
      have n1_ := Aside0.mk (below_drew1 HB.out)
      clear BK304
      clear HB
      have BK304 := n0_
      have HB := n1_
      clear n0_ n1_
      refine start_ (n := 6) (S := fun w' => w'.cell? ⟨gb304,0,none⟩ = some (.int .i64 a0_0) ∧ w'.cell? ⟨gb304,1,none⟩ = some (.bool a0_1) ∧ w'.cell? ⟨gb304,2,none⟩ = some (.int .i64 a0_2) ∧ w'.cell? ⟨gb304,3,none⟩ = some (.string a0_3)) (ds := []) #[false,false,false,false,false,false] (by kernel_rfl) rfl rfl ⟨(blk_cell BK304.out 0).trans rfl,(blk_cell BK304.out 1).trans rfl,(blk_cell BK304.out 2).trans rfl,(blk_cell BK304.out 3).trans rfl⟩ (fun hHeld => ?_)
      generalize w10.drew = w12 at BK304 HB hHeld ⊢
      refine pure_ (i := 1) (N := some 13) (v := ?_) (a' := ?_) #[false,true,false,false,false,false] rfl rfl (by kernel_rfl) (fun _ _ _ h => h) (Or.inl ⟨by rfl,?_⟩) ?_ ?_
      rotate_left
      · intro w'
        go_simp
        with_reducible rfl
      rotate_left
      · simp only [Act.put,zA,zB,zC,i64_w,i32_w]
        rfl
      refine take_ (i := 0) (N := some 12) (v := ?_) (a' := ?_) #[true,true,false,false,false,false] rfl rfl (by kernel_rfl) (fun _ _ _ h => h) (Or.inl ⟨by rfl,?_⟩) hHeld ?_ ?_
      rotate_left
      · rintro w' ⟨s0,s1,s2,s3⟩
        go_simp
        with_reducible rfl
      rotate_left
      · simp only [Act.put,zA,zB,zC,i64_w,i32_w]
        rfl
      refine take_ (i := 2) (N := some 14) (v := ?_) (a' := ?_) #[true,true,true,false,false,false] rfl rfl (by kernel_rfl) (fun _ _ _ h => h) (Or.inl ⟨by rfl,?_⟩) hHeld ?_ ?_
      rotate_left
      · rintro w' ⟨s0,s1,s2,s3⟩
        go_simp
        with_reducible rfl
      rotate_left
      · simp only [Act.put,zA,zB,zC,i64_w,i32_w]
        rfl
      refine one_ (i := 3) (N := some 15) #[true,true,true,true,false,false] rfl rfl (by kernel_rfl) (by decide) (fun K hK => ?_)
      refine goes_ Try.func43 (by kernel_rfl) rfl #[.bool a0_1] (by rfl) rfl rfl (by (try simp only [List.map_toArray,List.map_cons,List.map_nil]);first | done | rfl | (simp only [List.length_drop,List.length_take];rfl)) ?_
      with_reducible refine (value_Bool.calls a0_1 t309 t310 t311 t312 _ A9.out).mono ?_
      rintro e w13 ⟨rfl,hb⟩
      refine ⟨_,rfl,?_⟩
      have n0_ := Aside0.mk (blk_below (g := gb304) (o := .cells #[.int .i64 a0_0,.bool a0_1,.int .i64 a0_2,.string a0_3] 50 (0,0)) (by (with_reducible repeat (first | refine blk_drewN ?_ _ | refine blk_drew ?_ | refine blk_alloc ?_ _));exact BK304.out) hb)
      have n1_ := Aside0.mk (below_step (by repeat (first | (with_reducible first | exact HB.out | apply below_alloc | apply pw_below_drewN | apply below_drew1 | refine below_set ?_ GE304.out) | exact HB.out)) hb)
      clear BK304
      clear HB
      have BK304 := n0_
      have HB := n1_
      clear n0_ n1_
      (try clear hb)
      (try clear hb2)
      (try clear hk)
      (try clear hi)
      refine hK.out _ _ ⟨(blk_cell BK304.out 0).trans rfl,(blk_cell BK304.out 1).trans rfl,(blk_cell BK304.out 2).trans rfl,(blk_cell BK304.out 3).trans rfl⟩ (fun hHeld => ?_)
      clear hK K
      refine norm_ (a' := ?_) ?_ ?_
      rotate_left
      · show Act.put _ (some 15) _ = _
        simp only [Act.put,zA,zB,zC,i64_w,i32_w]
        rfl
      refine pure_ (i := 4) (N := some 16) (v := ?_) (a' := ?_) #[true,true,true,true,true,false] rfl rfl (by kernel_rfl) (fun _ _ _ h => h) (Or.inl ⟨by rfl,?_⟩) ?_ ?_
      rotate_left
      · intro w'
        go_simp
        with_reducible rfl
      rotate_left
      · simp only [Act.put,zA,zB,zC,i64_w,i32_w]
        rfl
      refine pure_ (i := 5) (N := some 2) (v := ?_) (a' := ?_) #[true,true,true,true,true,true] rfl rfl (by kernel_rfl) (fun _ _ _ h => h) (Or.inl ⟨by rfl,?_⟩) ?_ ?_
      rotate_left
      · intro w'
        go_simp
        with_reducible rfl
      rotate_left
      · simp only [Act.put,zA,zB,zC,i64_w,i32_w]
        rfl
      refine done_ (by kernel_rfl) ?_
      try go_wp2
      go_ret
      exact ⟨by first | rfl | (simp [errW_none,errW_some] <;> rfl) | (simp [*,errW_none,errW_some] <;> rfl),by repeat (first | (with_reducible first | exact HB.out | apply below_alloc | apply pw_below_drewN | apply below_drew1 | refine below_set ?_ GE304.out) | exact HB.out)⟩
    · rw [if_neg c8] at H
      have c8b0 : (a0_0 == 1) = false := beq_eq_false_iff_ne.mpr c8
      have c8b1 : (a0_0 != 1) = true := bne_iff_ne.mpr c8
      by_cases c14 : a0_0 = 2
      · rw [if_pos c14] at H
        have c14b0 : (a0_0 == 2) = true := beq_iff_eq.mpr c14
        have c14b1 : (a0_0 != 2) = false := bne_eq_false_iff_eq.mpr c14
        clear c14
        replace H := Option.bind_eq_some_iff.mp H
        obtain ⟨⟨t313,t314,t315,t316⟩,A150,H⟩ := H
        replace H : (some (a0_0 == t313 && (a0_1 == t314 && (a0_2 == t315 && (a0_3.toList == t316.toList))))) = some r := H
        have A15 := Aside0.mk A150
        clear A150
        obtain rfl := Option.some.inj H
        go_enter Try.func52,Try.ntmps52
        try go_wp2_with (first | ((with_reducible refine gate_dst (N := 1) rfl ?_);(try (refine gate_guard (by rfl) ?_;dsimp only));refine box_event ?hg (N := 1) ?hd (cs := #[.int .i64 a0_0,.bool a0_1,.int .i64 a0_2,.string a0_3]) (t := 50) ?hr ?_;(case hd => rfl);(case hg => rfl);(case hr => first | (go_simp;done) | (go_simp;rfl));intro gb304 hg w16 hbox hb;have n0_ := Aside0.mk (below_step (by repeat (first | (with_reducible first | exact HB.out | apply below_alloc | apply pw_below_drewN | apply below_drew1) | exact HB.out)) hb);have n1_ := Aside0.mk (hbox);have n2_ := Aside0.mk ((by rw [hg];exact (below_size (by repeat (first | (with_reducible first | exact HB.out | apply below_alloc | apply pw_below_drewN | apply below_drew1) | exact HB.out))) : w.heap.size ≤ gb304));have n3_ := Aside0.mk ((by rw [hg];exact (below_size (by repeat (first | (with_reducible first | exact HB.out | apply below_alloc | apply pw_below_drewN | apply below_drew1) | exact HB.out))) : w.heap.size ≤ gb304));clear HB;have HB := n0_;have BK304 := n1_;have GW304 := n2_;have GE304 := n3_;clear n0_ n1_ n2_ n3_;clear hb hbox hg;have hcz17_0 : w16.cell? ⟨gb304,0,none⟩ = some (.int .i64 a0_0) := (blk_cell BK304.out 0).trans rfl;have hcz17_1 : w16.cell? ⟨gb304,1,none⟩ = some (.bool a0_1) := (blk_cell BK304.out 1).trans rfl;have hcz17_2 : w16.cell? ⟨gb304,2,none⟩ = some (.int .i64 a0_2) := (blk_cell BK304.out 2).trans rfl;have hcz17_3 : w16.cell? ⟨gb304,3,none⟩ = some (.string a0_3) := (blk_cell BK304.out 3).trans rfl;have hfz17_0 := blk_frozen BK304.out 0;have hfz17_1 := blk_frozen BK304.out 1;have hfz17_2 := blk_frozen BK304.out 2;have hfz17_3 := blk_frozen BK304.out 3))
        have n0_ := Aside0.mk (blk_drew BK304.out)
        have n1_ := Aside0.mk (below_drew1 HB.out)
        clear BK304
        clear HB
        have BK304 := n0_
        have HB := n1_
        clear n0_ n1_
        refine start_ (n := 6) (S := fun w' => w'.cell? ⟨gb304,0,none⟩ = some (.int .i64 a0_0) ∧ w'.cell? ⟨gb304,1,none⟩ = some (.bool a0_1) ∧ w'.cell? ⟨gb304,2,none⟩ = some (.int .i64 a0_2) ∧ w'.cell? ⟨gb304,3,none⟩ = some (.string a0_3)) (ds := []) #[false,false,false,false,false,false] (by kernel_rfl) rfl rfl ⟨(blk_cell BK304.out 0).trans rfl,(blk_cell BK304.out 1).trans rfl,(blk_cell BK304.out 2).trans rfl,(blk_cell BK304.out 3).trans rfl⟩ (fun hHeld => ?_)
        generalize w16.drew = w18 at BK304 HB hHeld ⊢
        refine pure_ (i := 1) (N := some 20) (v := ?_) (a' := ?_) #[false,true,false,false,false,false] rfl rfl (by kernel_rfl) (fun _ _ _ h => h) (Or.inl ⟨by rfl,?_⟩) ?_ ?_
        rotate_left
        · intro w'
          go_simp
          with_reducible rfl
        rotate_left
        · simp only [Act.put,zA,zB,zC,i64_w,i32_w]
          rfl
        refine take_ (i := 0) (N := some 19) (v := ?_) (a' := ?_) #[true,true,false,false,false,false] rfl rfl (by kernel_rfl) (fun _ _ _ h => h) (Or.inl ⟨by rfl,?_⟩) hHeld ?_ ?_
        rotate_left
        · rintro w' ⟨s0,s1,s2,s3⟩
          go_simp
          with_reducible rfl
        rotate_left
        · simp only [Act.put,zA,zB,zC,i64_w,i32_w]
          rfl
        refine take_ (i := 2) (N := some 21) (v := ?_) (a' := ?_) #[true,true,true,false,false,false] rfl rfl (by kernel_rfl) (fun _ _ _ h => h) (Or.inl ⟨by rfl,?_⟩) hHeld ?_ ?_
        rotate_left
        · rintro w' ⟨s0,s1,s2,s3⟩
          go_simp
          with_reducible rfl
        rotate_left
        · simp only [Act.put,zA,zB,zC,i64_w,i32_w]
          rfl
        refine one_ (i := 3) (N := some 22) #[true,true,true,true,false,false] rfl rfl (by kernel_rfl) (by decide) (fun K hK => ?_)
        refine goes_ Try.func42 (by kernel_rfl) rfl #[.int .i64 a0_2] (by rfl) rfl rfl (by (try simp only [List.map_toArray,List.map_cons,List.map_nil]);first | done | rfl | (simp only [List.length_drop,List.length_take];rfl)) ?_
        with_reducible refine (value_Int.calls a0_2 t313 t314 t315 t316 _ A15.out).mono ?_
        rintro e w19 ⟨rfl,hb⟩
        refine ⟨_,rfl,?_⟩
        have n0_ := Aside0.mk (blk_below (g := gb304) (o := .cells #[.int .i64 a0_0,.bool a0_1,.int .i64 a0_2,.string a0_3] 50 (0,0)) (by (with_reducible repeat (first | refine blk_drewN ?_ _ | refine blk_drew ?_ | refine blk_alloc ?_ _));exact BK304.out) hb)
        have n1_ := Aside0.mk (below_step (by repeat (first | (with_reducible first | exact HB.out | apply below_alloc | apply pw_below_drewN | apply below_drew1 | refine below_set ?_ GE304.out) | exact HB.out)) hb)
        clear BK304
        clear HB
        have BK304 := n0_
        have HB := n1_
        clear n0_ n1_
        (try clear hb)
        (try clear hb2)
        (try clear hk)
        (try clear hi)
        refine hK.out _ _ ⟨(blk_cell BK304.out 0).trans rfl,(blk_cell BK304.out 1).trans rfl,(blk_cell BK304.out 2).trans rfl,(blk_cell BK304.out 3).trans rfl⟩ (fun hHeld => ?_)
        clear hK K
        refine norm_ (a' := ?_) ?_ ?_
        rotate_left
        · show Act.put _ (some 22) _ = _
          simp only [Act.put,zA,zB,zC,i64_w,i32_w]
          rfl
        refine pure_ (i := 4) (N := some 23) (v := ?_) (a' := ?_) #[true,true,true,true,true,false] rfl rfl (by kernel_rfl) (fun _ _ _ h => h) (Or.inl ⟨by rfl,?_⟩) ?_ ?_
        rotate_left
        · intro w'
          go_simp
          with_reducible rfl
        rotate_left
        · simp only [Act.put,zA,zB,zC,i64_w,i32_w]
          rfl
        refine pure_ (i := 5) (N := some 2) (v := ?_) (a' := ?_) #[true,true,true,true,true,true] rfl rfl (by kernel_rfl) (fun _ _ _ h => h) (Or.inl ⟨by rfl,?_⟩) ?_ ?_
        rotate_left
        · intro w'
          go_simp
          with_reducible rfl
        rotate_left
        · simp only [Act.put,zA,zB,zC,i64_w,i32_w]
          rfl
        refine done_ (by kernel_rfl) ?_
        try go_wp2
        go_ret
        exact ⟨by first | rfl | (simp [errW_none,errW_some] <;> rfl) | (simp [*,errW_none,errW_some] <;> rfl),by repeat (first | (with_reducible first | exact HB.out | apply below_alloc | apply pw_below_drewN | apply below_drew1 | refine below_set ?_ GE304.out) | exact HB.out)⟩
      · rw [if_neg c14] at H
        have c14b0 : (a0_0 == 2) = false := beq_eq_false_iff_ne.mpr c14
        have c14b1 : (a0_0 != 2) = true := bne_iff_ne.mpr c14
        by_cases c20 : a0_0 = 3
        · rw [if_pos c20] at H
          have c20b0 : (a0_0 == 3) = true := beq_iff_eq.mpr c20
          have c20b1 : (a0_0 != 3) = false := bne_eq_false_iff_eq.mpr c20
          clear c20
          replace H := Option.bind_eq_some_iff.mp H
          obtain ⟨⟨t317,t318,t319,t320⟩,A210,H⟩ := H
          replace H : (if (a0_0 == t317 && (a0_1 == t318 && (a0_2 == t319 && (a0_3.toList == t320.toList)))) = true then (some (decide ((a0_3.size : Int) ≤ 60))) else (some false)) = some r := H
          have A21 := Aside0.mk A210
          clear A210
          by_cases c22 : (a0_0 == t317 && (a0_1 == t318 && (a0_2 == t319 && (a0_3.toList == t320.toList)))) = true
          · rw [if_pos c22] at H
            have c22b0 : (a0_0 == t317 && (a0_1 == t318 && (a0_2 == t319 && (a0_3.toList == t320.toList)))) = true := c22
            (try (have c22b1 : decide (a0_0 = t317 && (a0_1 == t318 && (a0_2 == t319 && (a0_3.toList == t320.toList)))) = true := by simpa using c22))
            (try (have c22b2 : (a0_0 == t317 && (a0_1 == t318 && (a0_2 == t319 && (a0_3.toList == t320.toList)))) = true := by simpa using c22))
            clear c22
            obtain rfl := Option.some.inj H
            go_enter Try.func52,Try.ntmps52
            try go_wp2_with (first | ((with_reducible refine gate_dst (N := 1) rfl ?_);(try (refine gate_guard (by rfl) ?_;dsimp only));refine box_event ?hg (N := 1) ?hd (cs := #[.int .i64 a0_0,.bool a0_1,.int .i64 a0_2,.string a0_3]) (t := 50) ?hr ?_;(case hd => rfl);(case hg => rfl);(case hr => first | (go_simp;done) | (go_simp;rfl));intro gb304 hg w23 hbox hb;have n0_ := Aside0.mk (below_step (by repeat (first | (with_reducible first | exact HB.out | apply below_alloc | apply pw_below_drewN | apply below_drew1) | exact HB.out)) hb);have n1_ := Aside0.mk (hbox);have n2_ := Aside0.mk ((by rw [hg];exact (below_size (by repeat (first | (with_reducible first | exact HB.out | apply below_alloc | apply pw_below_drewN | apply below_drew1) | exact HB.out))) : w.heap.size ≤ gb304));have n3_ := Aside0.mk ((by rw [hg];exact (below_size (by repeat (first | (with_reducible first | exact HB.out | apply below_alloc | apply pw_below_drewN | apply below_drew1) | exact HB.out))) : w.heap.size ≤ gb304));clear HB;have HB := n0_;have BK304 := n1_;have GW304 := n2_;have GE304 := n3_;clear n0_ n1_ n2_ n3_;clear hb hbox hg;have hcz24_0 : w23.cell? ⟨gb304,0,none⟩ = some (.int .i64 a0_0) := (blk_cell BK304.out 0).trans rfl;have hcz24_1 : w23.cell? ⟨gb304,1,none⟩ = some (.bool a0_1) := (blk_cell BK304.out 1).trans rfl;have hcz24_2 : w23.cell? ⟨gb304,2,none⟩ = some (.int .i64 a0_2) := (blk_cell BK304.out 2).trans rfl;have hcz24_3 : w23.cell? ⟨gb304,3,none⟩ = some (.string a0_3) := (blk_cell BK304.out 3).trans rfl;have hfz24_0 := blk_frozen BK304.out 0;have hfz24_1 := blk_frozen BK304.out 1;have hfz24_2 := blk_frozen BK304.out 2;have hfz24_3 := blk_frozen BK304.out 3))
            have n0_ := Aside0.mk (blk_drew BK304.out)
            have n1_ := Aside0.mk (below_drew1 HB.out)
            clear BK304
            clear HB
            have BK304 := n0_
            have HB := n1_
            clear n0_ n1_
            refine start_ (n := 12) (S := fun w' => w'.cell? ⟨gb304,0,none⟩ = some (.int .i64 a0_0) ∧ w'.cell? ⟨gb304,1,none⟩ = some (.bool a0_1) ∧ w'.cell? ⟨gb304,2,none⟩ = some (.int .i64 a0_2) ∧ w'.cell? ⟨gb304,3,none⟩ = some (.string a0_3)) (ds := []) #[false,false,false,false,false,false,false,false,false,false,false,false] (by kernel_rfl) rfl rfl ⟨(blk_cell BK304.out 0).trans rfl,(blk_cell BK304.out 1).trans rfl,(blk_cell BK304.out 2).trans rfl,(blk_cell BK304.out 3).trans rfl⟩ (fun hHeld => ?_);refine with_tabW value_Right.tab9 value_Right.bits9 (fun HT_ HW_ => ?_)
            generalize w23.drew = w25 at BK304 HB hHeld ⊢
            refine pure_ (i := 1) (N := some 27) (v := ?_) (a' := ?_) #[false,true,false,false,false,false,false,false,false,false,false,false] rfl rfl (any_of HT_.out (by kernel_rfl)) (fun _ _ _ h => h) (Or.inl ⟨by rfl,?_⟩) ?_ ?_
            rotate_left
            · intro w'
              go_simp
              with_reducible rfl
            rotate_left
            · simp only [Act.put,zA,zB,zC,i64_w,i32_w]
              rfl
            refine take_ (i := 0) (N := some 26) (v := ?_) (a' := ?_) #[true,true,false,false,false,false,false,false,false,false,false,false] rfl rfl (take_ofW HT_.out HW_.out (by kernel_rfl)) (fun _ _ _ h => h) (Or.inl ⟨by rfl,?_⟩) hHeld ?_ ?_
            rotate_left
            · rintro w' ⟨s0,s1,s2,s3⟩
              go_simp
              with_reducible rfl
            rotate_left
            · simp only [Act.put,zA,zB,zC,i64_w,i32_w]
              rfl
            refine take_ (i := 2) (N := some 28) (v := ?_) (a' := ?_) #[true,true,true,false,false,false,false,false,false,false,false,false] rfl rfl (take_ofW HT_.out HW_.out (by kernel_rfl)) (fun _ _ _ h => h) (Or.inl ⟨by rfl,?_⟩) hHeld ?_ ?_
            rotate_left
            · rintro w' ⟨s0,s1,s2,s3⟩
              go_simp
              with_reducible rfl
            rotate_left
            · simp only [Act.put,zA,zB,zC,i64_w,i32_w]
              rfl
            refine one_ (i := 3) (N := some 29) #[true,true,true,true,false,false,false,false,false,false,false,false] rfl rfl (one_of HT_.out (by kernel_rfl)) (by decide) (fun K hK => ?_)
            refine goes_ Try.func61 (by kernel_rfl) rfl #[.string a0_3] (by rfl) rfl rfl (by (try simp only [List.map_toArray,List.map_cons,List.map_nil]);first | done | rfl | (simp only [List.length_drop,List.length_take];rfl)) ?_
            with_reducible refine (value_Text.calls a0_3 t317 t318 t319 t320 _ A21.out).mono ?_
            rintro e w26 ⟨rfl,hb⟩
            refine ⟨_,rfl,?_⟩
            have n0_ := Aside0.mk (blk_below (g := gb304) (o := .cells #[.int .i64 a0_0,.bool a0_1,.int .i64 a0_2,.string a0_3] 50 (0,0)) (by (with_reducible repeat (first | refine blk_drewN ?_ _ | refine blk_drew ?_ | refine blk_alloc ?_ _));exact BK304.out) hb)
            have n1_ := Aside0.mk (below_step (by repeat (first | (with_reducible first | exact HB.out | apply below_alloc | apply pw_below_drewN | apply below_drew1 | refine below_set ?_ GE304.out) | exact HB.out)) hb)
            clear BK304
            clear HB
            have BK304 := n0_
            have HB := n1_
            clear n0_ n1_
            (try clear hb)
            (try clear hb2)
            (try clear hk)
            (try clear hi)
            refine hK.out _ _ ⟨(blk_cell BK304.out 0).trans rfl,(blk_cell BK304.out 1).trans rfl,(blk_cell BK304.out 2).trans rfl,(blk_cell BK304.out 3).trans rfl⟩ (fun hHeld => ?_)
            clear hK K
            refine norm_ (a' := ?_) ?_ ?_
            rotate_left
            · show Act.put _ (some 29) _ = _
              simp only [Act.put,zA,zB,zC,i64_w,i32_w]
              rfl
            refine pure_ (i := 4) (N := some 30) (v := ?_) (a' := ?_) #[true,true,true,true,true,false,false,false,false,false,false,false] rfl rfl (any_of HT_.out (by kernel_rfl)) (fun _ _ _ h => h) (Or.inl ⟨by rfl,?_⟩) ?_ ?_
            rotate_left
            · intro w'
              go_simp
              with_reducible rfl
            rotate_left
            · simp only [Act.put,zA,zB,zC,i64_w,i32_w]
              rfl
            refine pure_ (i := 5) (N := some 31) (v := ?_) (a' := ?_) #[true,true,true,true,true,true,false,false,false,false,false,false] rfl rfl (any_of HT_.out (by kernel_rfl)) (fun _ _ _ h => h) (Or.inl ⟨by rfl,?_⟩) ?_ ?_
            rotate_left
            · intro w'
              go_simp
              with_reducible rfl
            rotate_left
            · simp only [Act.put,zA,zB,zC,i64_w,i32_w]
              rfl
            refine pure_ (i := 6) (N := some 32) (v := ?_) (a' := ?_) #[true,true,true,true,true,true,true,false,false,false,false,false] rfl rfl (any_of HT_.out (by kernel_rfl)) (fun _ _ _ h => h) (Or.inl ⟨by rfl,?_⟩) ?_ ?_
            rotate_left
            · intro w'
              go_simp
              with_reducible rfl
            rotate_left
            · simp only [Act.put,zA,zB,zC,i64_w,i32_w]
              rfl
            refine take_ (i := 7) (N := some 33) (v := ?_) (a' := ?_) #[true,true,true,true,true,true,true,true,false,false,false,false] rfl rfl (take_ofW HT_.out HW_.out (by kernel_rfl)) (fun _ _ _ h => h) (Or.inl ⟨by rfl,?_⟩) hHeld ?_ ?_
            rotate_left
            · rintro w' ⟨s0,s1,s2,s3⟩
              go_simp
              with_reducible rfl
            rotate_left
            · simp only [Act.put,zA,zB,zC,i64_w,i32_w]
              rfl
            refine pure_ (i := 8) (N := some 34) (v := ?_) (a' := ?_) #[true,true,true,true,true,true,true,true,true,false,false,false] rfl rfl (any_of HT_.out (by kernel_rfl)) (fun _ _ _ h => h) (Or.inl ⟨by rfl,?_⟩) ?_ ?_
            rotate_left
            · intro w'
              go_simp
              with_reducible rfl
            rotate_left
            · simp only [Act.put,zA,zB,zC,i64_w,i32_w]
              rfl
            refine pure_ (i := 9) (N := some 35) (v := ?_) (a' := ?_) #[true,true,true,true,true,true,true,true,true,true,false,false] rfl rfl (any_of HT_.out (by kernel_rfl)) (fun _ _ _ h => h) (Or.inl ⟨by rfl,?_⟩) ?_ ?_
            rotate_left
            · intro w'
              go_simp
              with_reducible rfl
            rotate_left
            · simp only [Act.put,zA,zB,zC,i64_w,i32_w]
              rfl
            refine pure_ (i := 10) (N := some 36) (v := ?_) (a' := ?_) #[true,true,true,true,true,true,true,true,true,true,true,false] rfl rfl (any_of HT_.out (by kernel_rfl)) (fun _ _ _ h => h) (Or.inl ⟨by rfl,?_⟩) ?_ ?_
            rotate_left
            · intro w'
              go_simp
              with_reducible rfl
            rotate_left
            · simp only [Act.put,zA,zB,zC,i64_w,i32_w]
              rfl
            refine pure_ (i := 11) (N := some 2) (v := ?_) (a' := ?_) #[true,true,true,true,true,true,true,true,true,true,true,true] rfl rfl (any_of HT_.out (by kernel_rfl)) (fun _ _ _ h => h) (Or.inl ⟨by rfl,?_⟩) ?_ ?_
            rotate_left
            · intro w'
              go_simp
              with_reducible rfl
            rotate_left
            · simp only [Act.put,zA,zB,zC,i64_w,i32_w]
              rfl
            refine done_ (done_of HT_.out (by kernel_rfl)) ?_
            try go_wp2
            go_ret
            exact ⟨by first | rfl | (simp [errW_none,errW_some] <;> rfl) | (simp [*,errW_none,errW_some] <;> rfl),by repeat (first | (with_reducible first | exact HB.out | apply below_alloc | apply pw_below_drewN | apply below_drew1 | refine below_set ?_ GE304.out) | exact HB.out)⟩
          · rw [if_neg c22] at H
            have c22b0 : (a0_0 == t317 && (a0_1 == t318 && (a0_2 == t319 && (a0_3.toList == t320.toList)))) = false := by simpa using c22
            (try (have c22b1 : decide (a0_0 = t317 && (a0_1 == t318 && (a0_2 == t319 && (a0_3.toList == t320.toList)))) = false := by simpa using c22))
            (try (have c22b2 : (a0_0 == t317 && (a0_1 == t318 && (a0_2 == t319 && (a0_3.toList == t320.toList)))) = false := by simpa using c22))
            (try (have c22b3 : ¬ (a0_0 = t317 && (a0_1 == t318 && (a0_2 == t319 && (a0_3.toList == t320.toList)))) := by simpa using c22))
            clear c22
            obtain rfl := Option.some.inj H
            go_enter Try.func52,Try.ntmps52
            try go_wp2_with (first | ((with_reducible refine gate_dst (N := 1) rfl ?_);(try (refine gate_guard (by rfl) ?_;dsimp only));refine box_event ?hg (N := 1) ?hd (cs := #[.int .i64 a0_0,.bool a0_1,.int .i64 a0_2,.string a0_3]) (t := 50) ?hr ?_;(case hd => rfl);(case hg => rfl);(case hr => first | (go_simp;done) | (go_simp;rfl));intro gb304 hg w27 hbox hb;have n0_ := Aside0.mk (below_step (by repeat (first | (with_reducible first | exact HB.out | apply below_alloc | apply pw_below_drewN | apply below_drew1) | exact HB.out)) hb);have n1_ := Aside0.mk (hbox);have n2_ := Aside0.mk ((by rw [hg];exact (below_size (by repeat (first | (with_reducible first | exact HB.out | apply below_alloc | apply pw_below_drewN | apply below_drew1) | exact HB.out))) : w.heap.size ≤ gb304));have n3_ := Aside0.mk ((by rw [hg];exact (below_size (by repeat (first | (with_reducible first | exact HB.out | apply below_alloc | apply pw_below_drewN | apply below_drew1) | exact HB.out))) : w.heap.size ≤ gb304));clear HB;have HB := n0_;have BK304 := n1_;have GW304 := n2_;have GE304 := n3_;clear n0_ n1_ n2_ n3_;clear hb hbox hg;have hcz28_0 : w27.cell? ⟨gb304,0,none⟩ = some (.int .i64 a0_0) := (blk_cell BK304.out 0).trans rfl;have hcz28_1 : w27.cell? ⟨gb304,1,none⟩ = some (.bool a0_1) := (blk_cell BK304.out 1).trans rfl;have hcz28_2 : w27.cell? ⟨gb304,2,none⟩ = some (.int .i64 a0_2) := (blk_cell BK304.out 2).trans rfl;have hcz28_3 : w27.cell? ⟨gb304,3,none⟩ = some (.string a0_3) := (blk_cell BK304.out 3).trans rfl;have hfz28_0 := blk_frozen BK304.out 0;have hfz28_1 := blk_frozen BK304.out 1;have hfz28_2 := blk_frozen BK304.out 2;have hfz28_3 := blk_frozen BK304.out 3))
            have n0_ := Aside0.mk (blk_drew BK304.out)
            have n1_ := Aside0.mk (below_drew1 HB.out)
            clear BK304
            clear HB
            have BK304 := n0_
            have HB := n1_
            clear n0_ n1_
            refine start_ (n := 12) (S := fun w' => w'.cell? ⟨gb304,0,none⟩ = some (.int .i64 a0_0) ∧ w'.cell? ⟨gb304,1,none⟩ = some (.bool a0_1) ∧ w'.cell? ⟨gb304,2,none⟩ = some (.int .i64 a0_2) ∧ w'.cell? ⟨gb304,3,none⟩ = some (.string a0_3)) (ds := []) #[false,false,false,false,false,false,false,false,false,false,false,false] (by kernel_rfl) rfl rfl ⟨(blk_cell BK304.out 0).trans rfl,(blk_cell BK304.out 1).trans rfl,(blk_cell BK304.out 2).trans rfl,(blk_cell BK304.out 3).trans rfl⟩ (fun hHeld => ?_);refine with_tabW value_Right.tab9 value_Right.bits9 (fun HT_ HW_ => ?_)
            generalize w27.drew = w29 at BK304 HB hHeld ⊢
            refine pure_ (i := 1) (N := some 27) (v := ?_) (a' := ?_) #[false,true,false,false,false,false,false,false,false,false,false,false] rfl rfl (any_of HT_.out (by kernel_rfl)) (fun _ _ _ h => h) (Or.inl ⟨by rfl,?_⟩) ?_ ?_
            rotate_left
            · intro w'
              go_simp
              with_reducible rfl
            rotate_left
            · simp only [Act.put,zA,zB,zC,i64_w,i32_w]
              rfl
            refine take_ (i := 0) (N := some 26) (v := ?_) (a' := ?_) #[true,true,false,false,false,false,false,false,false,false,false,false] rfl rfl (take_ofW HT_.out HW_.out (by kernel_rfl)) (fun _ _ _ h => h) (Or.inl ⟨by rfl,?_⟩) hHeld ?_ ?_
            rotate_left
            · rintro w' ⟨s0,s1,s2,s3⟩
              go_simp
              with_reducible rfl
            rotate_left
            · simp only [Act.put,zA,zB,zC,i64_w,i32_w]
              rfl
            refine take_ (i := 2) (N := some 28) (v := ?_) (a' := ?_) #[true,true,true,false,false,false,false,false,false,false,false,false] rfl rfl (take_ofW HT_.out HW_.out (by kernel_rfl)) (fun _ _ _ h => h) (Or.inl ⟨by rfl,?_⟩) hHeld ?_ ?_
            rotate_left
            · rintro w' ⟨s0,s1,s2,s3⟩
              go_simp
              with_reducible rfl
            rotate_left
            · simp only [Act.put,zA,zB,zC,i64_w,i32_w]
              rfl
            refine one_ (i := 3) (N := some 29) #[true,true,true,true,false,false,false,false,false,false,false,false] rfl rfl (one_of HT_.out (by kernel_rfl)) (by decide) (fun K hK => ?_)
            refine goes_ Try.func61 (by kernel_rfl) rfl #[.string a0_3] (by rfl) rfl rfl (by (try simp only [List.map_toArray,List.map_cons,List.map_nil]);first | done | rfl | (simp only [List.length_drop,List.length_take];rfl)) ?_
            with_reducible refine (value_Text.calls a0_3 t317 t318 t319 t320 _ A21.out).mono ?_
            rintro e w30 ⟨rfl,hb⟩
            refine ⟨_,rfl,?_⟩
            have n0_ := Aside0.mk (blk_below (g := gb304) (o := .cells #[.int .i64 a0_0,.bool a0_1,.int .i64 a0_2,.string a0_3] 50 (0,0)) (by (with_reducible repeat (first | refine blk_drewN ?_ _ | refine blk_drew ?_ | refine blk_alloc ?_ _));exact BK304.out) hb)
            have n1_ := Aside0.mk (below_step (by repeat (first | (with_reducible first | exact HB.out | apply below_alloc | apply pw_below_drewN | apply below_drew1 | refine below_set ?_ GE304.out) | exact HB.out)) hb)
            clear BK304
            clear HB
            have BK304 := n0_
            have HB := n1_
            clear n0_ n1_
            (try clear hb)
            (try clear hb2)
            (try clear hk)
            (try clear hi)
            refine hK.out _ _ ⟨(blk_cell BK304.out 0).trans rfl,(blk_cell BK304.out 1).trans rfl,(blk_cell BK304.out 2).trans rfl,(blk_cell BK304.out 3).trans rfl⟩ (fun hHeld => ?_)
            clear hK K
            refine norm_ (a' := ?_) ?_ ?_
            rotate_left
            · show Act.put _ (some 29) _ = _
              simp only [Act.put,zA,zB,zC,i64_w,i32_w]
              rfl
            refine pure_ (i := 4) (N := some 30) (v := ?_) (a' := ?_) #[true,true,true,true,true,false,false,false,false,false,false,false] rfl rfl (any_of HT_.out (by kernel_rfl)) (fun _ _ _ h => h) (Or.inl ⟨by rfl,?_⟩) ?_ ?_
            rotate_left
            · intro w'
              go_simp
              with_reducible rfl
            rotate_left
            · simp only [Act.put,zA,zB,zC,i64_w,i32_w]
              rfl
            refine pure_ (i := 5) (N := some 31) (v := ?_) (a' := ?_) #[true,true,true,true,true,true,false,false,false,false,false,false] rfl rfl (any_of HT_.out (by kernel_rfl)) (fun _ _ _ h => h) (Or.inl ⟨by rfl,?_⟩) ?_ ?_
            rotate_left
            · intro w'
              go_simp
              with_reducible rfl
            rotate_left
            · simp only [Act.put,zA,zB,zC,i64_w,i32_w]
              rfl
            refine pure_ (i := 6) (N := some 32) (v := undef) (a' := ?_) #[true,true,true,true,true,true,true,false,false,false,false,false] rfl rfl (any_of HT_.out (by kernel_rfl)) (fun _ _ _ h => h) (Or.inr ⟨by rfl,rfl⟩) ?_ ?_
            rotate_left
            · simp only [Act.put,zA,zB,zC,i64_w,i32_w]
              rfl
            refine pure_ (i := 7) (N := some 33) (v := undef) (a' := ?_) #[true,true,true,true,true,true,true,true,false,false,false,false] rfl rfl (any_of HT_.out (by kernel_rfl)) (fun _ _ _ h => h) (Or.inr ⟨by rfl,rfl⟩) ?_ ?_
            rotate_left
            · simp only [Act.put,zA,zB,zC,i64_w,i32_w]
              rfl
            refine pure_ (i := 8) (N := some 34) (v := undef) (a' := ?_) #[true,true,true,true,true,true,true,true,true,false,false,false] rfl rfl (any_of HT_.out (by kernel_rfl)) (fun _ _ _ h => h) (Or.inr ⟨by rfl,rfl⟩) ?_ ?_
            rotate_left
            · simp only [Act.put,zA,zB,zC,i64_w,i32_w]
              rfl
            refine pure_ (i := 9) (N := some 35) (v := undef) (a' := ?_) #[true,true,true,true,true,true,true,true,true,true,false,false] rfl rfl (any_of HT_.out (by kernel_rfl)) (fun _ _ _ h => h) (Or.inr ⟨by rfl,rfl⟩) ?_ ?_
            rotate_left
            · simp only [Act.put,zA,zB,zC,i64_w,i32_w]
              rfl
            refine pure_ (i := 10) (N := some 36) (v := ?_) (a' := ?_) #[true,true,true,true,true,true,true,true,true,true,true,false] rfl rfl (any_of HT_.out (by kernel_rfl)) (fun _ _ _ h => h) (Or.inl ⟨by rfl,?_⟩) ?_ ?_
            rotate_left
            · intro w'
              go_simp
              with_reducible rfl
            rotate_left
            · simp only [Act.put,zA,zB,zC,i64_w,i32_w]
              rfl
            refine pure_ (i := 11) (N := some 2) (v := ?_) (a' := ?_) #[true,true,true,true,true,true,true,true,true,true,true,true] rfl rfl (any_of HT_.out (by kernel_rfl)) (fun _ _ _ h => h) (Or.inl ⟨by rfl,?_⟩) ?_ ?_
            rotate_left
            · intro w'
              go_simp
              with_reducible rfl
            rotate_left
            · simp only [Act.put,zA,zB,zC,i64_w,i32_w]
              rfl
            refine done_ (done_of HT_.out (by kernel_rfl)) ?_
            try go_wp2
            go_ret
            exact ⟨by first | rfl | (simp [errW_none,errW_some] <;> rfl) | (simp [*,errW_none,errW_some] <;> rfl),by repeat (first | (with_reducible first | exact HB.out | apply below_alloc | apply pw_below_drewN | apply below_drew1 | refine below_set ?_ GE304.out) | exact HB.out)⟩
        · rw [if_neg c20] at H
          have c20b0 : (a0_0 == 3) = false := beq_eq_false_iff_ne.mpr c20
          have c20b1 : (a0_0 != 3) = true := bne_iff_ne.mpr c20
          obtain rfl := Option.some.inj H
          go_enter Try.func52,Try.ntmps52
          go_wp2_with (first | ((with_reducible refine gate_dst (N := 1) rfl ?_);(try (refine gate_guard (by rfl) ?_;dsimp only));refine box_event ?hg (N := 1) ?hd (cs := #[.int .i64 a0_0,.bool a0_1,.int .i64 a0_2,.string a0_3]) (t := 50) ?hr ?_;(case hd => rfl);(case hg => rfl);(case hr => first | (go_simp;done) | (go_simp;rfl));intro gb304 hg w31 hbox hb;have n0_ := Aside0.mk (below_step (by repeat (first | (with_reducible first | exact HB.out | apply below_alloc | apply pw_below_drewN | apply below_drew1) | exact HB.out)) hb);have n1_ := Aside0.mk (hbox);have n2_ := Aside0.mk ((by rw [hg];exact (below_size (by repeat (first | (with_reducible first | exact HB.out | apply below_alloc | apply pw_below_drewN | apply below_drew1) | exact HB.out))) : w.heap.size ≤ gb304));have n3_ := Aside0.mk ((by rw [hg];exact (below_size (by repeat (first | (with_reducible first | exact HB.out | apply below_alloc | apply pw_below_drewN | apply below_drew1) | exact HB.out))) : w.heap.size ≤ gb304));clear HB;have HB := n0_;have BK304 := n1_;have GW304 := n2_;have GE304 := n3_;clear n0_ n1_ n2_ n3_;clear hb hbox hg;have hcz32_0 : w31.cell? ⟨gb304,0,none⟩ = some (.int .i64 a0_0) := (blk_cell BK304.out 0).trans rfl;have hcz32_1 : w31.cell? ⟨gb304,1,none⟩ = some (.bool a0_1) := (blk_cell BK304.out 1).trans rfl;have hcz32_2 : w31.cell? ⟨gb304,2,none⟩ = some (.int .i64 a0_2) := (blk_cell BK304.out 2).trans rfl;have hcz32_3 : w31.cell? ⟨gb304,3,none⟩ = some (.string a0_3) := (blk_cell BK304.out 3).trans rfl;have hfz32_0 := blk_frozen BK304.out 0;have hfz32_1 := blk_frozen BK304.out 1;have hfz32_2 := blk_frozen BK304.out 2;have hfz32_3 := blk_frozen BK304.out 3))
          go_ret
          exact ⟨by first | rfl | (simp [errW_none,errW_some] <;> rfl) | (simp [*,errW_none,errW_some] <;> rfl),by repeat (first | (with_reducible first | exact HB.out | apply below_alloc | apply pw_below_drewN | apply below_drew1 | refine below_set ?_ GE304.out) | exact HB.out)⟩
end Go.Proofs.Ytfoaeigoajooeaa.Z
