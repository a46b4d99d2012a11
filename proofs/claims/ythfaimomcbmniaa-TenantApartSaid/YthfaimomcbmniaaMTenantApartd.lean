/-
  verdererlaw09.TenantApart: for every input the law returns true, and each argument reads behind the call as it read before. No condition.
-/
import Derived.Test.YthfaimomcbmniaaMTenantAparta
import Derived.Test.YthfaimomcbmniaaMTenantApartb
import Derived.Test.YthfaimomcbmniaaMTenantApartc
import Derived.Shelf.SlIter.Nil
import Derived.Shelf.SortM.Plain
import Derived.Shelf.SortM.SortNone
import Derived.Test.YthfaimomcbmniaaProg
import Derived.Deep.RegionHeld3
import Derived.Deep.Cut
import Derived.Deep.CutRange
import Derived.StillTailTactics
import Derived.Shelf.SlMaps.Clone
import Derived.Deep.Slices
import Derived.ProofKit
import Derived.Test.YthfaimomcbmniaaRows
import Derived.WalkKit
import Derived.OpenShut
import Derived.ShutString
import Derived.ChangeOld
import Derived.Below
import Derived.Laws.Cover2
section
namespace Go.Proofs.Ythfaimomcbmniaa.Z
open Go.RowKit Go.Proofs.YthfaimomcbmniaaW.PrintWords Go.Proofs.YthfaimomcbmniaaW.PrintLast Go.Proofs.YthfaimomcbmniaaW.PrintMore
attribute [local go_sem] max2_int min2_int max_two min_two max_three min_three max_four min_four
set_option linter.unusedVariables false
set_option linter.unusedSimpArgs false
attribute [local go_sem high] eqA149
def verdererref02_Equal.l0 : Nat → List (S149) → List (S149) → Int → Option (Bool)
  | 0,_,_,_ => none
  | k + 1,x0,x1,x5 => if x5 < (x0.length : Int) then (if 0 ≤ x5 then (if x5 < (x1.length : Int) then (if (!(((rd_T149 x0 x5).f0) == ((rd_T149 x1 x5).f0)) || (!(((rd_T149 x0 x5).f1) == ((rd_T149 x1 x5).f1)) || (!(((rd_T149 x0 x5).f2) == ((rd_T149 x1 x5).f2)) || (!((((rd_T149 x0 x5).f3).toList) == (((rd_T149 x1 x5).f3).toList)))))) = true then (some false) else (verdererref02_Equal.l0 k x0 x1 (wrap64 (x5 + 1)))) else (none)) else (none)) else (some true)
def verdererref02_Equal.f (k : Nat) (l0 : List (S149)) (l1 : List (S149)) : Option (Bool) := if (l0.length : Int) = (l1.length : Int) then (verdererref02_Equal.l0 k l0 l1 0) else (some false)
theorem verdererref02_Equal.mono_l : ∀ k,(∀ y0 y1 y2,LeO (verdererref02_Equal.l0 k y0 y1 y2) (verdererref02_Equal.l0 (k + 1) y0 y1 y2))
  | 0 => fun _ _ _ r h => by simp [verdererref02_Equal.l0] at h
  | k + 1 => by
    have ih0 := verdererref02_Equal.mono_l k
    · intro y0 y1 y2
      unfold verdererref02_Equal.l0
      repeat' first
      | (with_reducible exact ih0 _ _ _)
      | (with_reducible exact LeO.refl _)
      | (with_reducible exact LeO.none _)
      | (with_reducible refine LeO.ite ?_ ?_)
      | (with_reducible refine LeO.bind ?_ (fun _ => ?_))
      | exact ih0 _ _ _
      | exact LeO.none _
      | refine LeO.ite ?_ ?_
      | refine LeO.bind ?_ (fun _ => ?_)
theorem verdererref02_Equal.mono : ∀ a0 a1 k,LeO (verdererref02_Equal.f k a0 a1) (verdererref02_Equal.f (k + 1) a0 a1) := by
  intro a0 a1 k
  have ih0 := verdererref02_Equal.mono_l k
  unfold verdererref02_Equal.f
  repeat' first
      | (with_reducible exact ih0 _ _ _)
      | (with_reducible exact LeO.refl _)
      | (with_reducible exact LeO.none _)
      | (with_reducible refine LeO.ite ?_ ?_)
      | (with_reducible refine LeO.bind ?_ (fun _ => ?_))
      | exact ih0 _ _ _
      | exact LeO.none _
      | refine LeO.ite ?_ ?_
      | refine LeO.bind ?_ (fun _ => ?_)
set_option maxHeartbeats 8000000 in
set_option maxRecDepth 100000 in
theorem verdererref02_Equal.calls (k : Nat) (A0 : Option Addr) (c0 : Nat) (l0 : List (S149)) (A1 : Option Addr) (c1 : Nat) (l1 : List (S149)) (r : Bool) (w : World) (hr0 : Kd.C k149 w A0 l0.length l0) (hc0 : l0.length ≤ c0) (hr1 : Kd.C k149 w A1 l1.length l1) (hc1 : l1.length ≤ c1) (h : verdererref02_Equal.f k l0 l1 = some r) :
    Calls Try.prog 74 #[.slice A0 l0.length c0,.slice A1 l1.length c1] w fun e w' => e = .returned (.bool r) ∧ Drawn0 w w' := by
  have hu149 := Try.underlying149
  have HR0 := Aside0.mk hr0
  have HC0 := Aside0.mk hc0
  clear hr0 hc0
  have HR1 := Aside0.mk hr1
  have HC1 := Aside0.mk hc1
  clear hr1 hc1
  have H : (if (l0.length : Int) = (l1.length : Int) then (verdererref02_Equal.l0 k l0 l1 0) else (some false)) = some r := h
  clear h
  by_cases c3 : (l0.length : Int) = (l1.length : Int)
  · rw [if_pos c3] at H
    have c3b0 : ((l0.length : Int) == (l1.length : Int)) = true := beq_iff_eq.mpr c3
    have c3b1 : ((l0.length : Int) != (l1.length : Int)) = false := bne_eq_false_iff_eq.mpr c3
    have c3b2 : (l0.length == l1.length) = true := by first | simpa using c3 | (simp at c3 ⊢;omega)
    clear c3
    have H' := Aside0.mk H
    clear H
    go_enter Try.func74,Try.ntmps74
    go_wp2
    repeat (go_quiet (fail);try go_wp2)
    go_loopg [5] k (fun kq v5 w' => ∃ (x5_1 : Int),v5 = .int .i64 x5_1 ∧ Aside0 (verdererref02_Equal.l0 kq l0 l1 x5_1 = some r) ∧ Aside0 (kq ≤ k) ∧ Drawn0 w w')
    case atStart => exact ⟨(0),(by first | rfl | (simp;done) | (simp [*];done)),H',⟨Nat.le_refl _⟩,by repeat (first | exact Drawn0.refl _ | apply Drawn0.step)⟩
    case round =>
      clear H'
      try clear c1
      try clear p2
      try clear c3
      try clear c3b0
      try clear c3b1
      try clear c3b2
      obtain ⟨x5_1,rfl,HA,HK1,⟨m1,rfl⟩⟩ := hrel
      cases gk with
      | zero => exact absurd HA.out (by simp [verdererref02_Equal.l0])
      | succ k1 =>
        have H := HA.out
        clear HA
        simp only [verdererref02_Equal.l0] at H
        by_cases c4 : x5_1 < (l0.length : Int)
        · rw [if_pos c4] at H
          have c4b0 : decide (x5_1 < (l0.length : Int)) = true := decide_eq_true c4
          clear c4
          by_cases c5 : 0 ≤ x5_1
          · rw [if_pos c5] at H
            have c5b0 : decide (0 ≤ x5_1) = true := decide_eq_true c5
            clear c5
            by_cases c6 : x5_1 < (l1.length : Int)
            · rw [if_pos c6] at H
              have c6b0 : decide (x5_1 < (l1.length : Int)) = true := decide_eq_true c6
              clear c6
              by_cases c7 : (!(((rd_T149 l0 x5_1).f0) == ((rd_T149 l1 x5_1).f0)) || (!(((rd_T149 l0 x5_1).f1) == ((rd_T149 l1 x5_1).f1)) || (!(((rd_T149 l0 x5_1).f2) == ((rd_T149 l1 x5_1).f2)) || (!((((rd_T149 l0 x5_1).f3).toList) == (((rd_T149 l1 x5_1).f3).toList)))))) = true
              · rw [if_pos c7] at H
                have c7b0 : (!(((rd_T149 l0 x5_1).f0) == ((rd_T149 l1 x5_1).f0)) || (!(((rd_T149 l0 x5_1).f1) == ((rd_T149 l1 x5_1).f1)) || (!(((rd_T149 l0 x5_1).f2) == ((rd_T149 l1 x5_1).f2)) || (!((((rd_T149 l0 x5_1).f3).toList) == (((rd_T149 l1 x5_1).f3).toList)))))) = true := c7
                clear c7
                obtain rfl := Option.some.inj H
                have p134 : 0 ≤ (x5_1 : Int) := of_decide_eq_true (by first | (with_reducible assumption) | assumption)
                have q134 : x5_1 < (l0.length : Int) := of_decide_eq_true (by first | (with_reducible assumption) | assumption)
                obtain ⟨ad134,e134,hx134_0,hx134_1,hx134_2,hx134_3⟩ := at_T149 HR0.out x5_1 p134 q134
                cases e134
                replace p134 := eq_true p134
                replace q134 := eq_true q134
                have p135 : 0 ≤ (x5_1 : Int) := of_decide_eq_true (by first | (with_reducible assumption) | assumption)
                have q135 : x5_1 < (l1.length : Int) := of_decide_eq_true (by first | (with_reducible assumption) | assumption)
                obtain ⟨ad135,e135,hx135_0,hx135_1,hx135_2,hx135_3⟩ := at_T149 HR1.out x5_1 p135 q135
                cases e135
                replace p135 := eq_true p135
                replace q135 := eq_true q135
                go_wp2
                repeat (go_quiet (fail);try go_wp2)
                go_ret
                exact ⟨by first | rfl | (simp;done) | (simp [*];done),by repeat (first | exact Drawn0.refl _ | apply Drawn0.step)⟩
              · rw [if_neg c7] at H
                have c7b0 : (!(((rd_T149 l0 x5_1).f0) == ((rd_T149 l1 x5_1).f0)) || (!(((rd_T149 l0 x5_1).f1) == ((rd_T149 l1 x5_1).f1)) || (!(((rd_T149 l0 x5_1).f2) == ((rd_T149 l1 x5_1).f2)) || (!((((rd_T149 l0 x5_1).f3).toList) == (((rd_T149 l1 x5_1).f3).toList)))))) = false := by simpa using c7
                clear c7
                have H' := Aside0.mk H
                clear H
                have p134 : 0 ≤ (x5_1 : Int) := of_decide_eq_true (by first | (with_reducible assumption) | assumption)
                have q134 : x5_1 < (l0.length : Int) := of_decide_eq_true (by first | (with_reducible assumption) | assumption)
                obtain ⟨ad134,e134,hx134_0,hx134_1,hx134_2,hx134_3⟩ := at_T149 HR0.out x5_1 p134 q134
                cases e134
                replace p134 := eq_true p134
                replace q134 := eq_true q134
                have p135 : 0 ≤ (x5_1 : Int) := of_decide_eq_true (by first | (with_reducible assumption) | assumption)
                have q135 : x5_1 < (l1.length : Int) := of_decide_eq_true (by first | (with_reducible assumption) | assumption)
                obtain ⟨ad135,e135,hx135_0,hx135_1,hx135_2,hx135_3⟩ := at_T149 HR1.out x5_1 p135 q135
                cases e135
                replace p135 := eq_true p135
                replace q135 := eq_true q135
                go_wp2
                repeat (go_quiet (fail);try go_wp2)
                go_roundg k1
                case measure => have := HK1.out;omega
                case rel => exact ⟨(wrap64 (x5_1 + 1)),(by first | rfl | (simp;done) | (simp [*];done)),H',⟨by have := HK1.out;omega⟩,by repeat (first | exact Drawn0.refl _ | apply Drawn0.step)⟩
            · rw [if_neg c6] at H
              exact absurd H (by simp)
          · rw [if_neg c5] at H
            exact absurd H (by simp)
        · rw [if_neg c4] at H
          have c4b0 : decide (x5_1 < (l0.length : Int)) = false := decide_eq_false c4
          clear c4
          obtain rfl := Option.some.inj H
          go_wp2
          repeat (go_quiet (fail);try go_wp2)
          go_ret
          exact ⟨by first | rfl | (simp;done) | (simp [*];done),by repeat (first | exact Drawn0.refl _ | apply Drawn0.step)⟩
  · rw [if_neg c3] at H
    have c3b0 : ((l0.length : Int) == (l1.length : Int)) = false := beq_eq_false_iff_ne.mpr c3
    have c3b1 : ((l0.length : Int) != (l1.length : Int)) = true := bne_iff_ne.mpr c3
    have c3b2 : (l0.length == l1.length) = false := by first | simpa using c3 | (simp at c3 ⊢;omega)
    obtain rfl := Option.some.inj H
    go_enter Try.func74,Try.ntmps74
    go_wp2
    repeat (go_quiet (fail);try go_wp2)
    go_ret
    exact ⟨by first | rfl | (simp;done) | (simp [*];done),by repeat (first | exact Drawn0.refl _ | apply Drawn0.step)⟩
end Go.Proofs.Ythfaimomcbmniaa.Z
end
section
namespace Go.Proofs.Ythfaimomcbmniaa.Z
open Go.RowKit Go.Proofs.YthfaimomcbmniaaW.PrintWords Go.Proofs.YthfaimomcbmniaaW.PrintLast Go.Proofs.YthfaimomcbmniaaW.PrintMore Go.Proofs.Ythfaimomcbmniaa.Cmp
theorem bt_get {s : ByteArray} {i : Nat} (h : i < s.size) : bt s (i : Int) = ((s.data.toList[i]'(by simpa using h)).toNat : Int) := by
  rw [← bt_at s (i : Int) (by simpa using h)]
  rfl
theorem bytes_drop {s : ByteArray} {i : Nat} (h : i < s.size) : s.data.toList.drop i = s.data.toList[i]'(by simpa using h) :: s.data.toList.drop (i + 1) := List.drop_eq_getElem_cons (by simpa using h)
theorem text_l0 (a b : ByteArray) (ha : a.size ≤ 9223372036854775807) : ∀ d i k,a.size - i = d → i ≤ a.size → i ≤ b.size → 2 * d + 1 < k → verdererref01_Text.l0 k a b (i : Int) = some (cmpB (a.data.toList.drop i) (b.data.toList.drop i)) := by
  intro d
  induction d with
  | zero =>
    intro i k hd hi hib hk
    obtain ⟨k,rfl⟩ : ∃ m,k = m + 2 := ⟨k - 2,by omega⟩
    have e0 : a.data.toList.drop i = [] := List.drop_eq_nil_of_le (by simp;omega)
    simp only [verdererref01_Text.l0]
    rw [if_neg (by omega),e0]
    simp only [verdererref01_Text.j1,Bool.false_eq_true,if_false]
    by_cases h : i < b.size
    · rw [if_pos (by omega),bytes_drop h];rfl
    · rw [if_neg (by omega),if_neg (by omega),List.drop_eq_nil_of_le (by simp;omega)];rfl
  | succ d ih =>
    intro i k hd hi hib hk
    obtain ⟨k,rfl⟩ : ∃ m,k = m + 2 := ⟨k - 2,by omega⟩
    have hlt : i < a.size := by omega
    simp only [verdererref01_Text.l0]
    rw [if_pos (by omega)]
    simp only [verdererref01_Text.j1]
    by_cases h : i < b.size
    · rw [if_pos (decide_eq_true (by omega)),if_pos (by omega),if_pos (by omega),if_pos (by omega),bt_get hlt,bt_get h,bytes_drop hlt,bytes_drop h]
      generalize a.data.toList[i]'(by simpa using hlt) = x
      generalize b.data.toList[i]'(by simpa using h) = y
      have e : cmpB (x :: a.data.toList.drop (i + 1)) (y :: b.data.toList.drop (i + 1)) = if cmpI x.toNat y.toNat = 0 then cmpB (a.data.toList.drop (i + 1)) (b.data.toList.drop (i + 1)) else cmpI x.toNat y.toNat := rfl
      rw [e,wrap_succ hlt ha,ih (i + 1) k (by omega) (by omega) (by omega) (by omega)]
      unfold cmpI
      by_cases h1 : (x.toNat : Int) < y.toNat
      · rw [if_pos h1,if_pos h1,if_neg (by omega)]
      · by_cases h2 : (y.toNat : Int) < x.toNat
        · rw [if_neg h1,if_neg h1,if_pos h2,if_pos h2,if_neg (by omega)]
        · rw [if_neg h1,if_neg h1,if_neg h2,if_neg h2,if_pos rfl]
    · rw [if_neg (by simp;omega),if_neg (by omega),if_pos (by omega),bytes_drop hlt,List.drop_eq_nil_of_le (show b.data.toList.length ≤ i by simp;omega)]
      rfl
theorem text_f (a b : ByteArray) (ha : a.size ≤ 9223372036854775807) (k : Nat) (hk : 2 * a.size + 1 < k) : verdererref01_Text.f k a b = some (cmpB a.data.toList b.data.toList) := by
  have h := text_l0 a b ha a.size 0 k (by omega) (by omega) (by omega) hk
  rw [show ((0 : Nat) : Int) = 0 from rfl] at h
  exact h
end Go.Proofs.Ythfaimomcbmniaa.Z
end
section
namespace Go.Proofs.Ythfaimomcbmniaa.Z
set_option linter.unusedVariables false
set_option linter.unusedSimpArgs false
open Go.RowKit Go.Shelf Go.Maps Go.Proofs.YthfaimomcbmniaaW.PrintWords Go.Proofs.YthfaimomcbmniaaW.PrintLast Go.Proofs.YthfaimomcbmniaaW.PrintMore Go.Proofs.Ythfaimomcbmniaa.Cmp
theorem RTree.lenc {w : World} {r N : Nat} {A : Option Addr} {len c : Nat} {L : List Tn} (h : RTree w r N (.slice A len c) L) : len = L.length ∧ len ≤ c := by
  have h1 := Kd.N_reads' h.row
  rw [List.length_map] at h1
  exact ⟨h1.1,h1.2.1⟩
theorem RTree.cell {w : World} {r N : Nat} {v : Value} {L : List Tn} (h : RTree w r N v L) : w.cell? ⟨r,0,none⟩ = some v := (blk_cell h.blk 0).trans rfl
theorem RTree.far {w W : World} {r N : Nat} {A : Option Addr} {len c : Nat} {L : List Tn} (h : RTree w r N (.slice A len c) L) (hb : Below w.heap.size w W) : Kd.F kTn W (fun k => k ≠ r ∧ k < w.heap.size) A (L.map tn).length (L.map tn) := by
  have h1 := Kd.N_F (Kd.N_below (Kd.N_bound h.row) hb)
  rw [List.length_map,← h.lenc.1]
  exact h1
theorem RTree.take {w W : World} {r N : Nat} {A : Option Addr} {len c : Nat} {L : List Tn} (h : RTree w r N (.slice A len c) L) (hb : Below w.heap.size w W) {q : Nat} (hq : q ≤ L.length) : Kd.F kTn W (fun k => k ≠ r ∧ k < w.heap.size) A q ((L.take q).map tn) := by
  have h1 := Kd.F_take (m := q) (h.far hb) (by rw [List.length_map];exact hq)
  rw [← List.map_take,List.length_map,List.length_take,Nat.min_eq_left hq] at h1
  exact h1
theorem RTree.drop {w W : World} {r N : Nat} {A : Option Addr} {len c : Nat} {L : List Tn} (h : RTree w r N (.slice A len c) L) (hb : Below w.heap.size w W) {q : Nat} (hq : q ≤ L.length) : Kd.F kTn W (fun k => k ≠ r ∧ k < w.heap.size) (if c = q then A else A.map (·.add (q * 2))) (len - q) ((L.drop q).map tn) := by
  have h1 := Kd.F_cut (c := c) (m := q) (h.far hb) (by rw [List.length_map];exact hq) (by rw [List.length_map,← h.lenc.1];exact h.lenc.2)
  rw [← List.map_drop,List.length_map,List.length_drop,← h.lenc.1] at h1
  exact h1
theorem grown_put {w W : World} {r : Nat} (h : w.grownBy W (some r)) (p : Addr) (hp : p.block = r) (u : Value) : w.grownBy (W.setCell p u) (some r) := by
  have cg : Below 0 W (W.setCell p u) := below_set (Below.refl 0 W) (Nat.zero_le _) u
  refine grown_trans h ⟨cg.os,cg.tape,cg.output,cg.size,fun k hk hn => Below.heap_setCell W p u k (fun e => hn (by rw [e,hp]))⟩
theorem info_tE : ∃ i0,Try.prog.info? tE = some i0 ∧ i0.size = 2 := by
  have e : (Try.prog.info? tE).map (fun i => i.size) = some 2 := by kernel_rfl
  obtain ⟨i0,hi,hz⟩ := Option.map_eq_some_iff.1 e
  exact ⟨i0,hi,hz⟩
theorem orphR (L : List Tn) (p : Nm) : orph L p = (!decide (p = emp) && !(getT L p).isSome) := by
  unfold orph
  cases getT L p <;> rfl
set_option maxHeartbeats 8000000 in
set_option maxRecDepth 100000 in
theorem ref_add {w : World} {r N : Nat} {v : Value} {L : List Tn} (h : RTree w r N v L) (hO : Ok L) (n p : Nm) (hn : n.size ≤ maxLen) (hp : p.size ≤ maxLen) :
    Calls Try.prog 108 #[.pointer (some ⟨r,0,none⟩),.string n,.string p] w fun e w' => ∃ v',e = .returned (.int .i64 (addP L n p).1) ∧ RTree w' r N v' (addP L n p).2 ∧ w.grownBy w' (some r) := by
  have HT := Aside0.mk h
  have HO := Aside0.mk hO
  obtain ⟨A,c,rfl,hr⟩ := h.rc
  have HD := Aside0.mk (show addP L n p = (if nameB n = false then (3,L) else if (getT L n).isSome = true then (4,L) else if orph L p = true then (18,L) else if 5 ≤ (abv L p).length then (17,L) else if 24 ≤ L.length then (6,L) else (0,putL n p L)) from rfl)
  have NM := Aside0.mk (fun w' => verdererref07_Name.calls 41 n (nameB n) w' (ref_name_f n 41 (by omega)))
  have HNS := Aside0.mk hn
  have HL24 := hO.len
  clear h hO hr
  generalize addP L n p = R at HD ⊢
  go_enter Try.func108,Try.ntmps108
  go_wp2_with (fail)
  refine (NM.out w).mono ?_
  rintro e w1 ⟨rfl,hb1⟩
  have T1 := Aside0.mk (HT.out.below hb1.below)
  have G1 := Aside0.mk (grown_of_below hb1.below (some r))
  clear hb1 HT NM
  have HRC := Aside0.mk (show RC w1 r A c L from by
    obtain ⟨A',c',e,h⟩ := T1.out.rc
    injection e with e1 e2 e3
    rw [e1,e3]
    exact h)
  cases hnb : nameB n with
  | false =>
    rw [hnb,if_pos rfl] at HD
    go_wp2_with (fail)
    go_ret
    rw [HD.out]
    exact ⟨_,rfl,T1.out,G1.out⟩
  | true =>
    rw [hnb,if_neg (by simp)] at HD
    clear hnb
    go_wp2_with (fail)
    refine (ref_has HRC.out (by omega) n).mono ?_
    rintro e w2 ⟨rfl,rfl⟩
    cases hgn : (getT L n).isSome with
    | true =>
      rw [hgn,if_pos rfl] at HD
      go_wp2_with (fail)
      go_ret
      rw [HD.out]
      exact ⟨_,rfl,T1.out,G1.out⟩
    | false =>
      rw [hgn,if_neg (by simp)] at HD
      have NG := Aside0.mk (show getT L n = none by cases h : getT L n with | none => rfl | some q => rw [h] at hgn;cases hgn)
      clear hgn
      have HW := Aside0.mk (ref_has HRC.out (by omega) p)
      have HOR := Aside0.mk (orphR L p)
      have q0 : (ByteArray.toList p == ([] : List UInt8)) = decide (p = emp) := neS p
      generalize hgp : (getT L p).isSome = gp at HW HOR
      generalize hpe : decide (p = emp) = pe at q0 HOR
      clear hgp hpe
      cases hor : orph L p with
      | true =>
        rw [hor,if_pos rfl] at HD
        have e1 : pe = false := by rw [HOR.out] at hor;cases pe <;> simp_all
        have e2 : gp = false := by rw [HOR.out] at hor;cases gp <;> simp_all
        subst e1
        subst e2
        clear hor
        go_wp2_with (fail)
        refine HW.out.mono ?_
        rintro e w3 ⟨rfl,rfl⟩
        go_wp2_with (fail)
        go_ret
        rw [HD.out]
        exact ⟨_,rfl,T1.out,G1.out⟩
      | false =>
        rw [hor,if_neg (by simp)] at HD
        have e1 : pe = true ∨ (pe = false ∧ gp = true) := by rw [HOR.out] at hor;cases pe <;> simp_all
        clear hor HOR
        have hdep := Aside0.mk (ref_depth HRC.out (by omega) HO.out.sh p)
        obtain ⟨d,hd⟩ : ∃ d,(abv L p).length = d := ⟨_,rfl⟩
        have d5 : d ≤ 5 := by have := abv_len HO.out.sh p;omega
        rw [hd] at hdep HD
        clear hd
        obtain ⟨d1,hd1⟩ : ∃ d1,d + 1 = d1 := ⟨_,rfl⟩
        have hw1 : IntKind.i64.wrap ((d : Int) + 1) = (d1 : Int) := by rw [IntKind.wrap_i64];omega
        obtain ⟨len,hlen⟩ : ∃ len,L.length = len := ⟨_,rfl⟩
        have HLEN := Aside0.mk hlen
        rw [hlen] at HD T1 HL24
        have x0 := T1.out.cell
        rcases e1 with e1 | ⟨e1,e2⟩
        all_goals
          subst e1
          try subst e2
          by_cases hd : 5 ≤ d
          · rw [if_pos hd] at HD
            have q1 : decide ((5 : Int) < (d1 : Int)) = true := decide_eq_true (by omega)
            clear hd hd1 hlen
            go_wp2_with (fail)
            first
              | (refine HW.out.mono ?_
                 rintro e w3 ⟨rfl,rfl⟩
                 go_wp2_with (fail))
              | skip
            refine hdep.out.mono ?_
            rintro e w4 ⟨rfl,hb4⟩
            have T4 := Aside0.mk (T1.out.below hb4)
            have G4 := Aside0.mk (grown_trans G1.out (grown_of_below hb4 (some r)))
            clear hb4
            go_wp2_with (fail)
            go_ret
            rw [HD.out]
            exact ⟨_,rfl,T4.out,G4.out⟩
          · rw [if_neg hd] at HD
            have q1 : decide ((5 : Int) < (d1 : Int)) = false := decide_eq_false (by omega)
            clear hd hd1
            go_wp2_with (fail)
            first
              | (refine HW.out.mono ?_
                 rintro e w3 ⟨rfl,rfl⟩
                 go_wp2_with (fail))
              | skip
            refine hdep.out.mono ?_
            rintro e w4 ⟨rfl,hb4⟩
            have T4 := Aside0.mk (T1.out.below hb4)
            have G4 := Aside0.mk (grown_trans G1.out (grown_of_below hb4 (some r)))
            replace x0 := T4.out.cell
            clear hb4
            by_cases hl : 24 ≤ len
            · rw [if_pos hl] at HD
              have q4 : decide ((24 : Int) ≤ (len : Int)) = true := decide_eq_true (by omega)
              have q3 : decide ((len : Int) ≥ 24) = true := decide_eq_true (by omega)
              clear hl hlen
              go_wp2_with (fail)
              go_ret
              rw [HD.out]
              exact ⟨_,rfl,T4.out,G4.out⟩
            · rw [if_neg hl] at HD
              have q4 : decide ((24 : Int) ≤ (len : Int)) = false := decide_eq_false (by omega)
              have q3 : decide ((len : Int) ≥ 24) = false := decide_eq_false (by omega)
              have hl2 : len < 24 := by omega
              clear hl hlen hdep HW
              go_wp2_with (fail)
              go_loopw [7] (fun iv wr => ∃ (i : Nat),iv = .int .i64 (i : Int) ∧ i ≤ len ∧ Aside0 (i ≤ posI L n) ∧ Aside0 (NextW w4.heap.size w4 wr)) (fun iv _ => len - (intOf iv).toNat)
              case atStart => exact ⟨0,rfl,Nat.zero_le _,⟨Nat.zero_le _⟩,⟨NextW.refl _⟩⟩
              case round =>
                rename World => wr
                obtain ⟨i,rfl,hi,HP,NW⟩ := hrel
                have TR := Aside0.mk (T4.out.below NW.out.below)
                have y0 := TR.out.cell
                have ZC : (i < len ∧ ∃ x,L[i]? = some x ∧ cmpN x.1 n < 0) ∨ ((i < len ∧ ∃ x,L[i]? = some x ∧ ¬ cmpN x.1 n < 0) ∨ i = len) := by
                  by_cases hlt : i < len
                  · have hx : L[i]? = some (L[i]'(by rw [HLEN.out];exact hlt)) := List.getElem?_eq_getElem _
                    by_cases hz : cmpN (L[i]'(by rw [HLEN.out];exact hlt)).1 n < 0
                    · exact .inl ⟨hlt,_,hx,hz⟩
                    · exact .inr (.inl ⟨hlt,_,hx,hz⟩)
                  · exact .inr (.inr (by omega))
                rcases ZC with ⟨hlt,x,hx,hz⟩ | ZC
                · have k0 : decide ((i : Int) < (len : Int)) = true := decide_eq_true (by omega)
                  obtain ⟨ad,rfl,c0,c1⟩ : ∃ ad,A = some ad ∧ wr.cell? (ad.add (i * 2)) = some (.string x.1) ∧ wr.cell? ⟨(ad.add (i * 2)).block,(ad.add (i * 2)).off + 1,none⟩ = some (.string x.2) := by
                    obtain ⟨A',c',e,h⟩ := TR.out.rc
                    injection e with e1 e2 e3
                    obtain ⟨ad,ha,h1,h2⟩ := h.at_ hx
                    exact ⟨ad,e1.trans ha,h1,h2⟩
                  have p0 : (0 : Int) ≤ (i : Int) := by omega
                  have p1 : (i : Int) < (len : Int) := by omega
                  have XS := Aside0.mk (show x.1.size ≤ 9223372036854775807 by have := (name_size (HO.out.nm x (List.mem_of_getElem? hx))).2;omega)
                  have HS := Aside0.mk (posI_step L n i x HP.out hx hz)
                  have TX := Aside0.mk (fun W => verdererref01_Text.calls (2 * x.1.size + 2) x.1 n (cmpN x.1 n) W (text_f x.1 n XS.out _ (by omega)))
                  generalize cmpN x.1 n = z at hz TX
                  have q0 : decide (z < 0) = true := decide_eq_true hz
                  clear hx
                  go_wp2_with (fail)
                  refine (TX.out _).mono ?_
                  rintro e w5 ⟨rfl,hd5⟩
                  have N5 := Aside0.mk (NW.out.next hd5.below)
                  clear hd5
                  go_wp2_with (fail)
                  go_roundw
                  case rel => exact ⟨i + 1,by go_num,by omega,HS,N5⟩
                  case measure => simp [intOf];omega
                · obtain ⟨q,hq,hqc⟩ : ∃ q,posI L n = q ∧ i = q := by
                    refine ⟨i,?_,rfl⟩
                    rcases ZC with ⟨hlt,x,hx,hz⟩ | e
                    · exact posI_stop L n i x HP.out hx hz
                    · have h1 := posI_le L n
                      have h2 := HP.out
                      have h3 := HLEN.out
                      omega
                  subst hqc
                  rename Nat => q
                  have hqr := Aside0.mk hi
                  have HPUT := Aside0.mk (show putL n p L = L.take q ++ (n,p) :: L.drop q by rw [put_new NG.out,hq])
                  obtain ⟨q1,hq1'⟩ : ∃ q1,q + 1 = q1 := ⟨_,rfl⟩
                  have hq1 := Aside0.mk hq1'
                  obtain ⟨i0,hi0,hsz0⟩ := info_tE
                  have hcl := TR.out.lenc.2
                  have CT := Aside0.mk (cut_to 81 tE .i64 Try.underlying81 hi0 A len c (q : Int) (by omega) (by omega) (by omega))
                  have CF := Aside0.mk (cut_from 81 tE .i64 Try.underlying81 hi0 2 hsz0 A len c (q : Int) (by omega) (by omega))
                  simp only [Int.toNat_natCast] at CT CF
                  obtain ⟨A2,hA2⟩ : ∃ A2,(if c = q then A else A.map (·.add (q * 2))) = A2 := ⟨_,rfl⟩
                  have HA2 := Aside0.mk hA2
                  rw [hA2] at CF
                  obtain ⟨m2,hm2⟩ : ∃ m2,len - q = m2 := ⟨_,rfl⟩
                  obtain ⟨c2,hc2⟩ : ∃ c2,c - q = c2 := ⟨_,rfl⟩
                  rw [hm2,hc2] at CF
                  have FT := Aside0.mk (fun W (hb : Below wr.heap.size wr W) => (show Kd.F kTn W (fun k => k ≠ r ∧ k < wr.heap.size) A2 m2 ((L.drop q).map tn) from hA2 ▸ hm2 ▸ TR.out.drop hb (HLEN.out.symm ▸ hqr.out)))
                  have ML := Aside0.mk (show m2 ≤ 24 by omega)
                  have HM2 := Aside0.mk hm2
                  clear hm2 hc2
                  have hct := CT.out
                  have hcf := CF.out
                  have RLT := Aside0.mk (blk_lt TR.out.blk)
                  have GW := Aside0.mk (grown_trans G4.out (grown_of_below NW.out.below (some r)))
                  have NLE := Aside0.mk TR.out.le
                  rcases ZC with ⟨hlt,x,hx,hz⟩ | e
                  · have k0 : decide ((q : Int) < (len : Int)) = true := decide_eq_true (by omega)
                    obtain ⟨ad,rfl,c0,c1⟩ : ∃ ad,A = some ad ∧ wr.cell? (ad.add (q * 2)) = some (.string x.1) ∧ wr.cell? ⟨(ad.add (q * 2)).block,(ad.add (q * 2)).off + 1,none⟩ = some (.string x.2) := by
                      obtain ⟨A',c',e,h⟩ := TR.out.rc
                      injection e with e1 e2 e3
                      obtain ⟨ad,ha,h1,h2⟩ := h.at_ hx
                      exact ⟨ad,e1.trans ha,h1,h2⟩
                    have p0 : (0 : Int) ≤ (q : Int) := by omega
                    have p1 : (q : Int) < (len : Int) := by omega
                    have XS := Aside0.mk (show x.1.size ≤ 9223372036854775807 by have := (name_size (HO.out.nm x (List.mem_of_getElem? hx))).2;omega)
                    have TX := Aside0.mk (fun W => verdererref01_Text.calls (2 * x.1.size + 2) x.1 n (cmpN x.1 n) W (text_f x.1 n XS.out _ (by omega)))
                    generalize cmpN x.1 n = z at hz TX
                    have q0 : decide (z < 0) = false := decide_eq_false hz
                    clear hx hA2 hq hq1' hi0 hsz0 NW HP
                    go_wp2_with (fail)
                    refine (TX.out _).mono ?_
                    rintro e w8 ⟨rfl,hd8⟩
                    have T8 := Aside0.mk (TR.out.below hd8.below)
                    have y8 := T8.out.cell
                    have RLT8 := Aside0.mk (blk_lt T8.out.blk)
                    have GW8 := Aside0.mk (grown_trans GW.out (grown_of_below hd8.below (some r)))
                    have NLE8 := Aside0.mk T8.out.le
                    have FT8 := Aside0.mk (fun W (hb : Below w8.heap.size w8 W) => (show Kd.F kTn W (fun k => k ≠ r ∧ k < w8.heap.size) A2 m2 ((L.drop q).map tn) from HA2.out ▸ HM2.out ▸ T8.out.drop hb (HLEN.out.symm ▸ hqr.out)))
                    clear hd8
                    go_wp2_with (first | ((with_reducible refine gate_builtin (b := .append) (xs := #[.tmp 56,.tmp 62]) rfl ?_);at_builtin;refine Kd.N_append_rows kTn (w0 := w8) w8.heap.size rfl (.tmp 56) (.tmp 62) 81 tE (.agg #[(.string ⟨#[]⟩),(.string ⟨#[]⟩)]) 32 rfl Try.underlying81 (by kernel_rfl) rfl (by decide) (by omega) (.slice none 0 0) [] ((L.take q).map tn) (some ad) q c (fun k => k ≠ r) (fun k => k ≠ r ∧ k < w8.heap.size) rfl rfl (Kd.N_nil _ _ _ _ _) (T8.out.take (Below.refl _ _) (HLEN.out.symm ▸ hqr.out)) (fun k hk => ⟨hk.1,by simp [Value.ownBlock]⟩) (fun k hk => by have := RLT8.out;omega) (Below.refl _ _) (Nat.le_refl _) (by have := hqr.out;rw [List.length_nil];omega) ?_;intro v5 w5 hv hb3 hg hat;rw [List.nil_append] at hv;have T5 := Aside0.mk (T8.out.below hb3);have B5 := Aside0.mk hb3;have N5 := Aside0.mk hv;have E5 := Aside0.mk (show ((L.take q).map tn).length = q by (rw [List.length_map,List.length_take,HLEN.out];exact Nat.min_eq_left hqr.out));have x5 := T5.out.cell;obtain ⟨Al,cl,el⟩ := Kd.N_slice hv;rw [E5.out] at el;clear hv hb3 hg hat;subst el) | ((with_reducible refine gate_builtin (b := .append) (xs := #[.tmp 64,.tmp 68]) rfl ?_);at_builtin;refine Kd.N_append kTn (w0 := w8) w8.heap.size rfl (.tmp 64) (.tmp 68) 81 tE (.agg #[(.string ⟨#[]⟩),(.string ⟨#[]⟩)]) 32 rfl Try.underlying81 (by kernel_rfl) rfl (by decide) (by omega) (.slice Al q cl) ((L.take q).map tn) ⟨n,p⟩ [.string n,.string p] (fun k => k ≠ r) (fun _ => False) rfl rfl (k85_mkF _ _ ⟨n,p⟩) (fun k hk => hk.elim) (fun k hk => by have h1 := RLT8.out;have h2 := B5.out.size;omega) N5.out B5.out B5.out.size (by rw [E5.out];have := hqr.out;omega) ?_;intro v6 w6 hv hb3 hg hat;have T6 := Aside0.mk (T8.out.below hb3);have B6 := Aside0.mk hb3;have N6 := Aside0.mk hv;have E6 := Aside0.mk (show ((L.take q).map tn ++ [(⟨n,p⟩ : STn)]).length = q1 by (rw [List.length_append,E5.out];exact hq1.out));have x6 := T6.out.cell;have W6 := Aside0.mk (Kd.N_base hv);obtain ⟨Am,cm,em⟩ := Kd.N_slice hv;rw [E6.out] at em;clear hv hb3 hg hat;subst em) | ((with_reducible refine gate_builtin (b := .append) (xs := #[.tmp 71,.tmp 77]) rfl ?_);at_builtin;refine Kd.N_append_rows kTn (w0 := w8) w8.heap.size rfl (.tmp 71) (.tmp 77) 81 tE (.agg #[(.string ⟨#[]⟩),(.string ⟨#[]⟩)]) 32 rfl Try.underlying81 (by kernel_rfl) rfl (by decide) (by omega) (.slice Am q1 cm) ((L.take q).map tn ++ [(⟨n,p⟩ : STn)]) ((L.drop q).map tn) A2 m2 c2 (fun k => k ≠ r) (fun k => k ≠ r ∧ k < w8.heap.size) rfl rfl N6.out (FT8.out _ B6.out) (fun k hk => ⟨hk.1,fun e => by have := W6.out k e.symm;omega⟩) (fun k hk => by have h1 := RLT8.out;have h2 := B6.out.size;omega) B6.out B6.out.size (by rw [E6.out];have := hqr.out;have := hq1.out;have := ML.out;omega) ?_;intro v7 w7 hv hb3 hg hat;have T7 := Aside0.mk (T8.out.below hb3);have B7 := Aside0.mk hb3;have N7 := Aside0.mk (show Kd.N kTn tE w7 w8.heap.size (fun k => k ≠ r) v7 ((putL n p L).map tn) by (rw [HPUT.out,List.map_append,List.map_cons,List.append_cons];exact hv));have z7 := blk_frozen T7.out.blk 0;have x7 := T7.out.cell;obtain ⟨Aw,cw,ew⟩ := Kd.N_slice hv;generalize List.length _ = lw at ew;clear hv hb3 hg hat;subst ew))
                    go_ret
                    rw [HD.out]
                    have hlw : lw = (putL n p L).length := by
                      obtain ⟨A',c',e⟩ := Kd.N_slice N7.out
                      injection e with e1 e2 e3
                      rw [e2,List.length_map]
                    refine ⟨_,rfl,⟨blk_put T7.out.blk 0 _ rfl,Kd.N_far (p := ⟨r,0,none⟩) (Kd.N_lower N7.out (by have := RLT8.out;have := NLE8.out;omega)) (fun k hk => hk) _,NLE8.out⟩,grown_put (grown_trans GW8.out (grown_of_below B7.out (some r))) ⟨r,0,none⟩ rfl _⟩
                  · subst e
                    have k0 : decide ((q : Int) < (q : Int)) = false := decide_eq_false (by omega)
                    clear hA2 hq hq1' hi0 hsz0 NW HP
                    go_wp2_with (first | ((with_reducible refine gate_builtin (b := .append) (xs := #[.tmp 56,.tmp 62]) rfl ?_);at_builtin;refine Kd.N_append_rows kTn (w0 := wr) wr.heap.size rfl (.tmp 56) (.tmp 62) 81 tE (.agg #[(.string ⟨#[]⟩),(.string ⟨#[]⟩)]) 32 rfl Try.underlying81 (by kernel_rfl) rfl (by decide) (by omega) (.slice none 0 0) [] ((L.take q).map tn) A q c (fun k => k ≠ r) (fun k => k ≠ r ∧ k < wr.heap.size) rfl rfl (Kd.N_nil _ _ _ _ _) (TR.out.take (Below.refl _ _) (HLEN.out.symm ▸ hqr.out)) (fun k hk => ⟨hk.1,by simp [Value.ownBlock]⟩) (fun k hk => by have := RLT.out;omega) (Below.refl _ _) (Nat.le_refl _) (by have := hqr.out;rw [List.length_nil];omega) ?_;intro v5 w5 hv hb3 hg hat;rw [List.nil_append] at hv;have T5 := Aside0.mk (TR.out.below hb3);have B5 := Aside0.mk hb3;have N5 := Aside0.mk hv;have E5 := Aside0.mk (show ((L.take q).map tn).length = q by (rw [List.length_map,List.length_take,HLEN.out];exact Nat.min_eq_left hqr.out));have x5 := T5.out.cell;obtain ⟨Al,cl,el⟩ := Kd.N_slice hv;rw [E5.out] at el;clear hv hb3 hg hat;subst el) | ((with_reducible refine gate_builtin (b := .append) (xs := #[.tmp 64,.tmp 68]) rfl ?_);at_builtin;refine Kd.N_append kTn (w0 := wr) wr.heap.size rfl (.tmp 64) (.tmp 68) 81 tE (.agg #[(.string ⟨#[]⟩),(.string ⟨#[]⟩)]) 32 rfl Try.underlying81 (by kernel_rfl) rfl (by decide) (by omega) (.slice Al q cl) ((L.take q).map tn) ⟨n,p⟩ [.string n,.string p] (fun k => k ≠ r) (fun _ => False) rfl rfl (k85_mkF _ _ ⟨n,p⟩) (fun k hk => hk.elim) (fun k hk => by have h1 := RLT.out;have h2 := B5.out.size;omega) N5.out B5.out B5.out.size (by rw [E5.out];have := hqr.out;omega) ?_;intro v6 w6 hv hb3 hg hat;have T6 := Aside0.mk (TR.out.below hb3);have B6 := Aside0.mk hb3;have N6 := Aside0.mk hv;have E6 := Aside0.mk (show ((L.take q).map tn ++ [(⟨n,p⟩ : STn)]).length = q1 by (rw [List.length_append,E5.out];exact hq1.out));have x6 := T6.out.cell;have W6 := Aside0.mk (Kd.N_base hv);obtain ⟨Am,cm,em⟩ := Kd.N_slice hv;rw [E6.out] at em;clear hv hb3 hg hat;subst em) | ((with_reducible refine gate_builtin (b := .append) (xs := #[.tmp 71,.tmp 77]) rfl ?_);at_builtin;refine Kd.N_append_rows kTn (w0 := wr) wr.heap.size rfl (.tmp 71) (.tmp 77) 81 tE (.agg #[(.string ⟨#[]⟩),(.string ⟨#[]⟩)]) 32 rfl Try.underlying81 (by kernel_rfl) rfl (by decide) (by omega) (.slice Am q1 cm) ((L.take q).map tn ++ [(⟨n,p⟩ : STn)]) ((L.drop q).map tn) A2 m2 c2 (fun k => k ≠ r) (fun k => k ≠ r ∧ k < wr.heap.size) rfl rfl N6.out (FT.out _ B6.out) (fun k hk => ⟨hk.1,fun e => by have := W6.out k e.symm;omega⟩) (fun k hk => by have h1 := RLT.out;have h2 := B6.out.size;omega) B6.out B6.out.size (by rw [E6.out];have := hqr.out;have := hq1.out;have := ML.out;omega) ?_;intro v7 w7 hv hb3 hg hat;have T7 := Aside0.mk (TR.out.below hb3);have B7 := Aside0.mk hb3;have N7 := Aside0.mk (show Kd.N kTn tE w7 wr.heap.size (fun k => k ≠ r) v7 ((putL n p L).map tn) by (rw [HPUT.out,List.map_append,List.map_cons,List.append_cons];exact hv));have z7 := blk_frozen T7.out.blk 0;have x7 := T7.out.cell;obtain ⟨Aw,cw,ew⟩ := Kd.N_slice hv;generalize List.length _ = lw at ew;clear hv hb3 hg hat;subst ew))
                    go_ret
                    rw [HD.out]
                    have hlw : lw = (putL n p L).length := by
                      obtain ⟨A',c',e⟩ := Kd.N_slice N7.out
                      injection e with e1 e2 e3
                      rw [e2,List.length_map]
                    refine ⟨_,rfl,⟨blk_put T7.out.blk 0 _ rfl,Kd.N_far (p := ⟨r,0,none⟩) (Kd.N_lower N7.out (by have := RLT.out;have := NLE.out;omega)) (fun k hk => hk) _,NLE.out⟩,grown_put (grown_trans GW.out (grown_of_below B7.out (some r))) ⟨r,0,none⟩ rfl _⟩
end Go.Proofs.Ythfaimomcbmniaa.Z
end
section
namespace Go.Proofs.Ythfaimomcbmniaa.Z
set_option linter.unusedVariables false
set_option linter.unusedSimpArgs false
open Go.RowKit Go.Shelf Go.Maps Go.Proofs.YthfaimomcbmniaaW.PrintWords Go.Proofs.YthfaimomcbmniaaW.PrintLast Go.Proofs.YthfaimomcbmniaaW.PrintMore Go.Proofs.Ythfaimomcbmniaa.Cmp
theorem RTree.rca {w : World} {r N : Nat} {A : Option Addr} {len c : Nat} {L : List Tn} (h : RTree w r N (.slice A len c) L) : RC w r A c L := by
  obtain ⟨A',c',e,h⟩ := h.rc
  injection e with e1 e2 e3
  rw [e1,e3]
  exact h
set_option maxHeartbeats 8000000 in
set_option maxRecDepth 100000 in
theorem ref_drop {w : World} {r N : Nat} {v : Value} {L : List Tn} (h : RTree w r N v L) (hO : Ok L) (hR : L.Pairwise (fun p q => toB p.1 < toB q.1)) (n : Nm) :
    Calls Try.prog 110 #[.pointer (some ⟨r,0,none⟩),.string n] w fun e w' => ∃ v',e = .returned (.int .i64 (dropP L n).1) ∧ RTree w' r N v' (dropP L n).2 ∧ w.grownBy w' (some r) := by
  have HT := Aside0.mk h
  have HO := Aside0.mk hO
  have HRI := Aside0.mk hR
  obtain ⟨A,c,rfl,hr⟩ := h.rc
  have HD := Aside0.mk (show dropP L n = (if (getT L n).isSome = false then (5,L) else if 1 < (undL L n).length then (14,L) else (0,delL n L)) from rfl)
  have HF := Aside0.mk (ref_find hr (by have := hO.len;omega) n)
  have HU := Aside0.mk (ref_under hr hO.len hO.sh n)
  have HL24' := hO.len
  clear h hO hr hR
  generalize dropP L n = R at HD ⊢
  cases hg : getT L n with
  | none =>
    rw [hg,Option.isSome_none,if_pos rfl] at HD
    rw [idx_none hg] at HF
    clear hg
    go_enter Try.func110,Try.ntmps110
    go_wp2_with (fail)
    refine HF.out.mono ?_
    rintro e w1 ⟨rfl,rfl⟩
    go_wp2_with (fail)
    go_ret
    rw [HD.out]
    exact ⟨_,rfl,HT.out,grown_refl _ _⟩
  | some p =>
    obtain ⟨he,hpl⟩ := idx_some hg
    rw [he] at HF
    rw [hg,if_neg (by simp)] at HD
    have HDL := Aside0.mk (del_old HRI.out (by rw [hg];simp))
    obtain ⟨q,hq⟩ : ∃ q,posL L n = q := ⟨_,rfl⟩
    rw [hq] at HF hpl HDL
    have q0 : decide ((q : Int) < 0) = false := decide_eq_false (by omega)
    obtain ⟨du,hdu⟩ : ∃ du,(undL L n).length = du := ⟨_,rfl⟩
    have HDU := Aside0.mk hdu
    have du24 : du ≤ 24 := by have := und_lenL L n;omega
    rw [hdu] at HD
    obtain ⟨len,hlen⟩ : ∃ len,L.length = len := ⟨_,rfl⟩
    have HLEN := Aside0.mk hlen
    rw [hlen] at HT hpl HL24'
    have x0 := HT.out.cell
    clear hg he hq hdu hlen
    go_enter Try.func110,Try.ntmps110
    go_wp2_with (fail)
    refine HF.out.mono ?_
    rintro e w1 ⟨rfl,rfl⟩
    go_wp2_with (fail)
    refine HU.out.mono ?_
    rintro e wr ⟨v4,rfl,hrow,hb4⟩
    obtain ⟨Au,cu,rfl,_,_⟩ := hrow.reads
    have TR := Aside0.mk (HT.out.below hb4)
    have y0 := TR.out.cell
    have GW := Aside0.mk (grown_of_below hb4 (some r))
    rw [HDU.out]
    clear hb4 hrow
    by_cases hd : 1 < du
    · rw [if_pos hd] at HD
      have q1 : decide ((1 : Int) < (du : Int)) = true := decide_eq_true (by omega)
      clear hd hpl
      go_wp2_with (fail)
      go_ret
      rw [HD.out]
      exact ⟨_,rfl,TR.out,GW.out⟩
    · rw [if_neg hd] at HD
      have qd : decide ((1 : Int) < (du : Int)) = false := decide_eq_false (by omega)
      have hqr := Aside0.mk hpl
      obtain ⟨q1,hq1'⟩ : ∃ q1,q + 1 = q1 := ⟨_,rfl⟩
      have HPUT := Aside0.mk (show delL n L = L.take q ++ L.drop q1 by rw [← hq1'];exact HDL.out)
      have hw1 : IntKind.i64.wrap ((q : Int) + 1) = (q1 : Int) := by rw [IntKind.wrap_i64];omega
      have HL24 := Aside0.mk HL24'
      obtain ⟨i0,hi0,hsz0⟩ := info_tE
      have hcl := TR.out.lenc.2
      have CT := Aside0.mk (cut_to 81 tE .i64 Try.underlying81 hi0 A len c (q : Int) (by omega) (by omega) (by omega))
      have CF := Aside0.mk (cut_from 81 tE .i64 Try.underlying81 hi0 2 hsz0 A len c (q1 : Int) (by omega) (by omega))
      simp only [Int.toNat_natCast] at CT CF
      obtain ⟨A2,hA2⟩ : ∃ A2,(if c = q1 then A else A.map (·.add (q1 * 2))) = A2 := ⟨_,rfl⟩
      rw [hA2] at CF
      obtain ⟨m2,hm2⟩ : ∃ m2,len - q1 = m2 := ⟨_,rfl⟩
      obtain ⟨c2,hc2⟩ : ∃ c2,c - q1 = c2 := ⟨_,rfl⟩
      rw [hm2,hc2] at CF
      have FT := Aside0.mk (fun W (hb : Below wr.heap.size wr W) => (show Kd.F kTn W (fun k => k ≠ r ∧ k < wr.heap.size) A2 m2 ((L.drop q1).map tn) from hA2 ▸ hm2 ▸ TR.out.drop hb (by have := HLEN.out;omega)))
      have ML := Aside0.mk (show m2 ≤ 24 by omega)
      have hct := CT.out
      have hcf := CF.out
      have RLT := Aside0.mk (blk_lt TR.out.blk)
      have NLE := Aside0.mk TR.out.le
      clear hm2 hc2 hA2 hd hpl hq1' hi0 hsz0 x0
      go_wp2_with (first | ((with_reducible refine gate_builtin (b := .append) (xs := #[.tmp 17,.tmp 23]) rfl ?_);at_builtin;refine Kd.N_append_rows kTn (w0 := wr) wr.heap.size rfl (.tmp 17) (.tmp 23) 81 tE (.agg #[(.string ⟨#[]⟩),(.string ⟨#[]⟩)]) 32 rfl Try.underlying81 (by kernel_rfl) rfl (by decide) (by omega) (.slice none 0 0) [] ((L.take q).map tn) A q c (fun k => k ≠ r) (fun k => k ≠ r ∧ k < wr.heap.size) rfl rfl (Kd.N_nil _ _ _ _ _) (TR.out.take (Below.refl _ _) (by have := hqr.out;have := HLEN.out;omega)) (fun k hk => ⟨hk.1,by simp [Value.ownBlock]⟩) (fun k hk => by have := RLT.out;omega) (Below.refl _ _) (Nat.le_refl _) (by have := hqr.out;have := HL24.out;rw [List.length_nil];omega) ?_;intro v5 w5 hv hb3 hg hat;rw [List.nil_append] at hv;have T5 := Aside0.mk (TR.out.below hb3);have B5 := Aside0.mk hb3;have N5 := Aside0.mk hv;have E5 := Aside0.mk (show ((L.take q).map tn).length = q by (rw [List.length_map,List.length_take,HLEN.out];exact Nat.min_eq_left (Nat.le_of_lt hqr.out)));have x5 := T5.out.cell;have W5 := Aside0.mk (Kd.N_base hv);obtain ⟨Al,cl,el⟩ := Kd.N_slice hv;rw [E5.out] at el;clear hv hb3 hg hat;subst el) | ((with_reducible refine gate_builtin (b := .append) (xs := #[.tmp 26,.tmp 33]) rfl ?_);at_builtin;refine Kd.N_append_rows kTn (w0 := wr) wr.heap.size rfl (.tmp 26) (.tmp 33) 81 tE (.agg #[(.string ⟨#[]⟩),(.string ⟨#[]⟩)]) 32 rfl Try.underlying81 (by kernel_rfl) rfl (by decide) (by omega) (.slice Al q cl) ((L.take q).map tn) ((L.drop q1).map tn) A2 m2 c2 (fun k => k ≠ r) (fun k => k ≠ r ∧ k < wr.heap.size) rfl rfl N5.out (FT.out _ B5.out) (fun k hk => ⟨hk.1,fun e => by have := W5.out k e.symm;omega⟩) (fun k hk => by have h1 := RLT.out;have h2 := B5.out.size;omega) B5.out B5.out.size (by rw [E5.out];have := hqr.out;have := ML.out;have := HL24.out;omega) ?_;intro v7 w7 hv hb3 hg hat;have T7 := Aside0.mk (TR.out.below hb3);have B7 := Aside0.mk hb3;have N7 := Aside0.mk (show Kd.N kTn tE w7 wr.heap.size (fun k => k ≠ r) v7 ((delL n L).map tn) by (rw [HPUT.out,List.map_append];exact hv));have z7 := blk_frozen T7.out.blk 0;have x7 := T7.out.cell;obtain ⟨Aw,cw,ew⟩ := Kd.N_slice hv;generalize List.length _ = lw at ew;clear hv hb3 hg hat;subst ew))
      go_ret
      rw [HD.out]
      have hlw : lw = (delL n L).length := by
        obtain ⟨A',c',e⟩ := Kd.N_slice N7.out
        injection e with e1 e2 e3
        rw [e2,List.length_map]
      refine ⟨_,rfl,⟨blk_put T7.out.blk 0 _ rfl,Kd.N_far (p := ⟨r,0,none⟩) (Kd.N_lower N7.out (by have := RLT.out;have := NLE.out;omega)) (fun k hk => hk) _,NLE.out⟩,grown_put (grown_trans GW.out (grown_of_below B7.out (some r))) ⟨r,0,none⟩ rfl _⟩
end Go.Proofs.Ythfaimomcbmniaa.Z
end
section
namespace Go.Proofs.Ythfaimomcbmniaa.Z
set_option linter.unusedVariables false
set_option linter.unusedSimpArgs false
open Go.RowKit Go.Shelf Go.Maps Go.Proofs.YthfaimomcbmniaaW.PrintWords Go.Proofs.YthfaimomcbmniaaW.PrintLast Go.Proofs.YthfaimomcbmniaaW.PrintMore Go.Proofs.Ythfaimomcbmniaa.Cmp
theorem hasU {L : List Tn} (hs : Shallow L) (n p : Nm) : hasN (undL L n) p = hasN (abv L p) n := by
  cases h : hasN (abv L p) n with
  | true =>
    rw [hasN_iff] at h ⊢
    have hg : getT L p ≠ none := fun e => by rw [abv_none e] at h;cases h
    exact mem_undL hg h
  | false =>
    rw [Bool.eq_false_iff]
    intro h1
    rw [hasN_iff] at h1
    unfold undL at h1
    have := (List.mem_filter.1 h1).2
    rw [h] at this
    cases this
theorem N_flat {w : World} {base : Nat} {ok ok' : Nat → Prop} {v : Value} {xs : List STn} (h : Kd.N kTn tE w base ok v xs) (h0 : ∀ k,v.ownBlock = some k → ok' k) : Kd.N kTn tE w base ok' v xs := by
  obtain ⟨_,rows,hl,hR,hf⟩ := h
  refine ⟨h0,rows,hl,hR,fun j x c hx hc => ?_⟩
  have hK := Kd.FK_now (hf j x c hx hc)
  rw [k85_open hK]
  exact k85_mkF _ _ x
theorem und_sizes {L : List Tn} (hO : Ok L) (n : Nm) : ∀ x ∈ undL L n,x.size ≤ maxLen := by
  intro x hx
  unfold undL at hx
  obtain ⟨q,hq,rfl⟩ := List.mem_map.1 (List.mem_filter.1 hx).1
  have := (name_size (hO.nm q hq)).2
  unfold maxLen
  omega
set_option maxHeartbeats 8000000 in
set_option maxRecDepth 100000 in
theorem ref_move {w : World} {r N : Nat} {v : Value} {L : List Tn} (h : RTree w r N v L) (hO : Ok L) (hR : L.Pairwise (fun p q => toB p.1 < toB q.1)) (n p : Nm) :
    Calls Try.prog 109 #[.pointer (some ⟨r,0,none⟩),.string n,.string p] w fun e w' => ∃ v',e = .returned (.int .i64 (moveP L n p).1) ∧ RTree w' r N v' (moveP L n p).2 ∧ (w.grownBy w' (some r) ∨ ∃ g,v.ownBlock = some g ∧ w.grownBy w' (some g)) := by
  have HT := Aside0.mk h
  have HO := Aside0.mk hO
  have HRI := Aside0.mk hR
  obtain ⟨A,c,rfl,hr⟩ := h.rc
  have HD := Aside0.mk (show moveP L n p = (if (getT L n).isSome = false then (5,L) else if orph L p = true then (18,L) else if hasN (abv L p) n = true then (13,L) else if (5 : Int) < ((abv L p).length : Int) + levL L n then (17,L) else (0,putL n p L)) from rfl)
  have HF := Aside0.mk (ref_find hr (by have := hO.len;omega) n)
  have HW := Aside0.mk (ref_has hr (by have := hO.len;omega) p)
  have HU := Aside0.mk (ref_under hr hO.len hO.sh n)
  have HRC := Aside0.mk hr
  have HL24' := hO.len
  have LB := levL_bound hO.sh n
  have HLV := Aside0.mk (show levL L n = lev L ((abv L n).length : Int) (undL L n) 0 from rfl)
  have HIN := Aside0.mk (hasU hO.sh n p)
  clear h hO hr hR
  generalize moveP L n p = R at HD ⊢
  cases hg : getT L n with
  | none =>
    rw [hg,Option.isSome_none,if_pos rfl] at HD
    rw [idx_none hg] at HF
    clear hg
    go_enter Try.func109,Try.ntmps109
    go_wp2_with (fail)
    refine HF.out.mono ?_
    rintro e w1 ⟨rfl,rfl⟩
    go_wp2_with (fail)
    go_ret
    rw [HD.out]
    exact ⟨_,rfl,HT.out,.inl (grown_refl _ _)⟩
  | some old =>
    obtain ⟨he,hpl⟩ := idx_some hg
    rw [he] at HF
    rw [hg,if_neg (by simp)] at HD
    have HPO := Aside0.mk (put_old (p := p) HRI.out (show getT L n ≠ none by rw [hg];simp))
    have HPS := Aside0.mk (pos_some L n old hg)
    obtain ⟨q,hq⟩ : ∃ q,posL L n = q := ⟨_,rfl⟩
    rw [hq] at HF hpl HPO HPS
    have q0 : decide ((q : Int) < 0) = false := decide_eq_false (by omega)
    obtain ⟨len,hlen⟩ : ∃ len,L.length = len := ⟨_,rfl⟩
    have HLEN := Aside0.mk hlen
    rw [hlen] at HT hpl HL24'
    have HOR := Aside0.mk (orphR L p)
    have q2 : (ByteArray.toList p == ([] : List UInt8)) = decide (p = emp) := neS p
    generalize hgp : (getT L p).isSome = gp at HW HOR
    generalize hpe : decide (p = emp) = pe at q2 HOR
    clear hg he hq hlen hgp hpe
    cases hor : orph L p with
    | true =>
      rw [hor,if_pos rfl] at HD
      have e1 : pe = false := by rw [HOR.out] at hor;cases pe <;> simp_all
      have e2 : gp = false := by rw [HOR.out] at hor;cases gp <;> simp_all
      subst e1
      subst e2
      clear hor
      go_enter Try.func109,Try.ntmps109
      go_wp2_with (fail)
      refine HF.out.mono ?_
      rintro e w1 ⟨rfl,rfl⟩
      go_wp2_with (fail)
      refine HW.out.mono ?_
      rintro e w3 ⟨rfl,rfl⟩
      go_wp2_with (fail)
      go_ret
      rw [HD.out]
      exact ⟨_,rfl,HT.out,.inl (grown_refl _ _)⟩
    | false =>
      rw [hor,if_neg (by simp)] at HD
      have e1 : pe = true ∨ (pe = false ∧ gp = true) := by rw [HOR.out] at hor;cases pe <;> simp_all
      clear hor HOR
      rcases e1 with e1 | ⟨e1,e2⟩
      all_goals
        subst e1
        try subst e2
        go_enter Try.func109,Try.ntmps109
        go_wp2_with (fail)
        refine HF.out.mono ?_
        rintro e w1 ⟨rfl,rfl⟩
        go_wp2_with (fail)
        first
          | (refine HW.out.mono ?_
             rintro e w3 ⟨rfl,rfl⟩
             go_wp2_with (fail))
          | skip
        refine HU.out.mono ?_
        rintro e w2 ⟨v4,rfl,hrow,hb4⟩
        obtain ⟨U,hU⟩ : ∃ U,undL L n = U := ⟨_,rfl⟩
        have UL := Aside0.mk (show U.length ≤ 24 by rw [← hU];have := und_lenL L n;have := HO.out.len;omega)
        have UM := Aside0.mk (show ∀ x ∈ U,x.size ≤ maxLen from hU ▸ und_sizes HO.out n)
        rw [hU] at hrow HLV HIN
        obtain ⟨Au,cu,rfl,_,hC⟩ := hrow.reads
        have UC := Aside0.mk hC
        have R2 := Aside0.mk (HRC.out.below hb4)
        have B2 := Aside0.mk (NextW.mk hb4 hb4.size)
        obtain ⟨dn,hdn⟩ : ∃ dn,(abv L n).length = dn := ⟨_,rfl⟩
        have HDN := Aside0.mk hdn
        have hd5 : dn ≤ 5 := by have := abv_len HO.out.sh n;omega
        rw [hdn] at HLV
        obtain ⟨dp,hdp⟩ : ∃ dp,(abv L p).length = dp := ⟨_,rfl⟩
        have HDP := Aside0.mk hdp
        have hp5 : dp ≤ 5 := by have := abv_len HO.out.sh p;omega
        rw [hdp] at HD
        clear hU hb4 hC hrow hdn hdp HF HU HW
        go_wp2_with (fail)
        go_loopw [9,10] (fun mv iv wr => ∃ i : Nat,iv = .int .i64 (i : Int) ∧ i ≤ U.length ∧ mv = .int .i64 (lev L (dn : Int) (U.take i) 0) ∧ Aside0 (hasN (U.take i) p = false) ∧ Aside0 (NextW w2.heap.size w2 wr)) (fun mv iv _ => U.length - (intOf iv).toNat)
        case atStart => exact ⟨0,rfl,Nat.zero_le _,rfl,⟨rfl⟩,⟨NextW.refl w2⟩⟩
        case round =>
          rename World => wr
          obtain ⟨i,rfl,hi,rfl,HNO,NW⟩ := hrel
          obtain ⟨m0,hm0⟩ : ∃ m0,lev L (dn : Int) (U.take i) 0 = m0 := ⟨_,rfl⟩
          have HM := Aside0.mk hm0
          have hmb : 0 ≤ m0 ∧ m0 ≤ 6 := by rw [← hm0];exact lev_bound HO.out.sh _ (by omega) _ _ (by omega) (by omega)
          rw [hm0]
          clear hm0
          have R3 := Aside0.mk (R2.out.below NW.out.below)
          by_cases hlt : i < U.length
          · have k0 : decide ((i : Int) < (U.length : Int)) = true := decide_eq_true (by omega)
            have h24 := UL.out
            obtain ⟨x,hx⟩ : ∃ x,U[i]? = some x := ⟨U[i],List.getElem?_eq_getElem hlt⟩
            obtain ⟨ad,rfl,c1⟩ := str_at (Kd.C_below UC.out NW.out.below) hx
            have XS := Aside0.mk (UM.out _ (List.mem_of_getElem? hx))
            have TK := Aside0.mk (show U.take (i + 1) = U.take i ++ [x] by rw [List.take_add_one,hx];rfl)
            have HTS := Aside0.mk (has_take_succ U p hx)
            have HXM := Aside0.mk (List.mem_of_getElem? hx)
            have p0 : (0 : Int) ≤ (i : Int) := by omega
            have p1 : (i : Int) < (U.length : Int) := by omega
            clear hx
            by_cases hn : x = p
            · have q3 : (ByteArray.toList x == ByteArray.toList p) = true := by rw [eqS,decide_eq_true hn]
              have HI2 := Aside0.mk (show hasN (abv L p) n = true by rw [← HIN.out,hasN_iff,← hn];exact HXM.out)
              rw [HI2.out,if_pos rfl] at HD
              clear hn
              go_wp2_with (fail)
              go_ret
              rw [HD.out]
              exact ⟨_,rfl,HT.out.below (B2.out.below.trans (NW.out.below.mono B2.out.le)),.inl (grown_of_below (B2.out.below.trans (NW.out.below.mono B2.out.le)) _)⟩
            · have q3 : (ByteArray.toList x == ByteArray.toList p) = false := by rw [eqS,decide_eq_false hn]
              have HNX := Aside0.mk (show hasN (U.take (i + 1)) p = false by rw [HTS.out,HNO.out,decide_eq_false hn];rfl)
              clear hn
              go_wp2_with (fail)
              refine (ref_depth R3.out HO.out.len HO.out.sh x).mono ?_
              rintro e w3 ⟨rfl,hb3⟩
              have N3 := Aside0.mk (NW.out.next hb3)
              have R4 := Aside0.mk (R3.out.below hb3)
              have hx5 := abv_len HO.out.sh x
              clear hb3 R3
              obtain ⟨dx,hdx⟩ : ∃ dx,(abv L x).length = dx := ⟨_,rfl⟩
              have HDX := Aside0.mk hdx
              rw [hdx] at hx5 ⊢
              clear hdx
              have w0 : IntKind.i64.wrap ((dx : Int) - (dn : Int)) = (dx : Int) - (dn : Int) := by rw [IntKind.wrap_i64];omega
              have w1' : IntKind.i64.wrap ((dx : Int) - (dn : Int) + 1) = (dx : Int) - (dn : Int) + 1 := by rw [IntKind.wrap_i64];omega
              go_wp2_with (fail)
              refine (ref_depth R4.out HO.out.len HO.out.sh n).mono ?_
              rintro e w5 ⟨rfl,hb5⟩
              have N5 := Aside0.mk (N3.out.next hb5)
              rw [HDN.out]
              clear hb5
              go_wp2_with (fail)
              exact ⟨⟨i + 1,by rw [show (((i + 1 : Nat)) : Int) = (i : Int) + 1 from by omega],hlt,by rw [TK.out,lev_snoc,HM.out,HDX.out],HNX,N5⟩,by simp [intOf];omega⟩
          · have k0 : decide ((i : Int) < (U.length : Int)) = false := decide_eq_false (by omega)
            obtain rfl : i = U.length := by omega
            rw [List.take_length] at *
            have HI2 := Aside0.mk (show hasN (abv L p) n = false by rw [← HIN.out];exact HNO.out)
            rw [HI2.out,if_neg (by simp)] at HD
            rw [HLV.out,HM.out] at HD
            have w1' : IntKind.i64.wrap ((dp : Int) + m0) = (dp : Int) + m0 := by rw [IntKind.wrap_i64];omega
            by_cases hd : (5 : Int) < (dp : Int) + m0
            · rw [if_pos hd] at HD
              have q3 : decide ((5 : Int) < (dp : Int) + m0) = true := decide_eq_true hd
              clear hd
              go_wp2_with (fail)
              refine (ref_depth R3.out HO.out.len HO.out.sh p).mono ?_
              rintro e w5 ⟨rfl,hb5⟩
              rw [HDP.out]
              have B5 := Aside0.mk ((B2.out.below.trans (NW.out.below.mono B2.out.le)).trans (hb5.mono (Nat.le_trans B2.out.le NW.out.le)))
              clear hb5
              go_wp2_with (fail)
              go_ret
              rw [HD.out]
              exact ⟨_,rfl,HT.out.below B5.out,.inl (grown_of_below B5.out _)⟩
            · rw [if_neg hd] at HD
              have q3 : decide ((5 : Int) < (dp : Int) + m0) = false := decide_eq_false hd
              clear hd
              go_wp2_with (fail)
              refine (ref_depth R3.out HO.out.len HO.out.sh p).mono ?_
              rintro e w5 ⟨rfl,hb5⟩
              rw [HDP.out]
              have B5 := Aside0.mk ((B2.out.below.trans (NW.out.below.mono B2.out.le)).trans (hb5.mono (Nat.le_trans B2.out.le NW.out.le)))
              clear hb5
              have R5 := Aside0.mk (HT.out.below B5.out)
              obtain ⟨g,cap,hgc,_,_,_⟩ := Kd.N_form R5.out.row (by rw [List.length_map,HLEN.out];omega)
              injection hgc with g1 g2 g3
              subst g1
              have y0 := R5.out.cell
              have p0 : (0 : Int) ≤ (q : Int) := by omega
              have p1 : (q : Int) < (len : Int) := by omega
              have GR := Aside0.mk (show g ≠ r from R5.out.row.1 g rfl)
              have HCC := Aside0.mk (show ∀ (j : Nat) (u : Value),[Value.string n,Value.string old][j]? = some u → w5.cell? ⟨g,(q : Int).toNat * 2 + j,none⟩ = some u from fun j u hj => by
                obtain ⟨ad,ha,c0,c1⟩ := R5.out.rca.at_ HPS.out
                injection ha with ha
                subst ha
                rw [Addr.add_lit,Nat.zero_add] at c0 c1
                rw [Int.toNat_natCast]
                match j,hj with
                | 0,hj =>
                  simp only [List.getElem?_cons_zero,Option.some.injEq] at hj
                  rw [← hj]
                  exact c0
                | 1,hj =>
                  simp only [List.getElem?_cons_succ,List.getElem?_cons_zero,Option.some.injEq] at hj
                  rw [← hj]
                  exact c1)
              have OFF := Aside0.mk (show q * 2 + 1 = (q : Int).toNat * kTn.sz + 1 from rfl)
              have HMM := Aside0.mk (show Kd.FK kTn w5 (fun _ => False) (⟨n,p⟩ : STn) ([Value.string n,Value.string old].take 1 ++ [.string p] ++ [Value.string n,Value.string old].drop (1 + [Value.string p].length)) from k85_mkF _ _ (⟨n,p⟩ : STn))
              have HSZ := Aside0.mk (show 1 + [Value.string p].length ≤ kTn.sz from Nat.le_refl 2)
              have HON := Aside0.mk (show ∀ q ∈ [Value.string p],q.oneCell' = true from fun q hq => by simp at hq;subst hq;rfl)
              have HTS := Aside0.mk (show (Try.prog.info? 9).map (·.size) = some [Value.string p].length by kernel_rfl)
              have HRW := Aside0.mk R5.out.row
              clear g2 g3
              go_wp2_with (((with_reducible refine gate_store (t := 9) (p := 65) (v := .tmp 63) rfl ?_);refine Kd.N_store kTn (w0 := w5) N rfl rfl 9 (.tmp 65) (.tmp 63) rfl tE (q : Int) 1 (L.map tn) ⟨n,p⟩ (.string p) [.string p] [.string n,.string old] (fun k => k ≠ r) (fun _ => False) rfl OFF.out rfl rfl HTS.out HON.out HRW.out p0 p1 rfl HCC.out HSZ.out HMM.out (fun k hk => hk.elim) (Below.refl _ _) ?_;intro w6 hv hb hg;have N6 := Aside0.mk hv;have G6 := Aside0.mk hg;clear hv hb hg))
              go_ret
              rw [HD.out]
              refine ⟨.slice (some ⟨g,0,none⟩) len c,rfl,⟨?_,?_,R5.out.le⟩,.inr ⟨g,rfl,grown_trans (grown_of_below B5.out (some g)) G6.out⟩⟩
              · exact (G6.out.block r (blk_lt R5.out.blk) (fun e => GR.out (Option.some.inj e).symm)).trans R5.out.blk
              · rw [HPO.out,List.map_set]
                have := N6.out
                rw [Int.toNat_natCast] at this
                exact this
end Go.Proofs.Ythfaimomcbmniaa.Z
end
section
namespace Go.Proofs
open Go.Shelf
def Try.keys105_ren : Go.Shelf.Ren := ⟨fun | 7 => 105 | 10 => 127 | n => n,fun | 23 => 136 | 26 => 9 | 3 => 9 | 28 => 142 | 0 => 0 | 27 => 141 | 33 => 95 | 4 => 4 | n => n,fun | n => n⟩
theorem Try.keys105 : Go.Proofs.SlLaysZ.n7 Try.prog Try.keys105_ren := {
  mixed := by kernel_rfl
  f7 := ⟨Try.f105.name,by decide,Try.func105.trans (congrArg some (by kernel_rfl))⟩
  f10 := ⟨Try.f127.name,by decide,Try.func127.trans (congrArg some (by kernel_rfl))⟩
  t0 := Try.underlying0
  a0 := Try.isAgg0
  z0 := Try.sizeOf0
  v0 := Try.zeroValue0
  t4 := Try.underlying4
  a4 := Try.isAgg4
  z4 := Try.sizeOf4
  v4 := Try.zeroValue4
  t23 := Try.underlying136
  a23 := Try.isAgg136
  z23 := Try.sizeOf136
  v23 := Try.zeroValue136
  t26 := Try.underlying9
  a26 := Try.isAgg9
  z26 := Try.sizeOf9
  v26 := Try.zeroValue9
  t27 := Try.underlying141
  a27 := Try.isAgg141
  z27 := Try.sizeOf141
  v27 := Try.zeroValue141
  t28 := Try.underlying142
  a28 := Try.isAgg142
  z28 := Try.sizeOf142
  v28 := Try.zeroValue142
  t33 := Try.underlying95
  a33 := Try.isAgg95
  z33 := Try.sizeOf95
  v33 := Try.zeroValue95 }
def Try.sorted104_ren : Go.Shelf.Ren := ⟨fun | 6 => 104 | 8 => 106 | 9 => 86 | 11 => 128 | 13 => 124 | 12 => 123 | 23 => 147 | 24 => 148 | 14 => 138 | 15 => 139 | 16 => 140 | 17 => 141 | 18 => 142 | 19 => 143 | 20 => 144 | 21 => 145 | 22 => 146 | 25 => 155 | 26 => 156 | 27 => 157 | 28 => 158 | 29 => 159 | 30 => 132 | 31 => 164 | n => n,fun | 26 => 9 | 28 => 142 | 24 => 59 | 0 => 0 | 3 => 3 | 37 => 150 | 48 => 174 | 50 => 176 | 4 => 4 | 40 => 168 | 39 => 167 | 45 => 101 | 5 => 5 | 9 => 9 | 51 => 181 | 55 => 185 | 57 => 188 | 58 => 189 | 33 => 95 | n => n,fun | n => n⟩
theorem Try.sorted104 : Go.Proofs.SlLaysZ.n6 Try.prog Try.sorted104_ren := {
  mixed := by kernel_rfl
  f6 := ⟨Try.f104.name,by decide,Try.func104.trans (congrArg some (by kernel_rfl))⟩
  f8 := ⟨Try.f106.name,by decide,Try.func106.trans (congrArg some (by kernel_rfl))⟩
  f11 := ⟨Try.f128.name,by decide,Try.func128.trans (congrArg some (by kernel_rfl))⟩
  t0 := Try.underlying0
  a0 := Try.isAgg0
  z0 := Try.sizeOf0
  v0 := Try.zeroValue0
  t24 := Try.underlying59
  a24 := Try.isAgg59
  z24 := Try.sizeOf59
  v24 := Try.zeroValue59
  t26 := Try.underlying9
  a26 := Try.isAgg9
  z26 := Try.sizeOf9
  v26 := Try.zeroValue9
  t28 := Try.underlying142
  a28 := Try.isAgg142
  z28 := Try.sizeOf142
  v28 := Try.zeroValue142
  i26 := by kernel_rfl }
def Try.sort86_ren : Go.Shelf.Ren := ⟨fun | 6 => 86 | 8 => 124 | 9 => 123 | 19 => 147 | 20 => 148 | 21 => 138 | 22 => 139 | 23 => 140 | 24 => 141 | 25 => 142 | 26 => 143 | 27 => 144 | 28 => 145 | 29 => 146 | 36 => 155 | 31 => 156 | 32 => 157 | 37 => 158 | 38 => 159 | 39 => 132 | 41 => 164 | n => n,fun | 27 => 59 | 29 => 9 | 3 => 3 | 32 => 150 | 26 => 59 | 0 => 0 | 44 => 174 | 46 => 176 | 4 => 4 | 36 => 168 | 35 => 167 | 41 => 101 | 5 => 5 | 9 => 9 | 53 => 181 | 57 => 185 | 63 => 188 | 64 => 189 | n => n,fun | n => n⟩
theorem Try.sort86 : Go.Proofs.SlLaysM.n6 Try.prog Try.sort86_ren := {
  mixed := by kernel_rfl
  f6 := ⟨Try.f86.name,by decide,Try.func86.trans (congrArg some (by kernel_rfl))⟩
  f8 := Try.func124.trans (congrArg some (by kernel_rfl))
  f9 := ⟨Try.f123.name,by decide,Try.func123.trans (congrArg some (by kernel_rfl))⟩
  f19 := Try.func147.trans (congrArg some (by kernel_rfl))
  f20 := Try.func148.trans (congrArg some (by kernel_rfl))
  f21 := ⟨Try.f138.name,by decide,Try.func138.trans (congrArg some (by kernel_rfl))⟩
  f22 := ⟨Try.f139.name,by decide,Try.func139.trans (congrArg some (by kernel_rfl))⟩
  f23 := ⟨Try.f140.name,by decide,Try.func140.trans (congrArg some (by kernel_rfl))⟩
  f24 := ⟨Try.f141.name,by decide,Try.func141.trans (congrArg some (by kernel_rfl))⟩
  f25 := ⟨Try.f142.name,by decide,Try.func142.trans (congrArg some (by kernel_rfl))⟩
  f26 := ⟨Try.f143.name,by decide,Try.func143.trans (congrArg some (by kernel_rfl))⟩
  f27 := ⟨Try.f144.name,by decide,Try.func144.trans (congrArg some (by kernel_rfl))⟩
  f28 := ⟨Try.f145.name,by decide,Try.func145.trans (congrArg some (by kernel_rfl))⟩
  f29 := ⟨Try.f146.name,by decide,Try.func146.trans (congrArg some (by kernel_rfl))⟩
  f31 := Try.func156.trans (congrArg some (by kernel_rfl))
  f32 := Try.func157.trans (congrArg some (by kernel_rfl))
  f36 := ⟨Try.f155.name,by decide,Try.func155.trans (congrArg some (by kernel_rfl))⟩
  f37 := ⟨Try.f158.name,by decide,Try.func158.trans (congrArg some (by kernel_rfl))⟩
  f38 := ⟨Try.f159.name,by decide,Try.func159.trans (congrArg some (by kernel_rfl))⟩
  f39 := ⟨Try.f132.name,by decide,Try.func132.trans (congrArg some (by kernel_rfl))⟩
  f41 := ⟨Try.f164.name,by decide,Try.func164.trans (congrArg some (by kernel_rfl))⟩
  t0 := Try.underlying0
  a0 := Try.isAgg0
  z0 := Try.sizeOf0
  v0 := Try.zeroValue0
  t3 := Try.underlying3
  a3 := Try.isAgg3
  z3 := Try.sizeOf3
  v3 := Try.zeroValue3
  t4 := Try.underlying4
  a4 := Try.isAgg4
  z4 := Try.sizeOf4
  v4 := Try.zeroValue4
  t5 := Try.underlying5
  a5 := Try.isAgg5
  z5 := Try.sizeOf5
  v5 := Try.zeroValue5
  t9 := Try.underlying9
  a9 := Try.isAgg9
  z9 := Try.sizeOf9
  v9 := Try.zeroValue9
  t26 := Try.underlying59
  a26 := Try.isAgg59
  z26 := Try.sizeOf59
  v26 := Try.zeroValue59
  t27 := Try.underlying59
  a27 := Try.isAgg59
  z27 := Try.sizeOf59
  v27 := Try.zeroValue59
  t29 := Try.underlying9
  a29 := Try.isAgg9
  z29 := Try.sizeOf9
  v29 := Try.zeroValue9
  t32 := Try.underlying150
  a32 := Try.isAgg150
  z32 := Try.sizeOf150
  v32 := Try.zeroValue150
  t35 := Try.underlying167
  a35 := Try.isAgg167
  z35 := Try.sizeOf167
  v35 := Try.zeroValue167
  t36 := Try.underlying168
  a36 := Try.isAgg168
  z36 := Try.sizeOf168
  v36 := Try.zeroValue168
  t41 := Try.underlying101
  a41 := Try.isAgg101
  z41 := Try.sizeOf101
  v41 := Try.zeroValue101
  t44 := Try.underlying174
  a44 := Try.isAgg174
  z44 := Try.sizeOf174
  v44 := Try.zeroValue174
  t46 := Try.underlying176
  a46 := Try.isAgg176
  z46 := Try.sizeOf176
  v46 := Try.zeroValue176
  t53 := Try.underlying181
  a53 := Try.isAgg181
  z53 := Try.sizeOf181
  v53 := Try.zeroValue181
  t57 := Try.underlying185
  a57 := Try.isAgg185
  z57 := Try.sizeOf185
  v57 := Try.zeroValue185
  t63 := Try.underlying188
  a63 := Try.isAgg188
  z63 := Try.sizeOf188
  v63 := Try.zeroValue188
  t64 := Try.underlying189
  a64 := Try.isAgg189
  z64 := Try.sizeOf189
  v64 := Try.zeroValue189 }
open Go.RowKit Go.Maps Go.Sort Go.Shelf
theorem Try.sorts104 (m : Nat) : AnyZ.SortsIn Try.prog Try.sorted104_ren Fence.wide m :=
  ⟨fun blk off cap ss W hH hblk hsz => callsIn_wide.2 (AnyM.slices_Sort_string Try.sort86 blk off cap ss W hH hblk hsz),
   fun p cap W => callsIn_wide.2 (AnyM.slices_Sort_string_none Try.sort86 p cap W)⟩
theorem Try.maps_Keys_105 (mb : Option Nat) (W : World) : CallsIn Fence.wide 5 Try.prog 105 #[.map mb] W fun e w' => e = .returned (.func (.func 127) #[] #[.pointer (some ⟨W.heap.size,0,none⟩)]) ∧ w' = W.alloc (.cells #[.map mb] 136) :=
  AnyZ.keys_in Try.keys105 Fence.wide 5 trivial rfl mb W
set_option maxHeartbeats 1000000 in
theorem Try.slices_Sorted_keys_104_105 {H : Type} (b nn : Nat) (D0 : DataW H) (R : Value → Option (DataW H × List MemPlace)) (w : World) (hown : w.ownsMap Try.prog 9 R b nn D0) (hmax : Maps.size D0 ≤ maxLen) (hbytes : Maps.size D0 * 16 ≤ 140737488355328) :
    CallsIn Fence.wide 5 Try.prog 104 #[.func (.func 127) #[] #[.pointer (some ⟨w.heap.size,0,none⟩)]] (w.alloc (.cells #[.map (some b)] 136)) fun e w' => ∃ (v : Value) (ss : List (List UInt8)),e = .returned v ∧ ss.Perm (strKeys D0) ∧
      w'.ownsRow (w.alloc (.cells #[.map (some b)] 136)).heap.size 9 1 v ss.length ((ss.mergeSort (fun x y => decide (x ≤ y))).map encStr) ∧ (v = .slice none 0 0 ↔ ss = []) ∧ Below (w.alloc (.cells #[.map (some b)] 136)).heap.size (w.alloc (.cells #[.map (some b)] 136)) w' := by
  have hbl := hown.lt
  have hseq : SeqGives Fence.wide 2 Try.prog 127 #[.pointer (some ⟨w.heap.size,0,none⟩)] encStr (fun ss => ss.Perm (strKeys D0)) (Maps.size D0) (w.alloc (.cells #[.map (some b)] 136)) :=
    AnyZ.keys_gives (ρ := Try.keys105_ren) { Try.keys105 with } Fence.wide _ trivial rfl (by omega) w.heap.size b nn D0 _ (by simp) (by simp) (by
      obtain ⟨es,clock,hb,Ft,hs,hD⟩ := hown
      exact ⟨es,clock,(Below.heap_alloc _ _ b hbl).trans hb,Ft,hs,hD⟩)
  exact AnyZ.sorted_in Try.sorted104 Fence.wide 5 trivial trivial trivial trivial rfl (by omega) (Try.sorts104 _) (enters_of Try.func86 (by kernel_rfl) rfl) 127 #[.pointer (some ⟨w.heap.size,0,none⟩)] trivial (enters_of Try.func127 (by kernel_rfl) rfl) _ _ hmax hbytes _ hseq
end Go.Proofs
end
section
namespace Go.Proofs.Ythfaimomcbmniaa.Z
set_option linter.unusedVariables false
set_option linter.unusedSimpArgs false
open Go.RowKit Go.Shelf Go.Maps Go.Proofs.YthfaimomcbmniaaW.PrintWords Go.Proofs.YthfaimomcbmniaaW.PrintLast Go.Proofs.YthfaimomcbmniaaW.PrintMore Go.Proofs.Ythfaimomcbmniaa.Cmp
theorem keys_row {w W : World} {t b base : Nat} {L : List Tn} {v : Value} {ss : List (List UInt8)} (h : TreeAt w t b L) (hp : ss.Perm (strKeys (mapD L))) (hr : W.ownsRow base 9 1 v ss.length ((ss.mergeSort (fun x y => decide (x ≤ y))).map encStr)) : SRow W base v (L.map Prod.fst) := by
  rw [strKeys_mapD] at hp
  have h1 : sortN (ss.map ofB) = L.map Prod.fst := by
    refine sortN_eq ?_ (List.pairwise_map.2 (h.rise.imp (fun h => List.le_of_lt h)))
    have := hp.map ofB
    rw [map_of_to] at this
    exact this
  have h2 : (ss.mergeSort leB).map ofB = L.map Prod.fst := by
    rw [← h1]
    unfold sortN
    rw [map_to_of]
  have h3 : ((ss.mergeSort leB).map encStr) = (L.map Prod.fst).map strV := by
    rw [← h2,List.map_map]
    exact List.map_congr_left (fun x _ => by show encStr x = strV (ofB x);rw [← enc_to,to_of])
  have h4 : ss.length = (L.map Prod.fst).length := by rw [hp.length_eq,List.length_map]
  unfold SRow
  rw [← h3,← h4]
  exact hr
theorem getT_at {L : List Tn} (hn : (L.map Prod.fst).Nodup) {i : Nat} {x : Tn} (hx : L[i]? = some x) : getT L x.1 = some x.2 := by
  cases hg : getT L x.1 with
  | none => exact absurd rfl ((getT_none L x.1).1 hg x (List.mem_of_getElem? hx))
  | some p => rw [nodup_eq hn (getT_mem L x.1 p hg) (List.mem_of_getElem? hx) rfl rfl]
set_option maxHeartbeats 8000000 in
set_option maxRecDepth 100000 in
theorem ten_all {w : World} {t b : Nat} {L : List Tn} (h : TreeAt w t b L) (hO : Ok L) : Calls Try.prog 50 #[.pointer (some ⟨t,0,none⟩)] w fun e w' => ∃ v,e = .returned v ∧ Kd.N kTn tE w' w.heap.size (fun _ => True) v (L.map tn) ∧ Below w.heap.size w w' := by
  have HA := Aside0.mk h
  have HO := Aside0.mk hO
  have x0 : w.cell? ⟨t,0,none⟩ = some (.map (some b)) := blk_cell h.blk 0
  have HSZ := Aside0.mk (size_mapD L)
  clear h hO
  go_enter Try.func50,Try.ntmps50
  go_wp2_with (fail)
  refine (callsIn_wide.1 (Try.maps_Keys_105 (some b) w)).mono ?_
  rintro e w' ⟨rfl,rfl⟩
  go_wp2_with (fail)
  refine (callsIn_wide.1 (Try.slices_Sorted_keys_104_105 b L.length (mapD L) RvS w HA.out.map (by rw [HSZ.out];have := HO.out.len;unfold maxLen;omega) (by rw [HSZ.out];have := HO.out.len;omega))).mono ?_
  rintro e w2 ⟨v,ss,rfl,hp,hr,_,hb⟩
  have hrow := keys_row HA.out hp hr
  have B2 := Aside0.mk ((below_alloc (Below.refl w.heap.size w) (.cells #[.map (some b)] tM)).trans (hb.mono (by simp)))
  obtain ⟨Ak,ck,rfl,_,hC⟩ := hrow.reads
  have HC := Aside0.mk hC
  have A2 := Aside0.mk (HA.out.below B2.out)
  rw [List.length_map] at HC ⊢
  clear hp hr hb hrow hC
  go_wp2_with (fail)
  go_loopw [3,15] (fun ov iv wr => ∃ (i : Nat) (K : List Tn),iv = .int .i64 (i : Int) ∧ i ≤ L.length ∧ Aside0 (K = L.take i) ∧ Aside0 (Kd.N kTn tE wr w.heap.size (fun _ => True) ov (K.map tn)) ∧ Aside0 (∀ k,ov.ownBlock = some k → w2.heap.size ≤ k) ∧ Aside0 (NextW w2.heap.size w2 wr)) (fun _ iv _ => L.length - (intOf iv).toNat)
  case atStart => exact ⟨0,[],rfl,Nat.zero_le _,⟨rfl⟩,⟨Kd.N_nil _ _ _ _ _⟩,⟨fun k hk => by simp [Value.ownBlock] at hk⟩,⟨NextW.refl _⟩⟩
  case round =>
    rename World => wr
    obtain ⟨i,K,rfl,hi,HK,HN,HV,NW⟩ := hrel
    obtain ⟨m,hm⟩ : ∃ m,(K.map tn).length = m := ⟨_,rfl⟩
    have HM := Aside0.mk hm
    obtain ⟨Ao,co,rfl⟩ := Kd.N_slice HN.out
    rw [hm] at HN HV ⊢
    clear hm
    have h24 := HO.out.len
    by_cases hlt : i < L.length
    · have k0 : decide ((i : Int) < (L.length : Int)) = true := decide_eq_true (by omega)
      obtain ⟨x,hx⟩ : ∃ x,L[i]? = some x := ⟨L[i],List.getElem?_eq_getElem hlt⟩
      have A3 := Aside0.mk (A2.out.below NW.out.below)
      have hgx := getT_at A3.out.names hx
      have hkx := HO.out.nm x (List.mem_of_getElem? hx)
      have hsx : x.1.size ≤ maxLen := by have := (name_size hkx).2;unfold maxLen;omega
      obtain ⟨ad,cs,rfl,_,hcs,hcell⟩ := Kd.C_get (Kd.C_below HC.out NW.out.below) emp (i : Int) (by omega) (by omega)
      have c0 := hcell 0 (.string x.1) (by
        have h1 : cs = [.string ((L.map Prod.fst).getD (i : Int).toNat emp)] := hcs
        rw [h1,Int.toNat_natCast,List.getD_eq_getElem?_getD,List.getElem?_map,hx]
        rfl)
      have c1 : wr.cell? (ad.add i) = some (.string x.1) := by
        rw [← c0]
        congr 2
        show i = (i : Int).toNat * 1 + 0
        omega
      have y0 : wr.cell? ⟨t,0,none⟩ = some (.map (some b)) := blk_cell A3.out.blk 0
      have l0 := A3.out.look x.1 hsx
      rw [hgx] at l0
      have l1 : (Instr.lookup tM (.map (some b)) (.string x.1) false).run Try.prog wr = .ok (.string x.2) wr := l0
      have TK := Aside0.mk (show L.take (i + 1) = K ++ [x] by rw [HK.out,List.take_add_one,hx];rfl)
      have KL := Aside0.mk (show m ≤ 24 by have := HM.out;rw [← this,List.length_map,HK.out,List.length_take];omega)
      obtain ⟨x1,hx1⟩ : ∃ x1,x.1 = x1 := ⟨_,rfl⟩
      obtain ⟨x2,hx2⟩ : ∃ x2,x.2 = x2 := ⟨_,rfl⟩
      have HXT := Aside0.mk (show tn x = ⟨x1,x2⟩ by rw [← hx1,← hx2];rfl)
      rw [hx1] at c1 l1
      rw [hx2] at l1
      have p0 : (0 : Int) ≤ (i : Int) := by omega
      have p1 : (i : Int) < (L.length : Int) := by omega
      have GE := Aside0.mk (show w.heap.size ≤ wr.heap.size from Nat.le_trans B2.out.size NW.out.le)
      clear hcell hcs c0 hx hgx hkx hsx l0 hx1 hx2
      go_wp2_with (((with_reducible refine gate_builtin (b := .append) (xs := #[.tmp 19,.tmp 28]) rfl ?_);at_builtin;refine Kd.N_append kTn (w0 := w) w.heap.size rfl (.tmp 19) (.tmp 28) 81 tE (.agg #[(.string ⟨#[]⟩),(.string ⟨#[]⟩)]) 32 rfl Try.underlying81 (by kernel_rfl) rfl (by decide) (by omega) (.slice Ao m co) (K.map tn) ⟨x1,x2⟩ [.string x1,.string x2] (fun _ => True) (fun _ => False) rfl rfl (k85_mkF _ _ ⟨x1,x2⟩) (fun k hk => hk.elim) (fun _ _ => trivial) HN.out (B2.out.trans (NW.out.below.mono B2.out.size)) GE.out (by rw [HM.out];have := KL.out;omega) ?_;intro v2 w8 hv hb3 hg hat;have NV8 := Aside0.mk (show Kd.N kTn tE w8 w.heap.size (fun _ => True) v2 ((K ++ [x]).map tn) by (rw [List.map_append];show Kd.N kTn tE w8 w.heap.size (fun _ => True) v2 (K.map tn ++ [tn x]);rw [HXT.out];exact hv));have OV8 := Aside0.mk (own_new2 HV.out NW.out.le hat);have NW8 := Aside0.mk (show NextW w2.heap.size w2 w8 from ⟨NW.out.below.grown hg NW.out.le (fun k e => HV.out k e),Nat.le_trans NW.out.le hg.size⟩);clear hv hb3 hg hat))
      go_roundw
      case rel => exact ⟨i + 1,K ++ [x],by go_num,hlt,⟨TK.out.symm⟩,NV8,OV8,NW8⟩
      case measure => simp [intOf];omega
    · have k0 : decide ((i : Int) < (L.length : Int)) = false := decide_eq_false (by omega)
      have HE := Aside0.mk (show K = L by rw [HK.out,List.take_of_length_le (by omega)])
      go_wp2_with (fail)
      go_ret
      exact ⟨_,rfl,by rw [← HE.out];exact HN.out,B2.out.trans (NW.out.below.mono B2.out.size)⟩
end Go.Proofs.Ythfaimomcbmniaa.Z
end
section
namespace Go.Proofs.Ythfaimomcbmniaa.Z
open Go.RowKit Go.Proofs.YthfaimomcbmniaaW.PrintWords Go.Proofs.YthfaimomcbmniaaW.PrintLast Go.Proofs.YthfaimomcbmniaaW.PrintMore
attribute [local go_sem] max2_int min2_int max_two min_two max_three min_three max_four min_four
set_option linter.unusedVariables false
set_option linter.unusedSimpArgs false
def verdererlaw09_has.l0 : Nat → List ByteArray → ByteArray → Int → Option (Bool)
  | 0,_,_,_ => none
  | k + 1,x0,x1,x5 => if x5 < (x0.length : Int) then (if 0 ≤ x5 then (if (rdOf ByteArray.empty x0 x5).toList = x1.toList then (some true) else (verdererlaw09_has.l0 k x0 x1 (wrap64 (x5 + 1)))) else (none)) else (some false)
def verdererlaw09_has.f (k : Nat) (l0 : List ByteArray) (a1 : ByteArray) : Option (Bool) := verdererlaw09_has.l0 k l0 a1 0
theorem verdererlaw09_has.mono_l : ∀ k,(∀ y0 y1 y2,LeO (verdererlaw09_has.l0 k y0 y1 y2) (verdererlaw09_has.l0 (k + 1) y0 y1 y2))
  | 0 => fun _ _ _ r h => by simp [verdererlaw09_has.l0] at h
  | k + 1 => by
    have ih0 := verdererlaw09_has.mono_l k
    · intro y0 y1 y2
      unfold verdererlaw09_has.l0
      repeat' first
      | (with_reducible exact ih0 _ _ _)
      | (with_reducible exact LeO.refl _)
      | (with_reducible exact LeO.none _)
      | (with_reducible refine LeO.ite ?_ ?_)
      | (with_reducible refine LeO.bind ?_ (fun _ => ?_))
      | exact ih0 _ _ _
      | exact LeO.none _
      | refine LeO.ite ?_ ?_
      | refine LeO.bind ?_ (fun _ => ?_)
theorem verdererlaw09_has.mono : ∀ a0 a1 k,LeO (verdererlaw09_has.f k a0 a1) (verdererlaw09_has.f (k + 1) a0 a1) := by
  intro a0 a1 k
  have ih0 := verdererlaw09_has.mono_l k
  unfold verdererlaw09_has.f
  repeat' first
      | (with_reducible exact ih0 _ _ _)
      | (with_reducible exact LeO.refl _)
      | (with_reducible exact LeO.none _)
      | (with_reducible refine LeO.ite ?_ ?_)
      | (with_reducible refine LeO.bind ?_ (fun _ => ?_))
      | exact ih0 _ _ _
      | exact LeO.none _
      | refine LeO.ite ?_ ?_
      | refine LeO.bind ?_ (fun _ => ?_)
set_option maxHeartbeats 8000000 in
set_option maxRecDepth 100000 in
theorem verdererlaw09_has.calls (k : Nat) (A0 : Option Addr) (c0 : Nat) (l0 : List ByteArray) (a1 : ByteArray) (r : Bool) (w : World) (hr0 : Kd.C Kd.string w A0 l0.length l0) (hc0 : l0.length ≤ c0) (h : verdererlaw09_has.f k l0 a1 = some r) :
    Calls Try.prog 53 #[.slice A0 l0.length c0,.string a1] w fun e w' => e = .returned (.bool r) ∧ Drawn0 w w' := by
  have HR0 := Aside0.mk hr0
  have HC0 := Aside0.mk hc0
  clear hr0 hc0
  have H : (verdererlaw09_has.l0 k l0 a1 0) = some r := h
  clear h
  have H' := Aside0.mk H
  clear H
  go_enter Try.func53,Try.ntmps53
  go_wp2
  go_loopg [5] k (fun kq v5 w' => ∃ (x5_1 : Int),v5 = .int .i64 x5_1 ∧ Aside0 (verdererlaw09_has.l0 kq l0 a1 x5_1 = some r) ∧ Aside0 (kq ≤ k) ∧ Drawn0 w w')
  case atStart => exact ⟨(0),(by first | rfl | (simp;done) | (simp [*];done)),H',⟨Nat.le_refl _⟩,by repeat (first | exact Drawn0.refl _ | apply Drawn0.step)⟩
  case round =>
    clear H'
    try clear p2
    obtain ⟨x5_1,rfl,HA,HK1,⟨m1,rfl⟩⟩ := hrel
    cases gk with
    | zero => exact absurd HA.out (by simp [verdererlaw09_has.l0])
    | succ k1 =>
      have H := HA.out
      clear HA
      simp only [verdererlaw09_has.l0] at H
      by_cases c3 : x5_1 < (l0.length : Int)
      · rw [if_pos c3] at H
        have c3b0 : decide (x5_1 < (l0.length : Int)) = true := decide_eq_true c3
        clear c3
        by_cases c4 : 0 ≤ x5_1
        · rw [if_pos c4] at H
          have c4b0 : decide (0 ≤ x5_1) = true := decide_eq_true c4
          clear c4
          by_cases c5 : (rdOf ByteArray.empty l0 x5_1).toList = a1.toList
          · rw [if_pos c5] at H
            have c5b0 : ((rdOf ByteArray.empty l0 x5_1).toList == a1.toList) = true := beq_iff_eq.mpr c5
            have c5b1 : ((rdOf ByteArray.empty l0 x5_1).toList != a1.toList) = false := bne_eq_false_iff_eq.mpr c5
            clear c5
            obtain rfl := Option.some.inj H
            have p253 : 0 ≤ (x5_1 : Int) := of_decide_eq_true (by first | (with_reducible assumption) | assumption)
            have q253 : x5_1 < (l0.length : Int) := of_decide_eq_true (by first | (with_reducible assumption) | assumption)
            obtain ⟨ad253,e253,hx253_0⟩ := Kd.at_string HR0.out x5_1 p253 q253
            cases e253
            replace p253 := eq_true p253
            replace q253 := eq_true q253
            go_wp2
            go_ret
            exact ⟨by first | rfl | (simp;done) | (simp [*];done),by repeat (first | exact Drawn0.refl _ | apply Drawn0.step)⟩
          · rw [if_neg c5] at H
            have c5b0 : ((rdOf ByteArray.empty l0 x5_1).toList == a1.toList) = false := beq_eq_false_iff_ne.mpr c5
            have c5b1 : ((rdOf ByteArray.empty l0 x5_1).toList != a1.toList) = true := bne_iff_ne.mpr c5
            have H' := Aside0.mk H
            clear H
            have p253 : 0 ≤ (x5_1 : Int) := of_decide_eq_true (by first | (with_reducible assumption) | assumption)
            have q253 : x5_1 < (l0.length : Int) := of_decide_eq_true (by first | (with_reducible assumption) | assumption)
            obtain ⟨ad253,e253,hx253_0⟩ := Kd.at_string HR0.out x5_1 p253 q253
            cases e253
            replace p253 := eq_true p253
            replace q253 := eq_true q253
            go_wp2
            go_roundg k1
            case measure => have := HK1.out;omega
            case rel => exact ⟨(wrap64 (x5_1 + 1)),(by first | rfl | (simp;done) | (simp [*];done)),H',⟨by have := HK1.out;omega⟩,by repeat (first | exact Drawn0.refl _ | apply Drawn0.step)⟩
        · rw [if_neg c4] at H
          exact absurd H (by simp)
      · rw [if_neg c3] at H
        have c3b0 : decide (x5_1 < (l0.length : Int)) = false := decide_eq_false c3
        clear c3
        obtain rfl := Option.some.inj H
        go_wp2
        go_ret
        exact ⟨by first | rfl | (simp;done) | (simp [*];done),by repeat (first | exact Drawn0.refl _ | apply Drawn0.step)⟩
end Go.Proofs.Ythfaimomcbmniaa.Z
end
section
namespace Go.Proofs.Ythfaimomcbmniaa.Z
set_option linter.unusedVariables false
set_option linter.unusedSimpArgs false
open Go.RowKit Go.Proofs.YthfaimomcbmniaaW.PrintWords Go.Proofs.YthfaimomcbmniaaW.PrintLast Go.Proofs.YthfaimomcbmniaaW.PrintMore
structure S78 where
  f0 : Int
  f1 : ByteArray
  f2 : ByteArray
def z78 : S78 := ⟨(0 : Int),(⟨#[]⟩ : ByteArray),(⟨#[]⟩ : ByteArray)⟩
def k78 : Kd S78 := Kd.iso (Kd.pair (Kd.int .i64) (Kd.pair Kd.string Kd.string)) (fun x : S78 => (x.f0,x.f1,x.f2))
theorem k78_open {w : World} {x : S78} {cs : List Value} (h : k78.K w x cs) : cs = [.int .i64 x.f0,.string x.f1,.string x.f2] := by
  obtain ⟨_,_,rfl,rfl,⟨_,_,rfl,rfl,rfl⟩⟩ := h
  exact rfl
def rd_T78 (xs : List S78) (i : Int) : S78 := xs.getD i.toNat z78
theorem at_T78 {w : World} {A : Option Addr} {n : Nat} {xs : List S78} (h : Kd.C k78 w A n xs) (i : Int) (h0 : 0 ≤ i) (h1 : i < n) : ∃ ad,A = some ad ∧ w.cell? (ad.add (i.toNat * 3)) = some (.int .i64 (rd_T78 xs i).f0) ∧ w.cell? ⟨(ad.add (i.toNat * 3)).block,(ad.add (i.toNat * 3)).off + 1,none⟩ = some (.string (rd_T78 xs i).f1) ∧ w.cell? ⟨(ad.add (i.toNat * 3)).block,(ad.add (i.toNat * 3)).off + 2,none⟩ = some (.string (rd_T78 xs i).f2) := by
  obtain ⟨ad,c,e,_,hK,hc0⟩ := Kd.C_get h z78 i h0 h1
  have hc : ∀ j u,c[j]? = some u → w.cell? (ad.add (i.toNat * 3 + j)) = some u := hc0
  obtain rfl := k78_open hK
  exact ⟨ad,e,hc 0 _ rfl,by rw [← add_field _ _ 1 (by omega)];exact hc 1 _ rfl,by rw [← add_field _ _ 2 (by omega)];exact hc 2 _ rfl⟩
end Go.Proofs.Ythfaimomcbmniaa.Z
end
section
namespace Go.Proofs.Ythfaimomcbmniaa.Z
set_option linter.unusedVariables false
set_option linter.unusedSimpArgs false
open Go.RowKit Go.Shelf Go.Maps Go.Proofs.YthfaimomcbmniaaW.PrintWords Go.Proofs.YthfaimomcbmniaaW.PrintLast Go.Proofs.YthfaimomcbmniaaW.PrintMore Go.Proofs.Ythfaimomcbmniaa.Cmp
abbrev Act9 := S78
abbrev kAct : Kd Act9 := k78
def actP (L : List Tn) (a : Act9) : List Tn := if a.f0.tmod 3 = 0 then (addP L a.f1 a.f2).2 else if a.f0.tmod 3 = 1 then (moveP L a.f1 a.f2).2 else (dropP L a.f1).2
theorem Ok.actP {L : List Tn} (h : Ok L) (hn : (L.map Prod.fst).Nodup) (a : Act9) : Ok (Z.actP L a) := by
  unfold Z.actP
  split
  · exact h.addP _ _
  split
  · exact h.moveP hn _ _
  · exact h.dropP hn _
theorem TreeAt.at_ {w W : World} {t b : Nat} {L : List Tn} (h : TreeAt w t b L) (e : SameW w W := by exact ⟨rfl,rfl,rfl,rfl⟩) : TreeAt W t b L := h.below (e.below _)
def GAct (a : Act9) : Prop := a.f1.size ≤ maxLen ∧ a.f2.size ≤ maxLen
end Go.Proofs.Ythfaimomcbmniaa.Z
end
section
namespace Go.Proofs.Ythfaimomcbmniaa.Z
set_option linter.unusedVariables false
set_option linter.unusedSimpArgs false
open Go.RowKit Go.Shelf Go.Maps Go.Proofs.YthfaimomcbmniaaW.PrintWords Go.Proofs.YthfaimomcbmniaaW.PrintLast Go.Proofs.YthfaimomcbmniaaW.PrintMore Go.Proofs.Ythfaimomcbmniaa.Cmp
abbrev tAct : Nat := 78
def KeepA (w w1 : World) : Prop := ∀ (k : Nat) (cs : Array Value),w.heap[k]? = some (.cells cs tAct (0,0)) → w1.heap[k]? = some (.cells cs tAct (0,0))
theorem TreeAt.mapped {w : World} {t b : Nat} {L : List Tn} (h : TreeAt w t b L) : ∃ es clock,w.heap[b]? = some (.map es clock) := by
  obtain ⟨es,clock,h1,_⟩ := h.map
  exact ⟨es,clock,h1⟩
theorem RTree.past {w w1 : World} {r N b : Nat} {v : Value} {L : List Tn} (h : RTree w r N v L) (hg : w.grownBy w1 (some b)) (hb : ∃ es clock,w.heap[b]? = some (.map es clock)) : RTree w1 r N v L := by
  obtain ⟨es,clock,hb⟩ := hb
  have hrb : r ≠ b := fun e => by have := h.blk;rw [e,hb] at this;cases this
  refine ⟨(hg.block r (blk_lt h.blk) (fun e => hrb (Option.some.inj e))).trans h.blk,?_,h.le⟩
  have h1 : Kd.N kTn tE w N (fun k => k ≠ b) v (L.map tn) := N_flat h.row (fun k hk e => by
    obtain ⟨cells,hc⟩ := Kd.N_typed h.row k hk
    rw [e,hb] at hc
    cases hc)
  exact N_flat (Kd.N_step h1 (fun k hk hlt => hg.block k hlt (fun e => hk (Option.some.inj e)))) (fun k hk => h.row.1 k hk)
abbrev GrR (w w1 : World) (r : Nat) (v : Value) : Prop := w.grownBy w1 (some r) ∨ ∃ g,v.ownBlock = some g ∧ w.grownBy w1 (some g)
theorem TreeAt.past {w w1 : World} {t b r N : Nat} {v : Value} {L L2 : List Tn} (h : TreeAt w t b L) (hr : RTree w r N v L2) (hg : GrR w w1 r v) : TreeAt w1 t b L := by
  obtain ⟨es,clock,hb⟩ := h.mapped
  rcases hg with hg | ⟨g,hv,hg⟩
  · refine h.grown hg (fun e => ?_) (fun e => ?_)
    · have h1 := h.blk
      rw [Option.some.inj e,hr.blk] at h1
      injection h1 with h1
      injection h1 with _ h1
      exact absurd h1 (by decide)
    · rw [Option.some.inj e,hr.blk] at hb
      cases hb
  · obtain ⟨cells,hc⟩ := Kd.N_typed hr.row g hv
    refine h.grown hg (fun e => ?_) (fun e => ?_)
    · have h1 := h.blk
      rw [Option.some.inj e,hc] at h1
      injection h1 with h1
      injection h1 with _ h1
      exact absurd h1 (by decide)
    · rw [Option.some.inj e,hc] at hb
      cases hb
theorem keepA_map {w w1 : World} {b : Nat} (hg : w.grownBy w1 (some b)) (hb : ∃ es clock,w.heap[b]? = some (.map es clock)) : KeepA w w1 := fun k cs hk => by
  obtain ⟨es,clock,hb⟩ := hb
  exact (hg.block k (blk_lt hk) (fun e => by rw [Option.some.inj e,hb] at hk;cases hk)).trans hk
theorem keepA_ref {w w1 : World} {r N : Nat} {v : Value} {L : List Tn} (hr : RTree w r N v L) (hg : GrR w w1 r v) : KeepA w w1 := fun k cs hk => by
  rcases hg with hg | ⟨g,hv,hg⟩
  · refine (hg.block k (blk_lt hk) (fun e => ?_)).trans hk
    rw [Option.some.inj e,hr.blk] at hk
    injection hk with h1
    injection h1 with _ h1
    exact absurd h1 (by decide)
  · refine (hg.block k (blk_lt hk) (fun e => ?_)).trans hk
    obtain ⟨cells,hc⟩ := Kd.N_typed hr.row g hv
    rw [Option.some.inj e,hc] at hk
    injection hk with h1
    injection h1 with _ h1
    exact absurd h1 (by decide)
theorem RTree.at_ {w W : World} {r N : Nat} {v : Value} {L : List Tn} (h : RTree w r N v L) (e : SameW w W := by exact ⟨rfl,rfl,rfl,rfl⟩) : RTree W r N v L := h.below (e.below _)
theorem below_map {N : Nat} {w w1 : World} {b : Nat} (hg : w.grownBy w1 (some b)) (hw : N ≤ w.heap.size) (hb : N ≤ b) : Below N w w1 := (Below.refl N w).grown hg hw (fun k e => by cases e;exact hb)
theorem below_ref {N : Nat} {w w1 : World} {r : Nat} {v : Value} {L : List Tn} (hr : RTree w r N v L) (hg : GrR w w1 r v) : Below N w w1 := by
  have hw : N ≤ w.heap.size := Nat.le_trans hr.le (Nat.le_of_lt (blk_lt hr.blk))
  rcases hg with hg | ⟨g,hv,hg⟩
  · exact (Below.refl N w).grown hg hw (fun k e => by cases e;exact hr.le)
  · exact (Below.refl N w).grown hg hw (fun k e => by cases e;exact Kd.N_base hr.row g hv)
structure Half (w w1 : World) (t b r N : Nat) (v : Value) (L L' : List Tn) : Prop where
  ten : TreeAt w1 t b L'
  ref : RTree w1 r N v L
  below : Below N w w1
  keep : KeepA w w1
theorem half {w w1 : World} {t b r N : Nat} {v : Value} {L L' : List Tn} (h : TreeAt w t b L) (hr : RTree w r N v L) (hb : N ≤ b) (h1 : TreeAt w1 t b L') (hg : w.grownBy w1 (some b)) : Half w w1 t b r N v L L' :=
  ⟨h1,hr.past hg h.mapped,below_map hg (Nat.le_trans hr.le (Nat.le_of_lt (blk_lt hr.blk))) hb,keepA_map hg h.mapped⟩
structure Whole (w w1 : World) (t b r N : Nat) (v' : Value) (L' : List Tn) : Prop where
  ten : TreeAt w1 t b L'
  ref : RTree w1 r N v' L'
  below : Below N w w1
theorem whole {w w1 : World} {t b r N : Nat} {v v' : Value} {L L' : List Tn} (h : TreeAt w t b L') (hr : RTree w r N v L) (h1 : RTree w1 r N v' L') (hg : GrR w w1 r v) : Whole w w1 t b r N v' L' :=
  ⟨h.past hr hg,h1,below_ref hr hg⟩
end Go.Proofs.Ythfaimomcbmniaa.Z
end
section
namespace Go.Proofs.Ythfaimomcbmniaa.Z
set_option linter.unusedVariables false
set_option linter.unusedSimpArgs false
open Go.RowKit Go.Shelf Go.Maps Go.Proofs.YthfaimomcbmniaaW.PrintWords Go.Proofs.YthfaimomcbmniaaW.PrintLast Go.Proofs.YthfaimomcbmniaaW.PrintMore Go.Proofs.Ythfaimomcbmniaa.Cmp
set_option maxHeartbeats 8000000 in
set_option maxRecDepth 100000 in
theorem do_same {w : World} {t b r N : Nat} {v : Value} {L : List Tn} (h : TreeAt w t b L) (hr : RTree w r N v L) (hO : Ok L) (hb : N ≤ b) (a : Act9) (ha : GAct a) :
    Calls Try.prog 56 #[.pointer (some ⟨t,0,none⟩),.pointer (some ⟨r,0,none⟩),.agg #[.int .i64 a.f0,.string a.f1,.string a.f2]] w fun e w' => e = .returned (.bool true) ∧ ∃ v',Whole w w' t b r N v' (actP L a) := by
  have HO := Aside0.mk hO
  have HB := Aside0.mk hb
  have HRI := Aside0.mk h.rise
  have hbw : Below w.heap.size w (w.alloc (.cells #[.int .i64 a.f0,.string a.f1,.string a.f2] tAct)) := below_alloc (Below.refl _ _) _
  have T1 := Aside0.mk (h.below hbw)
  have R1 := Aside0.mk (hr.below hbw)
  have BK := Aside0.mk (blk_new w (.cells #[.int .i64 a.f0,.string a.f1,.string a.f2] tAct))
  have NW : N ≤ w.heap.size := Nat.le_trans hr.le (Nat.le_of_lt (blk_lt hr.blk))
  have N1 := Aside0.mk (show NextW N w (w.alloc (.cells #[.int .i64 a.f0,.string a.f1,.string a.f2] tAct)) from ⟨hbw.mono NW,Nat.le_trans NW hbw.size⟩)
  have P0 := Aside0.mk (fun h0 : (a.f0.tmod 3 == 0) = true => show actP L a = (addP L a.f1 a.f2).2 by unfold actP;rw [if_pos (eq_of_beq h0)])
  have P1 := Aside0.mk (fun (h0 : (a.f0.tmod 3 == 0) = false) (h1 : (a.f0.tmod 3 == 1) = true) => show actP L a = (moveP L a.f1 a.f2).2 by unfold actP;rw [if_neg (fun e => by rw [e] at h0;cases h0),if_pos (eq_of_beq h1)])
  have P2 := Aside0.mk (fun (h0 : (a.f0.tmod 3 == 0) = false) (h1 : (a.f0.tmod 3 == 1) = false) => show actP L a = (dropP L a.f1).2 by unfold actP;rw [if_neg (fun e => by rw [e] at h0;cases h0),if_neg (fun e => by rw [e] at h1;cases h1)])
  have G1 := Aside0.mk ha.1
  have G2 := Aside0.mk ha.2
  clear h hr hO hb hbw NW ha
  obtain ⟨a0,a1,a2⟩ := a
  simp only at *
  generalize actP L _ = LL at *
  cases h0 : (a0.tmod 3 == 0) with
  | true =>
      have PD := Aside0.mk (P0.out h0)
      go_enter Try.func56,Try.ntmps56
      go_wp2_with (fail)
      have z0 := (blk_cell BK.out 0).trans rfl
      have x1 := (blk_cell BK.out 1).trans rfl
      have x2 := (blk_cell BK.out 2).trans rfl
      obtain ⟨g,hg⟩ : ∃ g,w.heap.size = g := ⟨_,rfl⟩
      rw [hg] at BK z0 x1 x2 ⊢
      clear hg
      generalize w.alloc (Obj.cells #[.int .i64 a0,.string a1,.string a2] tAct) = w1 at *
      go_region_held3 (fun w' => w'.cell? ⟨g,1,none⟩ = some (.string a1) ∧ w'.cell? ⟨g,2,none⟩ = some (.string a2)) (first | go_keep | exact ⟨by assumption,by assumption⟩) (first
        | (go_at_call 47;(with_reducible refine (ten_add (T1.out.at_ (W := _)) HO.out a1 a2 G1.out G2.out).mono ?_);rintro e w2 ⟨rfl,hA,hg⟩;rw [← PD.out] at hA;have H2 := Aside0.mk (half (T1.out.at_ (W := _)) (R1.out.at_ (W := _)) HB.out hA hg);have BK2 := Aside0.mk (H2.out.keep _ _ BK.out);have N2 := Aside0.mk (N1.out.nextN H2.out.below);replace x1 := (blk_cell BK2.out 1).trans rfl;replace x2 := (blk_cell BK2.out 2).trans rfl;clear hA hg BK T1 R1)
        | (go_at_call 108;(with_reducible refine (ref_add (H2.out.ref.at_ (W := _)) HO.out a1 a2 G1.out G2.out).mono ?_);rintro e w3 ⟨v',rfl,hR,hg⟩;rw [← PD.out] at hR;have W3 := Aside0.mk (whole (H2.out.ten.at_ (W := _)) (H2.out.ref.at_ (W := _)) hR (.inl hg));have K3 := Aside0.mk (keepA_ref (H2.out.ref.at_ (W := _)) (.inl hg));have BK3 := Aside0.mk (K3.out _ _ BK2.out);have N3 := Aside0.mk (N2.out.nextN W3.out.below);replace x1 := (blk_cell BK3.out 1).trans rfl;replace x2 := (blk_cell BK3.out 2).trans rfl;clear hR hg BK2))
      all_goals (
        go_wp2_with (fail)
        go_ret
        exact ⟨rfl,_,W3.out.ten,W3.out.ref,N3.out.below⟩)
  | false =>
    cases h1 : (a0.tmod 3 == 1) with
    | true =>
      have PD := Aside0.mk (P1.out h0 h1)
      go_enter Try.func56,Try.ntmps56
      go_wp2_with (fail)
      have z0 := (blk_cell BK.out 0).trans rfl
      have x1 := (blk_cell BK.out 1).trans rfl
      have x2 := (blk_cell BK.out 2).trans rfl
      obtain ⟨g,hg⟩ : ∃ g,w.heap.size = g := ⟨_,rfl⟩
      rw [hg] at BK z0 x1 x2 ⊢
      clear hg
      generalize w.alloc (Obj.cells #[.int .i64 a0,.string a1,.string a2] tAct) = w1 at *
      go_region_held3 (fun w' => w'.cell? ⟨g,1,none⟩ = some (.string a1) ∧ w'.cell? ⟨g,2,none⟩ = some (.string a2)) (first | go_keep | exact ⟨by assumption,by assumption⟩) (first
        | (go_at_call 48;(with_reducible refine (ten_move (T1.out.at_ (W := _)) HO.out a1 a2 G1.out G2.out).mono ?_);rintro e w2 ⟨rfl,hA,hg⟩;rw [← PD.out] at hA;have H2 := Aside0.mk (half (T1.out.at_ (W := _)) (R1.out.at_ (W := _)) HB.out hA hg);have BK2 := Aside0.mk (H2.out.keep _ _ BK.out);have N2 := Aside0.mk (N1.out.nextN H2.out.below);replace x1 := (blk_cell BK2.out 1).trans rfl;replace x2 := (blk_cell BK2.out 2).trans rfl;clear hA hg BK T1 R1)
        | (go_at_call 109;(with_reducible refine (ref_move (H2.out.ref.at_ (W := _)) HO.out HRI.out a1 a2).mono ?_);rintro e w3 ⟨v',rfl,hR,hg⟩;rw [← PD.out] at hR;have W3 := Aside0.mk (whole (H2.out.ten.at_ (W := _)) (H2.out.ref.at_ (W := _)) hR hg);have K3 := Aside0.mk (keepA_ref (H2.out.ref.at_ (W := _)) hg);have BK3 := Aside0.mk (K3.out _ _ BK2.out);have N3 := Aside0.mk (N2.out.nextN W3.out.below);replace x1 := (blk_cell BK3.out 1).trans rfl;replace x2 := (blk_cell BK3.out 2).trans rfl;clear hR hg BK2))
      all_goals (
        go_wp2_with (fail)
        go_ret
        exact ⟨rfl,_,W3.out.ten,W3.out.ref,N3.out.below⟩)
    | false =>
      have PD := Aside0.mk (P2.out h0 h1)
      go_enter Try.func56,Try.ntmps56
      go_wp2_with (fail)
      have z0 := (blk_cell BK.out 0).trans rfl
      have x1 := (blk_cell BK.out 1).trans rfl
      have x2 := (blk_cell BK.out 2).trans rfl
      obtain ⟨g,hg⟩ : ∃ g,w.heap.size = g := ⟨_,rfl⟩
      rw [hg] at BK z0 x1 x2 ⊢
      clear hg
      generalize w.alloc (Obj.cells #[.int .i64 a0,.string a1,.string a2] tAct) = w1 at *
      go_region_held3 (fun w' => w'.cell? ⟨g,1,none⟩ = some (.string a1) ∧ w'.cell? ⟨g,2,none⟩ = some (.string a2)) (first | go_keep | exact ⟨by assumption,by assumption⟩) (first
        | (go_at_call 49;(with_reducible refine (ten_drop (T1.out.at_ (W := _)) HO.out a1 G1.out).mono ?_);rintro e w2 ⟨rfl,hA,hg⟩;rw [← PD.out] at hA;have H2 := Aside0.mk (half (T1.out.at_ (W := _)) (R1.out.at_ (W := _)) HB.out hA hg);have BK2 := Aside0.mk (H2.out.keep _ _ BK.out);have N2 := Aside0.mk (N1.out.nextN H2.out.below);replace x1 := (blk_cell BK2.out 1).trans rfl;replace x2 := (blk_cell BK2.out 2).trans rfl;clear hA hg BK T1 R1)
        | (go_at_call 110;(with_reducible refine (ref_drop (H2.out.ref.at_ (W := _)) HO.out HRI.out a1).mono ?_);rintro e w3 ⟨v',rfl,hR,hg⟩;rw [← PD.out] at hR;have W3 := Aside0.mk (whole (H2.out.ten.at_ (W := _)) (H2.out.ref.at_ (W := _)) hR (.inl hg));have K3 := Aside0.mk (keepA_ref (H2.out.ref.at_ (W := _)) (.inl hg));have BK3 := Aside0.mk (K3.out _ _ BK2.out);have N3 := Aside0.mk (N2.out.nextN W3.out.below);replace x1 := (blk_cell BK3.out 1).trans rfl;replace x2 := (blk_cell BK3.out 2).trans rfl;clear hR hg BK2))
      all_goals (
        go_wp2_with (fail)
        go_ret
        exact ⟨rfl,_,W3.out.ten,W3.out.ref,N3.out.below⟩)
end Go.Proofs.Ythfaimomcbmniaa.Z
end
section
namespace Go.Proofs.Ythfaimomcbmniaa.Z
open Go.RowKit Go.Proofs.YthfaimomcbmniaaW.PrintWords Go.Proofs.YthfaimomcbmniaaW.PrintLast Go.Proofs.YthfaimomcbmniaaW.PrintMore
attribute [local go_sem] max2_int min2_int max_two min_two max_three min_three max_four min_four
set_option linter.unusedVariables false
set_option linter.unusedSimpArgs false
theorem eqA85 (d : Nat) (w : World) (x0 y0 : ByteArray) (x1 y1 : ByteArray) :
    (Op.equalIn (d + 2) 85 (.agg #[.string x0,.string x1]) (.agg #[.string y0,.string y1])).run Try.prog w = .ok (x0.toList == y0.toList && (x1.toList == y1.toList)) w := by
  refine eqA_of Try.underlying85 (by kernel_rfl) ?_
  refine eqf_cons (by rfl) (by go_simp;rfl) (by go_simp;rfl) (by go_simp) ?_
  exact eqf_last (by rfl) (by go_simp;rfl) (by go_simp;rfl) (by go_simp)
end Go.Proofs.Ythfaimomcbmniaa.Z
end
section
namespace Go.Proofs.Ythfaimomcbmniaa.Z
open Go.RowKit Go.Proofs.YthfaimomcbmniaaW.PrintWords Go.Proofs.YthfaimomcbmniaaW.PrintLast Go.Proofs.YthfaimomcbmniaaW.PrintMore
attribute [local go_sem] max2_int min2_int max_two min_two max_three min_three max_four min_four
set_option linter.unusedVariables false
set_option linter.unusedSimpArgs false
attribute [local go_sem high] eqA85
def verdererref09_Same.l0 : Nat → List (S85) → List (S85) → Int → Option (Bool)
  | 0,_,_,_ => none
  | k + 1,x0,x1,x5 => if x5 < (x0.length : Int) then (if 0 ≤ x5 then (if x5 < (x1.length : Int) then (if (!((((rd_T85 x0 x5).f0).toList) == (((rd_T85 x1 x5).f0).toList)) || (!((((rd_T85 x0 x5).f1).toList) == (((rd_T85 x1 x5).f1).toList)))) = true then (some false) else (verdererref09_Same.l0 k x0 x1 (wrap64 (x5 + 1)))) else (none)) else (none)) else (some true)
def verdererref09_Same.f (k : Nat) (l0 : List (S85)) (l1 : List (S85)) : Option (Bool) := if (l0.length : Int) = (l1.length : Int) then (verdererref09_Same.l0 k l0 l1 0) else (some false)
theorem verdererref09_Same.mono_l : ∀ k,(∀ y0 y1 y2,LeO (verdererref09_Same.l0 k y0 y1 y2) (verdererref09_Same.l0 (k + 1) y0 y1 y2))
  | 0 => fun _ _ _ r h => by simp [verdererref09_Same.l0] at h
  | k + 1 => by
    have ih0 := verdererref09_Same.mono_l k
    · intro y0 y1 y2
      unfold verdererref09_Same.l0
      repeat' first
      | (with_reducible exact ih0 _ _ _)
      | (with_reducible exact LeO.refl _)
      | (with_reducible exact LeO.none _)
      | (with_reducible refine LeO.ite ?_ ?_)
      | (with_reducible refine LeO.bind ?_ (fun _ => ?_))
      | exact ih0 _ _ _
      | exact LeO.none _
      | refine LeO.ite ?_ ?_
      | refine LeO.bind ?_ (fun _ => ?_)
theorem verdererref09_Same.mono : ∀ a0 a1 k,LeO (verdererref09_Same.f k a0 a1) (verdererref09_Same.f (k + 1) a0 a1) := by
  intro a0 a1 k
  have ih0 := verdererref09_Same.mono_l k
  unfold verdererref09_Same.f
  repeat' first
      | (with_reducible exact ih0 _ _ _)
      | (with_reducible exact LeO.refl _)
      | (with_reducible exact LeO.none _)
      | (with_reducible refine LeO.ite ?_ ?_)
      | (with_reducible refine LeO.bind ?_ (fun _ => ?_))
      | exact ih0 _ _ _
      | exact LeO.none _
      | refine LeO.ite ?_ ?_
      | refine LeO.bind ?_ (fun _ => ?_)
set_option maxHeartbeats 8000000 in
set_option maxRecDepth 100000 in
theorem verdererref09_Same.calls (k : Nat) (A0 : Option Addr) (c0 : Nat) (l0 : List (S85)) (A1 : Option Addr) (c1 : Nat) (l1 : List (S85)) (r : Bool) (w : World) (hr0 : Kd.C k85 w A0 l0.length l0) (hc0 : l0.length ≤ c0) (hr1 : Kd.C k85 w A1 l1.length l1) (hc1 : l1.length ≤ c1) (h : verdererref09_Same.f k l0 l1 = some r) :
    Calls Try.prog 64 #[.slice A0 l0.length c0,.slice A1 l1.length c1] w fun e w' => e = .returned (.bool r) ∧ Drawn0 w w' := by
  have hu85 := Try.underlying85
  have HR0 := Aside0.mk hr0
  have HC0 := Aside0.mk hc0
  clear hr0 hc0
  have HR1 := Aside0.mk hr1
  have HC1 := Aside0.mk hc1
  clear hr1 hc1
  have H : (if (l0.length : Int) = (l1.length : Int) then (verdererref09_Same.l0 k l0 l1 0) else (some false)) = some r := h
  clear h
  by_cases c3 : (l0.length : Int) = (l1.length : Int)
  · rw [if_pos c3] at H
    have c3b0 : ((l0.length : Int) == (l1.length : Int)) = true := beq_iff_eq.mpr c3
    have c3b1 : ((l0.length : Int) != (l1.length : Int)) = false := bne_eq_false_iff_eq.mpr c3
    have c3b2 : (l0.length == l1.length) = true := by first | simpa using c3 | (simp at c3 ⊢;omega)
    clear c3
    have H' := Aside0.mk H
    clear H
    go_enter Try.func64,Try.ntmps64
    go_wp2
    repeat (go_quiet (fail);try go_wp2)
    go_loopg [5] k (fun kq v5 w' => ∃ (x5_1 : Int),v5 = .int .i64 x5_1 ∧ Aside0 (verdererref09_Same.l0 kq l0 l1 x5_1 = some r) ∧ Aside0 (kq ≤ k) ∧ Drawn0 w w')
    case atStart => exact ⟨(0),(by first | rfl | (simp;done) | (simp [*];done)),H',⟨Nat.le_refl _⟩,by repeat (first | exact Drawn0.refl _ | apply Drawn0.step)⟩
    case round =>
      clear H'
      try clear c1
      try clear p2
      try clear c3
      try clear c3b0
      try clear c3b1
      try clear c3b2
      obtain ⟨x5_1,rfl,HA,HK1,⟨m1,rfl⟩⟩ := hrel
      cases gk with
      | zero => exact absurd HA.out (by simp [verdererref09_Same.l0])
      | succ k1 =>
        have H := HA.out
        clear HA
        simp only [verdererref09_Same.l0] at H
        by_cases c4 : x5_1 < (l0.length : Int)
        · rw [if_pos c4] at H
          have c4b0 : decide (x5_1 < (l0.length : Int)) = true := decide_eq_true c4
          clear c4
          by_cases c5 : 0 ≤ x5_1
          · rw [if_pos c5] at H
            have c5b0 : decide (0 ≤ x5_1) = true := decide_eq_true c5
            clear c5
            by_cases c6 : x5_1 < (l1.length : Int)
            · rw [if_pos c6] at H
              have c6b0 : decide (x5_1 < (l1.length : Int)) = true := decide_eq_true c6
              clear c6
              by_cases c7 : (!((((rd_T85 l0 x5_1).f0).toList) == (((rd_T85 l1 x5_1).f0).toList)) || (!((((rd_T85 l0 x5_1).f1).toList) == (((rd_T85 l1 x5_1).f1).toList)))) = true
              · rw [if_pos c7] at H
                have c7b0 : (!((((rd_T85 l0 x5_1).f0).toList) == (((rd_T85 l1 x5_1).f0).toList)) || (!((((rd_T85 l0 x5_1).f1).toList) == (((rd_T85 l1 x5_1).f1).toList)))) = true := c7
                clear c7
                obtain rfl := Option.some.inj H
                have p251 : 0 ≤ (x5_1 : Int) := of_decide_eq_true (by first | (with_reducible assumption) | assumption)
                have q251 : x5_1 < (l0.length : Int) := of_decide_eq_true (by first | (with_reducible assumption) | assumption)
                obtain ⟨ad251,e251,hx251_0,hx251_1⟩ := at_T85 HR0.out x5_1 p251 q251
                cases e251
                replace p251 := eq_true p251
                replace q251 := eq_true q251
                have p252 : 0 ≤ (x5_1 : Int) := of_decide_eq_true (by first | (with_reducible assumption) | assumption)
                have q252 : x5_1 < (l1.length : Int) := of_decide_eq_true (by first | (with_reducible assumption) | assumption)
                obtain ⟨ad252,e252,hx252_0,hx252_1⟩ := at_T85 HR1.out x5_1 p252 q252
                cases e252
                replace p252 := eq_true p252
                replace q252 := eq_true q252
                go_wp2
                repeat (go_quiet (fail);try go_wp2)
                go_ret
                exact ⟨by first | rfl | (simp;done) | (simp [*];done),by repeat (first | exact Drawn0.refl _ | apply Drawn0.step)⟩
              · rw [if_neg c7] at H
                have c7b0 : (!((((rd_T85 l0 x5_1).f0).toList) == (((rd_T85 l1 x5_1).f0).toList)) || (!((((rd_T85 l0 x5_1).f1).toList) == (((rd_T85 l1 x5_1).f1).toList)))) = false := by simpa using c7
                clear c7
                have H' := Aside0.mk H
                clear H
                have p251 : 0 ≤ (x5_1 : Int) := of_decide_eq_true (by first | (with_reducible assumption) | assumption)
                have q251 : x5_1 < (l0.length : Int) := of_decide_eq_true (by first | (with_reducible assumption) | assumption)
                obtain ⟨ad251,e251,hx251_0,hx251_1⟩ := at_T85 HR0.out x5_1 p251 q251
                cases e251
                replace p251 := eq_true p251
                replace q251 := eq_true q251
                have p252 : 0 ≤ (x5_1 : Int) := of_decide_eq_true (by first | (with_reducible assumption) | assumption)
                have q252 : x5_1 < (l1.length : Int) := of_decide_eq_true (by first | (with_reducible assumption) | assumption)
                obtain ⟨ad252,e252,hx252_0,hx252_1⟩ := at_T85 HR1.out x5_1 p252 q252
                cases e252
                replace p252 := eq_true p252
                replace q252 := eq_true q252
                go_wp2
                repeat (go_quiet (fail);try go_wp2)
                go_roundg k1
                case measure => have := HK1.out;omega
                case rel => exact ⟨(wrap64 (x5_1 + 1)),(by first | rfl | (simp;done) | (simp [*];done)),H',⟨by have := HK1.out;omega⟩,by repeat (first | exact Drawn0.refl _ | apply Drawn0.step)⟩
            · rw [if_neg c6] at H
              exact absurd H (by simp)
          · rw [if_neg c5] at H
            exact absurd H (by simp)
        · rw [if_neg c4] at H
          have c4b0 : decide (x5_1 < (l0.length : Int)) = false := decide_eq_false c4
          clear c4
          obtain rfl := Option.some.inj H
          go_wp2
          repeat (go_quiet (fail);try go_wp2)
          go_ret
          exact ⟨by first | rfl | (simp;done) | (simp [*];done),by repeat (first | exact Drawn0.refl _ | apply Drawn0.step)⟩
  · rw [if_neg c3] at H
    have c3b0 : ((l0.length : Int) == (l1.length : Int)) = false := beq_eq_false_iff_ne.mpr c3
    have c3b1 : ((l0.length : Int) != (l1.length : Int)) = true := bne_iff_ne.mpr c3
    have c3b2 : (l0.length == l1.length) = false := by first | simpa using c3 | (simp at c3 ⊢;omega)
    obtain rfl := Option.some.inj H
    go_enter Try.func64,Try.ntmps64
    go_wp2
    repeat (go_quiet (fail);try go_wp2)
    go_ret
    exact ⟨by first | rfl | (simp;done) | (simp [*];done),by repeat (first | exact Drawn0.refl _ | apply Drawn0.step)⟩
end Go.Proofs.Ythfaimomcbmniaa.Z
end
section
namespace Go.Proofs.Ythfaimomcbmniaa.Z
set_option linter.unusedVariables false
set_option linter.unusedSimpArgs false
open Go.RowKit Go.Shelf Go.Maps Go.Proofs.YthfaimomcbmniaaW.PrintWords Go.Proofs.YthfaimomcbmniaaW.PrintLast Go.Proofs.YthfaimomcbmniaaW.PrintMore Go.Proofs.Ythfaimomcbmniaa.Cmp
theorem same_l0 (l : List STn) (hl : l.length ≤ 1000000) : ∀ d i k,l.length - i = d → i ≤ l.length → d + 1 < k → verdererref09_Same.l0 k l l (i : Int) = some true := by
  intro d
  induction d with
  | zero =>
    intro i k hd hi hk
    obtain ⟨k,rfl⟩ : ∃ m,k = m + 1 := ⟨k - 1,by omega⟩
    simp only [verdererref09_Same.l0]
    rw [if_neg (by omega)]
  | succ d ih =>
    intro i k hd hi hk
    obtain ⟨k,rfl⟩ : ∃ m,k = m + 1 := ⟨k - 1,by omega⟩
    simp only [verdererref09_Same.l0]
    rw [if_pos (by omega),if_pos (by omega),if_pos (by omega),if_neg (by simp),show wrap64 ((i : Int) + 1) = ((i + 1 : Nat) : Int) by unfold wrap64;omega]
    exact ih (i + 1) k (by omega) (by omega) (by omega)
theorem same_call {A0 A1 : Option Addr} {c0 c1 n : Nat} {l : List STn} {w : World} (hn : l.length = n) (hl : n ≤ 1000000) (h0 : Kd.C kTn w A0 n l) (k0 : n ≤ c0) (h1 : Kd.C kTn w A1 n l) (k1 : n ≤ c1) :
    Calls Try.prog 64 #[.slice A0 n c0,.slice A1 n c1] w fun e w' => e = .returned (.bool true) ∧ Below w.heap.size w w' := by
  subst hn
  refine (verdererref09_Same.calls (l.length + 2) A0 c0 l A1 c1 l true w h0 k0 h1 k1 ?_).mono ?_
  · unfold verdererref09_Same.f
    rw [if_pos rfl]
    exact same_l0 l hl l.length 0 _ (by omega) (Nat.zero_le _) (by omega)
  · rintro e w' ⟨rfl,h⟩
    exact ⟨rfl,h.below⟩
theorem rtree_new (w : World) (N : Nat) (hN : N ≤ w.heap.size) : RTree (w.alloc (.cells #[.slice none 0 0] tR)) w.heap.size N (.slice none 0 0) [] :=
  ⟨blk_new w _,Kd.N_nil _ _ _ _ _,hN⟩
end Go.Proofs.Ythfaimomcbmniaa.Z
end
section
namespace Go.Proofs
open Go.Shelf
def Try.mclone_ren : Go.Shelf.Ren := ⟨fun | 5 => 112 | 7 => 131 | n => n,fun | 23 => 136 | 25 => 9 | 3 => 9 | 4 => 4 | 20 => 20 | n => n,fun | n => n⟩
theorem Try.mclone : Go.Proofs.SlLaysW.n5 Try.prog Try.mclone_ren := {
  mixed := by kernel_rfl
  f5 := ⟨Try.f112.name,by decide,Try.func112.trans (congrArg some (by kernel_rfl))⟩
  f7 := Try.func131.trans (congrArg some (by kernel_rfl))
  t4 := Try.underlying4
  a4 := Try.isAgg4
  z4 := Try.sizeOf4
  v4 := Try.zeroValue4
  t20 := Try.underlying20
  a20 := Try.isAgg20
  z20 := Try.sizeOf20
  v20 := Try.zeroValue20
  t23 := Try.underlying136
  a23 := Try.isAgg136
  z23 := Try.sizeOf136
  v23 := Try.zeroValue136 }
end Go.Proofs
end
section
namespace Go.Proofs.Ythfaimomcbmniaa.Z
set_option linter.unusedVariables false
set_option linter.unusedSimpArgs false
open Go.RowKit Go.Shelf Go.Maps Go.Proofs.YthfaimomcbmniaaW.PrintWords Go.Proofs.YthfaimomcbmniaaW.PrintLast Go.Proofs.YthfaimomcbmniaaW.PrintMore Go.Proofs.Ythfaimomcbmniaa.Cmp
set_option maxHeartbeats 4000000 in
set_option maxRecDepth 100000 in
theorem ten_copy {w : World} {t b : Nat} {L : List Tn} (h : TreeAt w t b L) :
    Calls Try.prog 65 #[.pointer (some ⟨t,0,none⟩)] w fun e w' => ∃ t' b',e = .returned (.pointer (some ⟨t',0,none⟩)) ∧ TreeAt w' t' b' L ∧ Below w.heap.size w w' ∧ w.heap.size ≤ t' ∧ w.heap.size ≤ b' := by
  have HA := Aside0.mk h
  have x0 : w.cell? ⟨t,0,none⟩ = some (.map (some b)) := blk_cell h.blk 0
  have MC := Aside0.mk (show Calls Try.prog 112 #[.map (some b)] w _ from AnyW.maps_Clone_owns Try.mclone 9 RvS b L.length (mapD L) w h.map)
  clear h
  go_enter Try.func65,Try.ntmps65
  go_wp2_with (fail)
  refine MC.out.mono ?_
  rintro e w1 ⟨rfl,hm,_,hb⟩
  have M1 := Aside0.mk hm
  have B1 := Aside0.mk hb
  clear hm hb
  go_wp2_with (fail)
  go_ret
  refine ⟨_,_,rfl,⟨by have := blk_new w1 (.cells #[.map (some w.heap.size)] tT);simpa using this,M1.out.alloc _⟩,below_alloc B1.out _,B1.out.size,Nat.le_refl _⟩
set_option maxHeartbeats 4000000 in
set_option maxRecDepth 100000 in
theorem ref_copy {w : World} {r N : Nat} {v : Value} {L : List Tn} (h : RTree w r N v L) (hL : L.length ≤ 24) :
    Calls Try.prog 66 #[.pointer (some ⟨r,0,none⟩)] w fun e w' => ∃ r' v',e = .returned (.pointer (some ⟨r',0,none⟩)) ∧ RTree w' r' w.heap.size v' L ∧ Below w.heap.size w w' := by
  obtain ⟨A,c,rfl,_⟩ := h.rc
  have hbw : Below w.heap.size w (w.alloc (.cells #[.slice none 0 0] tR)) := below_alloc (Below.refl _ _) _
  have R1 := Aside0.mk (h.below hbw)
  have B1 := Aside0.mk hbw
  have RW := Aside0.mk h.blk
  have C1 := Aside0.mk (rtree_new w w.heap.size (Nat.le_refl _))
  clear h hbw
  go_enter Try.func66,Try.ntmps66
  go_wp2_with (fail)
  obtain ⟨g,hg⟩ : ∃ g,w.heap.size = g := ⟨_,rfl⟩
  have HG := Aside0.mk hg
  have NE := Aside0.mk (show r ≠ g by have := blk_lt (show w.heap[r]? = _ from RW.out);omega)
  rw [hg] at C1 ⊢
  clear hg RW
  generalize w.alloc (.cells #[.slice none 0 0] tR) = w1 at *
  have x0 := C1.out.cell
  have y0 := R1.out.cell
  have FT := Aside0.mk (show Kd.F kTn w1.drew (fun k => k ≠ g) A L.length (L.map tn) from by
    have h1 := Kd.N_drew (N_flat (ok' := fun k => k ≠ g) R1.out.row (fun k hk e => by
      obtain ⟨cells,hc⟩ := Kd.N_typed R1.out.row k hk
      rw [e,C1.out.blk] at hc
      injection hc with h1
      injection h1 with _ h1
      exact absurd h1 (by decide)))
    exact Kd.N_F h1)
  refine start_ (n := 13) (S := fun w' => w'.cell? ⟨g,0,none⟩ = some (.slice none 0 0) ∧ w'.cell? ⟨r,0,none⟩ = some (.slice A L.length c)) (ds := [9,12]) #[false,false,false,false,false,false,false,false,false,false,false,false,false] (by kernel_rfl) rfl rfl (⟨x0,y0⟩) (fun hHeld => ?_)
  refine pure_ (i := 0) (N := some 6) (v := ?_) (a' := ?_) #[true,false,false,false,false,false,false,false,false,false,false,false,false] rfl rfl (by kernel_rfl) (fun _ _ _ h => h) (Or.inl ⟨by rfl,?_⟩) ?_ ?_
  rotate_left
  · intro w'
    go_simp
    with_reducible rfl
  rotate_left
  · simp only [Act.put,zA,zB,zC,i64_w,i32_w]
    rfl
  refine pure_ (i := 1) (N := some 7) (v := ?_) (a' := ?_) #[true,true,false,false,false,false,false,false,false,false,false,false,false] rfl rfl (by kernel_rfl) (fun _ _ _ h => h) (Or.inl ⟨by rfl,?_⟩) ?_ ?_
  rotate_left
  · intro w'
    go_simp
    with_reducible rfl
  rotate_left
  · simp only [Act.put,zA,zB,zC,i64_w,i32_w]
    rfl
  refine pure_ (i := 2) (N := some 8) (v := ?_) (a' := ?_) #[true,true,true,false,false,false,false,false,false,false,false,false,false] rfl rfl (by kernel_rfl) (fun _ _ _ h => h) (Or.inl ⟨by rfl,?_⟩) ?_ ?_
  rotate_left
  · intro w'
    go_simp
    with_reducible rfl
  rotate_left
  · simp only [Act.put,zA,zB,zC,i64_w,i32_w]
    rfl
  refine pure_ (i := 3) (N := some 9) (v := ?_) (a' := ?_) #[true,true,true,true,false,false,false,false,false,false,false,false,false] rfl rfl (by kernel_rfl) (fun _ _ _ h => h) (Or.inl ⟨by rfl,?_⟩) ?_ ?_
  rotate_left
  · intro w'
    go_simp
    with_reducible rfl
  rotate_left
  · simp only [Act.put,zA,zB,zC,i64_w,i32_w]
    rfl
  refine take_ (i := 4) (N := some 10) (v := ?_) (a' := ?_) #[true,true,true,true,true,false,false,false,false,false,false,false,false] rfl rfl (by kernel_rfl) (fun _ _ _ h => h) (Or.inl ⟨by rfl,?_⟩) hHeld ?_ ?_
  rotate_left
  · rintro w' ⟨s0,s1⟩
    go_simp
    with_reducible rfl
  rotate_left
  · simp only [Act.put,zA,zB,zC,i64_w,i32_w]
    rfl
  refine pure_ (i := 5) (N := some 11) (v := ?_) (a' := ?_) #[true,true,true,true,true,true,false,false,false,false,false,false,false] rfl rfl (by kernel_rfl) (fun _ _ _ h => h) (Or.inl ⟨by rfl,?_⟩) ?_ ?_
  rotate_left
  · intro w'
    go_simp
    with_reducible rfl
  rotate_left
  · simp only [Act.put,zA,zB,zC,i64_w,i32_w]
    rfl
  refine pure_ (i := 6) (N := some 12) (v := ?_) (a' := ?_) #[true,true,true,true,true,true,true,false,false,false,false,false,false] rfl rfl (by kernel_rfl) (fun _ _ _ h => h) (Or.inl ⟨by rfl,?_⟩) ?_ ?_
  rotate_left
  · intro w'
    go_simp
    with_reducible rfl
  rotate_left
  · simp only [Act.put,zA,zB,zC,i64_w,i32_w]
    rfl
  refine pure_ (i := 7) (N := some 13) (v := ?_) (a' := ?_) #[true,true,true,true,true,true,true,true,false,false,false,false,false] rfl rfl (by kernel_rfl) (fun _ _ _ h => h) (Or.inl ⟨by rfl,?_⟩) ?_ ?_
  rotate_left
  · intro w'
    go_simp
    with_reducible rfl
  rotate_left
  · simp only [Act.put,zA,zB,zC,i64_w,i32_w]
    rfl
  refine take_ (i := 8) (N := some 14) (v := ?_) (a' := ?_) #[true,true,true,true,true,true,true,true,true,false,false,false,false] rfl rfl (by kernel_rfl) (fun _ _ _ h => h) (Or.inl ⟨by rfl,?_⟩) hHeld ?_ ?_
  rotate_left
  · rintro w' ⟨s0,s1⟩
    go_simp
    with_reducible rfl
  rotate_left
  · simp only [Act.put,zA,zB,zC,i64_w,i32_w]
    rfl
  refine last_ (i := 9) (N := some 15) #[true,true,true,true,true,true,true,true,true,true,false,false,false] rfl rfl (by kernel_rfl) (by decide) (fun K hK => ?_)
  refine Kd.N_append_rows_step kTn (w0 := w1.drew) w1.heap.size (by rfl) (.tmp 10) (.tmp 14) 81 tE (.agg #[(.string ⟨#[]⟩),(.string ⟨#[]⟩)]) 32 rfl Try.underlying81 (by kernel_rfl) rfl (by decide) (by omega) (.slice none 0 0) [] (L.map tn) A L.length c (fun k => k ≠ g) (fun k => k ≠ g) rfl rfl (Kd.N_nil _ _ _ _ _) FT.out (fun k hk => ⟨hk,by simp [Value.ownBlock]⟩) (fun k hk => by have := blk_lt C1.out.blk;have : w1.heap.size ≤ k := hk;omega) (Below.refl _ _) (Nat.le_refl _) (by rw [List.length_nil];omega) ?_
  intro v5 w5 hv hb3 hg hat
  rw [List.nil_append] at hv
  have C5 := Aside0.mk (C1.out.below (w1 := w5) ⟨hb3.os,hb3.tape,hb3.output,hb3.size,hb3.block⟩)
  have B5 := Aside0.mk (show Below w1.heap.size w1 w5 from ⟨hb3.os,hb3.tape,hb3.output,hb3.size,hb3.block⟩)
  have N5 := Aside0.mk hv
  obtain ⟨Al,cl,el⟩ := Kd.N_slice hv
  rw [List.length_map] at el
  clear hv hb3 hg hat
  subst el
  refine hK.out _ _ ?_
  clear hK K
  refine norm_ (a' := ?_) ?_ ?_
  rotate_left
  · show Act.put _ (some 15) _ = _
    simp only [Act.put,zA,zB,zC,i64_w,i32_w]
    rfl
  refine pure_ (i := 10) (N := some 16) (v := ?_) (a' := ?_) #[true,true,true,true,true,true,true,true,true,true,true,false,false] rfl rfl (by kernel_rfl) (fun _ _ _ h => h) (Or.inl ⟨by rfl,?_⟩) ?_ ?_
  rotate_left
  · intro w'
    go_simp
    with_reducible rfl
  rotate_left
  · simp only [Act.put,zA,zB,zC,i64_w,i32_w]
    rfl
  refine pure_ (i := 11) (N := some 17) (v := ?_) (a' := ?_) #[true,true,true,true,true,true,true,true,true,true,true,true,false] rfl rfl (by kernel_rfl) (fun _ _ _ h => h) (Or.inl ⟨by rfl,?_⟩) ?_ ?_
  rotate_left
  · intro w'
    go_simp
    with_reducible rfl
  rotate_left
  · simp only [Act.put,zA,zB,zC,i64_w,i32_w]
    rfl
  refine last_ (i := 12) (N := none) #[true,true,true,true,true,true,true,true,true,true,true,true,true] rfl rfl (by kernel_rfl) (by decide) (fun K hK => ?_)
  refine skip_ (w1 := w5.setCell ⟨g,0,none⟩ (.slice Al L.length cl)) (by rfl) rfl ?_ ?_
  · have z := blk_frozen C5.out.blk 0
    have cc := C5.out.cell
    go_simp
    try with_reducible rfl
  refine hK.out _ _ ?_
  clear hK K
  refine done_ (by kernel_rfl) ?_
  go_wp2_with (fail)
  go_ret
  refine ⟨g,_,rfl,⟨blk_put C5.out.blk 0 _ rfl,Kd.N_far (p := ⟨g,0,none⟩) (Kd.N_lower N5.out (by have := B1.out.size;omega)) (fun k hk => hk) _,by have := HG.out;omega⟩,?_⟩
  exact below_set (B1.out.trans (B5.out.mono B1.out.size)) (by have := HG.out;show w.heap.size ≤ g;omega) _
end Go.Proofs.Ythfaimomcbmniaa.Z
end
section
namespace Go.Proofs.Ythfaimomcbmniaa.Z
set_option linter.unusedVariables false
set_option linter.unusedSimpArgs false
open Go.RowKit Go.Shelf Go.Maps Go.Proofs.YthfaimomcbmniaaW.PrintWords Go.Proofs.YthfaimomcbmniaaW.PrintLast Go.Proofs.YthfaimomcbmniaaW.PrintMore Go.Proofs.Ythfaimomcbmniaa.Cmp
theorem RTree.lower {w : World} {r N N' : Nat} {v : Value} {L : List Tn} (h : RTree w r N v L) (hN : N' ≤ N) : RTree w r N' v L := ⟨h.blk,Kd.N_lower h.row hN,Nat.le_trans hN h.le⟩
theorem RTree.stay {w w1 : World} {r N : Nat} {v : Value} {L : List Tn} (h : RTree w r N v L) (hb : Below w.heap.size w w1) : RTree w1 r N v L := h.below hb
set_option maxHeartbeats 8000000 in
set_option maxRecDepth 100000 in
theorem tenant_apart (A : Option Addr) (n c : Nat) (l : List Act9) (A2 : Option Addr) (n2 c2 : Nat) (l2 : List Act9) (w : World) (hC : Kd.C kAct w A n l) (hG : ∀ x ∈ l,GAct x) (hC2 : Kd.C kAct w A2 n2 l2) (hG2 : ∀ x ∈ l2,GAct x) : Calls Try.prog 11 #[.slice A n c,.slice A2 n2 c2] w fun e w' => e = .returned (.bool true) ∧ Below w.heap.size w w' := by
  have HC := Aside0.mk hC
  have HG := Aside0.mk hG
  have HL := Aside0.mk (show l.length = n from hC.1)
  have HC2 := Aside0.mk hC2
  have HG2 := Aside0.mk hG2
  have HL2 := Aside0.mk (show l2.length = n2 from hC2.1)
  have hmax : n ≤ 9223372036854775807 := hC.2.1
  have hmax2 : n2 ≤ 9223372036854775807 := hC2.2.1
  have hact := Try.underlying78
  clear hC hG hC2 hG2
  go_enter Try.func11,Try.ntmps11
  go_wp2_with (fail)
  refine (ten_new w).mono ?_
  rintro e w1 ⟨t,b,rfl,hA,hB,ht,hb⟩
  have hbw : Below w1.heap.size w1 (w1.alloc (.cells #[.slice none 0 0] tR)) := below_alloc (Below.refl _ _) _
  have A1 := Aside0.mk (hA.below hbw)
  have B1 := Aside0.mk ((NextW.mk hB hB.size).next hbw)
  have R1 := Aside0.mk (rtree_new w1 w.heap.size hB.size)
  have HB := Aside0.mk hb
  obtain ⟨r,hr⟩ : ∃ r,w1.heap.size = r := ⟨_,rfl⟩
  clear hA hB hbw
  go_wp2_with (fail)
  rw [hr] at R1
  clear hr
  generalize w1.alloc (.cells #[.slice none 0 0] tR) = w2 at *
  go_loopw [7] (fun iv wr => ∃ (i : Nat) (L : List Tn) (v : Value),iv = .int .i64 (i : Int) ∧ i ≤ n ∧ i ≤ 60 ∧ Aside0 (TreeAt wr t b L) ∧ Aside0 (RTree wr r w.heap.size v L) ∧ Aside0 (Ok L) ∧ Aside0 (NextW w.heap.size w wr)) (fun iv _ => 60 - (intOf iv).toNat)
  case atStart => exact ⟨0,[],_,rfl,Nat.zero_le _,Nat.zero_le _,A1,R1,⟨Ok.nil⟩,B1⟩
  case round =>
    rename World => wr
    clear A1 B1 R1
    obtain ⟨i,L,v,rfl,hi,hi2,HA,HR,HO,NW⟩ := hrel
    by_cases hlt : i < n ∧ i < 60
    · have k0 : decide ((i : Int) < (n : Int)) = true := decide_eq_true (by omega)
      have k1 : decide ((i : Int) < 60) = true := decide_eq_true (by omega)
      obtain ⟨x,hx⟩ : ∃ x,l[i]? = some x := ⟨l[i]'(by have := HL.out;omega),List.getElem?_eq_getElem (by have := HL.out;omega)⟩
      have XG := Aside0.mk (HG.out x (List.mem_of_getElem? hx))
      obtain ⟨ad,rfl,c0,c1,c2⟩ := at_T78 (Kd.C_below HC.out NW.out.below) (i : Int) (by omega) (by omega)
      have e0 : rd_T78 l (i : Int) = x := by
        unfold rd_T78
        rw [Int.toNat_natCast,List.getD_eq_getElem?_getD,hx]
        rfl
      rw [e0,Int.toNat_natCast] at c0 c1 c2
      have p0 : (0 : Int) ≤ (i : Int) := by omega
      have p1 : (i : Int) < (n : Int) := by omega
      have hlt1 := hlt.1
      have hlt2 := hlt.2
      clear hx e0 hlt
      go_wp2_with (fail)
      refine (do_same HA.out HR.out HO.out HB.out x XG.out).mono ?_
      rintro e w3 ⟨rfl,v3,hW⟩
      have T3 := Aside0.mk hW.ten
      have R3 := Aside0.mk hW.ref
      have O3 := Aside0.mk (HO.out.actP HA.out.names x)
      have N3 := Aside0.mk (NW.out.nextN hW.below)
      clear hW HA HR HO NW
      go_wp2_with (fail)
      go_roundw
      case rel => exact ⟨i + 1,actP L x,_,by go_num,by omega,by omega,T3,R3,O3,N3⟩
      case measure => simp [intOf];omega
    · have kk : (decide ((60 : Int) < (n : Int)) = true ∧ i = 60) ∨ i = n := by
        by_cases hn : i < n
        · exact .inl ⟨decide_eq_true (by omega),by omega⟩
        · exact .inr (by omega)
      clear hlt hi hi2 HC HG HL hmax
      rcases kk with ⟨k1,hik⟩ | hik
      all_goals
        subst hik
        go_wp2_with (fail)
        have A3 := Aside0.mk (HA.out)
        refine (ten_copy HA.out).mono ?_
        rintro e w4 ⟨t2,b2,rfl,hA2,hB2,_,hb2⟩
        have S4 := Aside0.mk hA2
        have R4 := Aside0.mk (HR.out.below hB2)
        have HB2 := Aside0.mk hb2
        have N4 := Aside0.mk ((NextW.refl wr).next hB2)
        clear hA2 hB2
        go_wp2_with (fail)
        refine (ref_copy R4.out HO.out.len).mono ?_
        rintro e w5 ⟨r2,v2,rfl,hD,hB⟩
        have S5 := Aside0.mk (S4.out.below hB)
        have D5 := Aside0.mk (hD.lower N4.out.le)
        have N5 := Aside0.mk (N4.out.next hB)
        clear hD hB S4 R4 N4
        go_wp2_with (fail)
        go_loopw [10] (fun iv w6 => ∃ (j : Nat) (K : List Tn) (u : Value),iv = .int .i64 (j : Int) ∧ j ≤ n2 ∧ j ≤ 40 ∧ Aside0 (TreeAt w6 t2 b2 K) ∧ Aside0 (RTree w6 r2 wr.heap.size u K) ∧ Aside0 (Ok K) ∧ Aside0 (NextW wr.heap.size wr w6)) (fun iv _ => 40 - (intOf iv).toNat)
        case atStart => exact ⟨0,L,_,rfl,Nat.zero_le _,Nat.zero_le _,S5,D5,HO,N5⟩
        case round =>
          rename World => w6
          clear S5 D5 N5
          obtain ⟨j,K,u,rfl,hj,hj2,SA,DA,KO,MW⟩ := hrel
          by_cases hlt2 : j < n2 ∧ j < 40
          · have k2 : decide ((j : Int) < (n2 : Int)) = true := decide_eq_true (by omega)
            have k3 : decide ((j : Int) < 40) = true := decide_eq_true (by omega)
            obtain ⟨x,hx⟩ : ∃ x,l2[j]? = some x := ⟨l2[j]'(by have := HL2.out;omega),List.getElem?_eq_getElem (by have := HL2.out;omega)⟩
            have XG := Aside0.mk (HG2.out x (List.mem_of_getElem? hx))
            have NC := Aside0.mk (NW.out.next MW.out.below)
            obtain ⟨ad2,rfl,c0,c1,c2⟩ := at_T78 (Kd.C_below HC2.out NC.out.below) (j : Int) (by omega) (by omega)
            have e0 : rd_T78 l2 (j : Int) = x := by
              unfold rd_T78
              rw [Int.toNat_natCast,List.getD_eq_getElem?_getD,hx]
              rfl
            rw [e0,Int.toNat_natCast] at c0 c1 c2
            have p0 : (0 : Int) ≤ (j : Int) := by omega
            have p1 : (j : Int) < (n2 : Int) := by omega
            have hlt1 := hlt2.1
            have hlt3 := hlt2.2
            clear hx e0 hlt2
            go_wp2_with (fail)
            refine (do_same SA.out DA.out KO.out HB2.out x XG.out).mono ?_
            rintro e w7 ⟨rfl,v7,hW⟩
            have S7 := Aside0.mk hW.ten
            have D7 := Aside0.mk hW.ref
            have K7 := Aside0.mk (KO.out.actP SA.out.names x)
            have N7 := Aside0.mk (MW.out.nextN hW.below)
            clear hW SA DA KO MW NC
            go_wp2_with (fail)
            go_roundw
            case rel => exact ⟨j + 1,actP K x,_,by go_num,by omega,by omega,S7,D7,K7,N7⟩
            case measure => simp [intOf];omega
          · have kk : (decide ((40 : Int) < (n2 : Int)) = true ∧ j = 40) ∨ j = n2 := by
              by_cases hn : j < n2
              · exact .inl ⟨decide_eq_true (by omega),by omega⟩
              · exact .inr (by omega)
            have T1 := Aside0.mk (A3.out.stay MW.out.below (blk_lt A3.out.blk) A3.out.map.lt)
            have R1 := Aside0.mk (HR.out.stay MW.out.below)
            obtain ⟨Ar,cr,rfl,_⟩ := HR.out.rc
            obtain ⟨Ad,cd,rfl,_⟩ := DA.out.rc
            have S1 := SA
            have D1 := DA
            have N1 := Aside0.mk (NW.out.next MW.out.below)
            have y0 := R1.out.cell
            have y1 := D1.out.cell
            have L24 := Aside0.mk (show L.length ≤ 1000000 by have := HO.out.len;omega)
            have K24 := Aside0.mk (show K.length ≤ 1000000 by have := KO.out.len;omega)
            clear hlt2 hj hj2 HC2 HG2 HL2 hmax2 SA DA MW NW A3 HA HR
            rcases kk with ⟨k2,hik⟩ | hik
            all_goals
              subst hik
              go_wp2_with (fail)
              go_region_held3 (fun w' => w'.cell? ⟨r,0,none⟩ = some (.slice Ar L.length cr) ∧ w'.cell? ⟨r2,0,none⟩ = some (.slice Ad K.length cd)) (first | go_keep | exact ⟨by assumption,by assumption⟩) (first
                | (go_at_call 50;(with_reducible refine (ten_all (T1.out.at_ (W := _)) HO.out).mono ?_);rintro e w2 ⟨v2,rfl,hN,hb⟩;obtain ⟨Al2,cl2,rfl,hcl,hCl⟩ := Kd.N_reads hN;rw [List.length_map] at hcl hCl ⊢;replace y0 := (hb.cell (World.block_lt_of_cell? _ _ y0)).trans y0;replace y1 := (hb.cell (World.block_lt_of_cell? _ _ y1)).trans y1;have T2 := Aside0.mk ((T1.out.at_ (W := _)).below hb);have R2 := Aside0.mk ((R1.out.at_ (W := _)).below hb);have S2 := Aside0.mk ((S1.out.at_ (W := _)).below hb);have D2 := Aside0.mk ((D1.out.at_ (W := _)).below hb);have N2 := Aside0.mk (N1.out.next hb);have CL2 := Aside0.mk hCl;have KL2 := Aside0.mk hcl;clear hb hN hCl hcl T1 R1 S1 D1 N1)
                | (go_at_call 64;(with_reducible refine (same_call (List.length_map _) L24.out (Kd.C_below CL2.out (SameW.below (W := _) (by exact ⟨rfl,rfl,rfl,rfl⟩) _)) KL2.out (Kd.C_below R2.out.rca.row (SameW.below (W := _) (by exact ⟨rfl,rfl,rfl,rfl⟩) _)) R2.out.rca.cap).mono ?_);rintro e w3 ⟨rfl,hb⟩;replace y0 := (hb.cell (World.block_lt_of_cell? _ _ y0)).trans y0;replace y1 := (hb.cell (World.block_lt_of_cell? _ _ y1)).trans y1;have T3 := Aside0.mk ((T2.out.at_ (W := _)).below hb);have R3 := Aside0.mk ((R2.out.at_ (W := _)).below hb);have S3 := Aside0.mk ((S2.out.at_ (W := _)).below hb);have D3 := Aside0.mk ((D2.out.at_ (W := _)).below hb);have N3 := Aside0.mk (N2.out.next hb);clear hb CL2 KL2 T2 R2 S2 D2 N2)
                | (go_at_call 50;(with_reducible refine (ten_all (S3.out.at_ (W := _)) KO.out).mono ?_);rintro e w4 ⟨v2,rfl,hN,hb⟩;obtain ⟨Al4,cl4,rfl,hcl,hCl⟩ := Kd.N_reads hN;rw [List.length_map] at hcl hCl ⊢;replace y0 := (hb.cell (World.block_lt_of_cell? _ _ y0)).trans y0;replace y1 := (hb.cell (World.block_lt_of_cell? _ _ y1)).trans y1;have T4 := Aside0.mk ((T3.out.at_ (W := _)).below hb);have R4 := Aside0.mk ((R3.out.at_ (W := _)).below hb);have S4 := Aside0.mk ((S3.out.at_ (W := _)).below hb);have D4 := Aside0.mk ((D3.out.at_ (W := _)).below hb);have N4 := Aside0.mk (N3.out.next hb);have CL4 := Aside0.mk hCl;have KL4 := Aside0.mk hcl;clear hb hN hCl hcl T3 R3 S3 D3 N3)
                | (go_at_call 64;(with_reducible refine (same_call (List.length_map _) K24.out (Kd.C_below CL4.out (SameW.below (W := _) (by exact ⟨rfl,rfl,rfl,rfl⟩) _)) KL4.out (Kd.C_below D4.out.rca.row (SameW.below (W := _) (by exact ⟨rfl,rfl,rfl,rfl⟩) _)) D4.out.rca.cap).mono ?_);rintro e w5 ⟨rfl,hb⟩;replace y0 := (hb.cell (World.block_lt_of_cell? _ _ y0)).trans y0;replace y1 := (hb.cell (World.block_lt_of_cell? _ _ y1)).trans y1;have T5 := Aside0.mk ((T4.out.at_ (W := _)).below hb);have R5 := Aside0.mk ((R4.out.at_ (W := _)).below hb);have S5 := Aside0.mk ((S4.out.at_ (W := _)).below hb);have D5 := Aside0.mk ((D4.out.at_ (W := _)).below hb);have N5 := Aside0.mk (N4.out.next hb);clear hb CL4 KL4 T4 R4 S4 D4 N4)
                | (go_at_call 55;(with_reducible refine (known09 _).mono ?_);rintro e w9 ⟨rfl,hb⟩;replace y0 := (hb.cell (World.block_lt_of_cell? _ _ y0)).trans y0;replace y1 := (hb.cell (World.block_lt_of_cell? _ _ y1)).trans y1;have N9 := Aside0.mk (N5.out.next hb);clear hb))
              go_wp2_with (fail)
              go_ret
              exact ⟨rfl,N9.out.below⟩
end Go.Proofs.Ythfaimomcbmniaa.Z
end
section
namespace Go.Proofs.Ythfaimomcbmniaa.Z
set_option linter.unusedVariables false
open Go.RowKit Go.Proofs.YthfaimomcbmniaaW.PrintWords Go.Proofs.YthfaimomcbmniaaW.PrintLast Go.Proofs.YthfaimomcbmniaaW.PrintMore
open Classical in
noncomputable def verdererlaw09_TenantApart.f (l0 : List S78) (l1 : List S78) : Option (Bool) := if (∀ x ∈ l0,GAct x) ∧ (∀ x ∈ l1,GAct x) then some true else none
theorem verdererlaw09_TenantApart.calls (A0 : Option Addr) (c0 : Nat) (l0 : List S78) (A1 : Option Addr) (c1 : Nat) (l1 : List S78) (r : Bool) (w : World) (hC0 : Kd.C k78 w A0 l0.length l0) (hl0 : l0.length ≤ c0) (hC1 : Kd.C k78 w A1 l1.length l1) (hl1 : l1.length ≤ c1) (h : verdererlaw09_TenantApart.f l0 l1 = some r) :
    Calls Try.prog 11 #[.slice A0 l0.length c0,.slice A1 l1.length c1] w fun e w' => e = .returned (.bool r) ∧ Below w.heap.size w w' := by
  unfold verdererlaw09_TenantApart.f at h
  by_cases hn : (∀ x ∈ l0,GAct x) ∧ (∀ x ∈ l1,GAct x)
  · rw [if_pos hn] at h
    obtain rfl := Option.some.inj h
    exact tenant_apart A0 l0.length c0 l0 A1 l1.length c1 l1 w hC0 hn.1 hC1 hn.2
  · rw [if_neg hn] at h
    cases h
end Go.Proofs.Ythfaimomcbmniaa.Z
end
section
namespace Go.Proofs.YthfaimomcbmniaaW.PrintWords
open Go.RowKit Go.ChangeShapes Go.WideShapes
section
variable {P : Program} {α β : Type}
def OfTrod (P : Program) (t : TypeId) (d : Kd α) (G : α → Prop) : Prop :=
  ∀ (H : Type) (enc : TypeId × Value → H) (w : World) (base : Nat) (spare : Nat → Bool) (held : Bool) (fuel : Nat) (cs : List Value) (x : DataW H × List MemPlace),DataW.trod enc P w base spare held fuel t cs = some x → ∃ s,d.K w s cs ∧ G s
theorem ofTrod_int {t : TypeId} {k : IntKind} (ht : P.underlying t = some (.int k)) : OfTrod P t (Kd.int k) (fun n => (Lit.int k n).wf = true) := by
  intro H enc w base spare held fuel cs x h
  obtain ⟨n,rfl,_,hw⟩ := DataW.trod_int ht h
  exact ⟨n,rfl,hw⟩
theorem ofTrod_string {t : TypeId} (ht : P.underlying t = some .string) : OfTrod P t Kd.string (fun s => s.size ≤ maxLen) := by
  intro H enc w base spare held fuel cs x h
  obtain ⟨s,rfl,_,hs⟩ := DataW.trod_string ht h
  exact ⟨s,rfl,hs⟩
theorem list_of_all {n : Nat} {Q : Nat → α → Prop} (h : ∀ i,i < n → ∃ x,Q i x) : ∃ xs : List α,xs.length = n ∧ ∀ i x,xs[i]? = some x → Q i x := by
  induction n with
  | zero => exact ⟨[],rfl,fun i x hx => by simp at hx⟩
  | succ n ih =>
    obtain ⟨xs,hl,hx⟩ := ih (fun i hi => h i (by omega))
    obtain ⟨y,hy⟩ := h n (by omega)
    refine ⟨xs ++ [y],by simp [hl],fun i x hi => ?_⟩
    rcases Nat.lt_trichotomy i xs.length with hlt | rfl | hgt
    · rw [List.getElem?_append_left hlt] at hi
      exact hx i x hi
    · rw [List.getElem?_append_right (Nat.le_refl _)] at hi
      simp at hi
      subst hi
      rw [hl]
      exact hy
    · rw [List.getElem?_append_right (by omega),List.getElem?_eq_none (by simp;omega)] at hi
      cases hi
theorem ofTrod_slice {t e : TypeId} {d : Kd α} {G : α → Prop} (ht : P.underlying t = some (.slice e)) (hc : P.cellsOf e = d.sz) (h : OfTrod P e d G) :
    OfTrod P t (Kd.slice e d) (fun l => l.length ≤ maxLen ∧ ∀ x ∈ l,G x) := by
  intro H enc w base spare held fuel cs x hx
  rcases Go.Deep.open_slice ht hx with ⟨rfl,_⟩ | ⟨a,len,cap,m,n,D,Pl,rfl,_,hl,hm,hmm,_,hel⟩
  · exact ⟨[],⟨none,0,rfl,Nat.le_refl _,Kd.C_nil d w⟩,by simp,fun x hx => by simp at hx⟩
  · have hlm : len ≤ m := by rw [hmm];split <;> omega
    obtain ⟨xs,hxl,hxs⟩ := list_of_all (n := len) (Q := fun i s => ∃ cs',w.cells? base (a.add (i * P.cellsOf e)) (P.cellsOf e) = some cs' ∧ d.K w s cs' ∧ G s) (fun i hi => by
      obtain ⟨cs',h1,h2⟩ := hel i (by omega)
      obtain ⟨s,h3,h4⟩ := h _ _ _ _ _ _ _ _ _ h2
      exact ⟨s,cs',h1,h3,h4⟩)
    refine ⟨xs,⟨some a,cap,by rw [hxl],by omega,rfl,by rw [hxl];unfold maxLen at hm;omega,fun _ => ⟨a,rfl,fun j p hp => ?_⟩⟩,by omega,fun x hx => ?_⟩
    · obtain ⟨cs',h1,h2,_⟩ := hxs j p hp
      obtain ⟨_,hcl,hcell⟩ := World.cells?_some h1
      refine ⟨cs',by rw [hcl,hc],h2,fun i u hu => ?_⟩
      have hi : i < P.cellsOf e := by
        rw [← hcl]
        exact (List.getElem?_eq_some_iff.1 hu).1
      have := hcell i hi
      rw [Go.Deep.add_add,hc] at this
      rw [this]
      exact hu
    · obtain ⟨i,hi,rfl⟩ := List.getElem_of_mem hx
      obtain ⟨_,_,_,h4⟩ := hxs i xs[i] (List.getElem?_eq_getElem hi)
      exact h4
def segOff (segs : List (TypeId × Nat)) (i : Nat) : Nat := ((segs.take i).map (·.2)).sum
def OfSegs (P : Program) (segs : List (TypeId × Nat)) (d : Kd α) (G : α → Prop) : Prop :=
  ∀ (H : Type) (enc : TypeId × Value → H) (w : World) (base : Nat) (spare : Nat → Bool) (held : Bool) (fuel : Nat) (cs : List Value),cs.length = segOff segs segs.length →
    (∀ i t c,segs[i]? = some (t,c) → ∃ x,DataW.trod enc P w base spare held fuel t ((cs.drop (segOff segs i)).take c) = some x) → ∃ s,d.K w s cs ∧ G s
theorem ofSegs_one {t : TypeId} {c : Nat} {d : Kd α} {G : α → Prop} (h : OfTrod P t d G) : OfSegs P [(t,c)] d G := by
  intro H enc w base spare held fuel cs hl hx
  obtain ⟨x,h1⟩ := hx 0 t c rfl
  have hl2 : cs.length = c := by simpa [segOff] using hl
  have e : ((cs.drop (segOff [(t,c)] 0)).take c) = cs := by simp [segOff,← hl2]
  rw [e] at h1
  exact h _ _ _ _ _ _ _ _ _ h1
theorem ofSegs_cons {t : TypeId} {c : Nat} {ts : List (TypeId × Nat)} {d : Kd α} {d' : Kd β} {G : α → Prop} {G' : β → Prop} (h : OfTrod P t d G) (h' : OfSegs P ts d' G') : OfSegs P ((t,c) :: ts) (Kd.pair d d') (fun x => G x.1 ∧ G' x.2) := by
  intro H enc w base spare held fuel cs hl hx
  obtain ⟨x,h1⟩ := hx 0 t c rfl
  have e : ((cs.drop (segOff ((t,c) :: ts) 0)).take c) = cs.take c := by simp [segOff]
  rw [e] at h1
  obtain ⟨s,h2,h3⟩ := h _ _ _ _ _ _ _ _ _ h1
  have hl' : (cs.drop c).length = segOff ts ts.length := by
    simp [segOff] at hl ⊢
    omega
  obtain ⟨s',h4,h5⟩ := h' H enc w base spare held fuel (cs.drop c) hl' (fun i t' c' hi => by
    obtain ⟨y,hy⟩ := hx (i + 1) t' c' (by simpa using hi)
    refine ⟨y,?_⟩
    have e2 : segOff ((t,c) :: ts) (i + 1) = c + segOff ts i := by simp [segOff]
    rw [e2] at hy
    rw [List.drop_drop]
    exact hy)
  exact ⟨(s,s'),⟨cs.take c,cs.drop c,(List.take_append_drop c cs).symm,h2,h4⟩,h3,h5⟩
theorem ofTrod_struct {t : TypeId} {fs : Array Field} {segs : List (TypeId × Nat)} {d : Kd α} {G : α → Prop} (ht : P.underlying t = some (.struct fs)) (hc : P.cellsOf t = segOff segs segs.length) (hn : fs.size = segs.length)
    (hfs : ∀ i (f : Field),fs[i]? = some f → segs[i]? = some (f.type,P.cellsOf f.type) ∧ f.offset = segOff segs i) (h : OfSegs P segs d G) : OfTrod P t d G := by
  intro H enc w base spare held fuel cs x hx
  obtain ⟨xs,n,_,_,hl,hxl,hf⟩ := DataW.trod_struct ht hx
  refine h H enc w base spare held n cs (by rw [hl,hc]) (fun i t' c' hi => ?_)
  have hlt : i < fs.size := by rw [hn];exact (List.getElem?_eq_some_iff.1 hi).1
  obtain ⟨h1,h2⟩ := hfs i fs[i] (Array.getElem?_eq_getElem hlt)
  rw [hi] at h1
  injection h1 with h1
  injection h1 with h1 h3
  have h4 := hf i fs[i] (Array.getElem?_eq_getElem hlt)
  rw [h2,← h3,← h1] at h4
  have hlt2 : i < xs.length := by omega
  rw [List.getElem?_eq_getElem hlt2] at h4
  exact ⟨_,h4⟩
theorem ofTrod_iso {t : TypeId} {d : Kd α} {G : α → Prop} (f : β → α) (g : α → β) (hg : ∀ a,f (g a) = a) (h : OfTrod P t d G) : OfTrod P t (Kd.iso d f) (fun x => G (f x)) := by
  intro H enc w base spare held fuel cs x hx
  obtain ⟨s,h1,h2⟩ := h _ _ _ _ _ _ _ _ _ hx
  exact ⟨g s,by show d.K w (f (g s)) cs;rw [hg];exact h1,by show G (f (g s));rw [hg];exact h2⟩
theorem cell_heap {w w' : World} (h : w.heap = w'.heap) (a : Addr) : w'.cell? a = w.cell? a := by unfold World.cell?;rw [h]
end
end Go.Proofs.YthfaimomcbmniaaW.PrintWords
end
section
namespace Go.Proofs.Ythfaimomcbmniaa.Z
open Go.RowKit Go.Proofs.YthfaimomcbmniaaW.PrintWords Go.Proofs.YthfaimomcbmniaaW.PrintLast Go.Proofs.YthfaimomcbmniaaW.PrintMore
set_option maxRecDepth 100000
def G78 (x : S78) : Prop := ((Lit.int .i64 x.f0).wf = true) ∧ (x.f1.size ≤ maxLen) ∧ (x.f2.size ≤ maxLen)
theorem of78 : OfTrod Try.prog 78 k78 G78 :=
  ofTrod_iso _ (fun a => (⟨a.1,a.2.1,a.2.2⟩ : S78)) (fun _ => rfl) (ofTrod_struct (segs := [(3,1),(9,1),(9,1)]) Try.underlying78 (by kernel_rfl) rfl
    (by
      intro i f hf
      rcases i with _ | _ | _ | i <;> simp at hf <;> subst hf <;> exact ⟨congrArg some (Prod.ext rfl (by kernel_rfl)),rfl⟩) (ofSegs_cons (ofTrod_int Try.underlying3) (ofSegs_cons (ofTrod_string Try.underlying9) (ofSegs_one (ofTrod_string Try.underlying9)))))
end Go.Proofs.Ythfaimomcbmniaa.Z
end
section
namespace Go.Proofs.Ythfaimomcbmniaa.Z
open Go.RowKit Go.Proofs.YthfaimomcbmniaaW.PrintWords Go.Proofs.YthfaimomcbmniaaW.PrintLast Go.Proofs.YthfaimomcbmniaaW.PrintMore
theorem tenantApart_pure : ∀ (l0 : (List S78)) (l1 : (List S78)),(l0.length ≤ maxLen ∧ ∀ x ∈ l0,G78 x) → (l1.length ≤ maxLen ∧ ∀ x ∈ l1,G78 x) → verdererlaw09_TenantApart.f l0 l1 = some true := by
  intro l0 l1 h h1
  unfold verdererlaw09_TenantApart.f
  rw [if_pos ⟨fun x hx => ⟨(h.2 x hx).2.1,(h.2 x hx).2.2⟩,fun x hx => ⟨(h1.2 x hx).2.1,(h1.2 x hx).2.2⟩⟩]
end Go.Proofs.Ythfaimomcbmniaa.Z
end
namespace Go.Proofs.Ythfaimomcbmniaa.tenantApart
open Go.ChangeShapes Go.WideShapes Go.ChangeAt Go.RowKit Go.Proofs.YthfaimomcbmniaaW.PrintWords
open Go.ChangeMaps (open_string shut_string)
set_option linter.unusedVariables false
theorem own : ownKnob Try.prog.godebug = none := by kernel_rfl
theorem laidOut : laidOutB Try.prog = true := by kernel_rfl
set_option maxRecDepth 100000 in
theorem lifted (os : Os) (started : os.Started) (H : Type) (enc : TypeId × Value → H) :
    ReturnsInHanded {} Try.checked os 11 .any (Rows.tenantApartSpec.pre6 enc Try.prog Try.f11 Rows.tenantApartRow.domain false) (Rows.tenantApartSpec.post enc Try.prog Try.f11 false true false false) := by
  refine returnsInHanded_of_change (C := Try.checked) own started (by kernel_rfl) Try.func11
    (ChangeSpec.witness6 (enc := enc) (C := Try.checked) false ⟨#[],#[.slice none 0 0,.slice none 0 0],[]⟩ 8 (by kernel_rfl) (by kernel_rfl) (by kernel_rfl) (by kernel_rfl)) ?_
  intro W base args ds gs before hval0 hW hcnd _
  have hval : ∀ (j : Nat) t v,Try.f11.params[j]? = some t → args[j]? = some v → Value.okWide Try.prog W .any base t v := hval0
  have hW' := hW
  obtain ⟨p,q,hA0,hV,rfl,hfz,hnd⟩ := hW
  have hA : DataW.TrodAll enc Try.prog W 0 (fun _ => true) true Try.f11.params.toList args.toList ds p := hA0
  rw [Try.params11] at hA hval
  obtain ⟨v0,vs0,d0,ds0,p0,q0,hargs,rfl,rfl,h0,r0⟩ := trodAll_cons hA
  obtain ⟨v1,vs1,d1,ds1,p1,q1,rfl,rfl,rfl,h1,r1⟩ := trodAll_cons r0
  obtain ⟨rfl,rfl,rfl⟩ := trodAll_nil r1
  obtain rfl : args = #[v0,v1] := by cases args;simp_all
  obtain ⟨rfl,rfl⟩ := trodVars_none hV
  obtain ⟨a0,len0,cap0,rfl⟩ := okWide_slice Try.underlying74 (hval 0 74 v0 rfl rfl)
  have k0 := h0
  have lt0 : ∀ x ∈ p0,x.block < W.heap.size := by obtain ⟨m,hm⟩ := k0;exact DataW.trod_lt m _ _ _ hm
  obtain ⟨l0,hK0,hG0⟩ : ∃ l,((Kd.slice 78 Z.k78) : Kd (List Z.S78)).K W l [.slice a0 len0 cap0] ∧ (l.length ≤ maxLen ∧ ∀ x ∈ l,Z.G78 x) := by obtain ⟨fuel,hf⟩ := h0;exact (show OfTrod Try.prog 74 (Kd.slice 78 Z.k78) _ from (ofTrod_slice Try.underlying74 (by kernel_rfl) Z.of78)) _ _ _ _ _ _ _ _ _ hf
  obtain ⟨A0,c0,he0,hl0,hC0⟩ := hK0
  simp only [List.cons.injEq,Value.slice.injEq,and_true] at he0
  obtain ⟨rfl,rfl,rfl⟩ := he0
  obtain ⟨a1,len1,cap1,rfl⟩ := okWide_slice Try.underlying74 (hval 1 74 v1 rfl rfl)
  have k1 := h1
  have lt1 : ∀ x ∈ p1,x.block < W.heap.size := by obtain ⟨m,hm⟩ := k1;exact DataW.trod_lt m _ _ _ hm
  obtain ⟨l1,hK1,hG1⟩ : ∃ l,((Kd.slice 78 Z.k78) : Kd (List Z.S78)).K W l [.slice a1 len1 cap1] ∧ (l.length ≤ maxLen ∧ ∀ x ∈ l,Z.G78 x) := by obtain ⟨fuel,hf⟩ := h1;exact (show OfTrod Try.prog 74 (Kd.slice 78 Z.k78) _ from (ofTrod_slice Try.underlying74 (by kernel_rfl) Z.of78)) _ _ _ _ _ _ _ _ _ hf
  obtain ⟨A1,c1,he1,hl1,hC1⟩ := hK1
  simp only [List.cons.injEq,Value.slice.injEq,and_true] at he1
  obtain ⟨rfl,rfl,rfl⟩ := he1
  clear hA0 hval0
  have h := Z.tenantApart_pure l0 l1 hG0 hG1
  refine (Z.verdererlaw09_TenantApart.calls _ _ l0 _ _ l1 true W hC0 hl0 hC1 hl1 h).mono fun e W' ⟨he,bel⟩ => ?_
  subst he
  exact ⟨_,rfl,_,_,_,[],_,[],hW',trodAll_mk1 (shut_bool Try.underlying4 _),(trodAll_cons_mk (Below.trod laidOut (by kernel_rfl) (of_decide_eq_true (by kernel_rfl)) k0 bel lt0) (trodAll_cons_mk (Below.trod laidOut (by kernel_rfl) (of_decide_eq_true (by kernel_rfl)) k1 bel lt1) trodAll_mk0)),rfl,bel.frame _,fun h => by cases h⟩
theorem over : Rows.tenantApartRow.holds Try.pinned (OpenSpec.ofChange Rows.tenantApartSpec) :=
  OpenClaim.holds_of_wide 11 Try.f11 rfl rfl rfl rfl rfl rfl rfl ⟨rfl,rfl,rfl,rfl,rfl⟩ rfl rfl rfl rfl rfl (by kernel_rfl) Try.func11 (by kernel_rfl)
    (of_decide_eq_true (by kernel_rfl)) (by unfold Func.isWrapper;first | (rw [if_pos (by decide +kernel)];kernel_rfl) | (rw [if_neg (by decide +kernel)];exact ⟨rfl,rfl⟩))
    (fun os started H enc _ => lifted os started H enc)
theorem proved : Rows.TenantApartSaid := over
#print axioms proved
end Go.Proofs.Ythfaimomcbmniaa.tenantApart
namespace Go.Proofs.Ythfaimomcbmniaa
theorem tenantApart_holds : Rows.TenantApartSaid := tenantApart.proved
end Go.Proofs.Ythfaimomcbmniaa
