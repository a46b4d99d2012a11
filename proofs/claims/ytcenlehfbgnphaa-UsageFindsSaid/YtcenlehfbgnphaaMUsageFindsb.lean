/- Parts of the proof of UsageFinds: what its functions answer. -/
import Derived.Test.YtcenlehfbgnphaaMUsageFindsa
import Derived.RegionTactic
import Derived.BigRegion
import Derived.Deep.QuietTactic
import Derived.BigQuiet
import Derived.ChangeAlike
import Derived.StillTailTactics
import Derived.Deep.LoopGhost
import Derived.Deep.RegionHeld3
import Derived.Lib.Hide
import Derived.ChangeKeysEq
import Derived.RangeFuncNested
import Derived.RangeFuncBound
import Derived.RangeFuncCalls
import Derived.RangeFuncLeaves
import Derived.Shelf.Abstract
import Derived.WalkKit
import Derived.OwnWalkIn
import Derived.TacticsInMore
import Derived.LoopNIn
import Derived.LoopIn
import Derived.Maps.OwnOps
import Derived.Maps.OwnSet
import Derived.Maps.StringElems
import Derived.Maps.RangeWalk
import Derived.Maps.OwnIn
import Derived.RangeFuncBox
import Derived.Maps.AppendAt
import Derived.Shelf.Sort.Plain
import Derived.Shelf.Slices.In.SortNone
import Derived.Test.YtcenlehfbgnphaaProg
import Derived.Sort.KeysCollected
import Derived.Sort.OwnSorted
import Derived.Maps.Ext
import Derived.Shelf.SlIter.Nil
import Derived.Shelf.SortM.Plain
import Derived.Shelf.SortM.SortNone
import Derived.Deep.Cut
import Derived.Deep.CutRange
import Derived.Laws.MakeOwn
import Derived.Lib.SliceRun
import Derived.Laws.Slices
import Derived.Outline
section
namespace Go.Proofs.Ytcenlehfbgnphaa.Z
set_option linter.unusedVariables false
set_option linter.unusedSimpArgs false
open Go.RowKit Go.Proofs.YtcenlehfbgnphaaW.PrintWords Go.Proofs.YtcenlehfbgnphaaW.PrintLast Go.Proofs.YtcenlehfbgnphaaW.PrintMore
theorem only_refl (a : World) (g : Nat) : a.grownBy a (some g) := ⟨rfl,rfl,rfl,Nat.le_refl _,fun _ _ _ => rfl⟩
theorem only_drew {a w : World} {row : Option Nat} (h : a.grownBy w row) : a.grownBy w.drew row := ⟨h.os,h.tape,h.output,h.size,h.block⟩
theorem only_setCell {a w : World} {g : Nat} {p : Addr} (h : a.grownBy w (some g)) (hp : p.block = g ∨ a.heap.size ≤ p.block) (u : Value) : a.grownBy (w.setCell p u) (some g) :=
  ⟨h.os,h.tape,h.output,by simpa [World.setCell] using h.size,fun i hi hne => (Below.heap_setCell w p u i (by
    rintro rfl
    rcases hp with hp | hp
    · exact hne (by rw [hp])
    · omega)).trans (h.block i hi hne)⟩
set_option maxHeartbeats 4000000 in
set_option maxRecDepth 100000 in
theorem sum_putg (g : Nat) (x0 x1 x2 n t L M X : Int) (w : World) (h : w.heap[g]? = some (.cells (sumCells x0 x1 x2) 26 (0,0))) (t0 : -1073741824 ≤ t) (t1 : t ≤ 1073741824)
    (hL : wrap64 (x2 + wrap64 (bits BinOp.and IntKind.i64 n 4294967295 * t)) = L) (hM : wrap64 (wrap64 (x1 + wrap64 (n / 4294967296 * t)) + L / 4294967296) = M) (hX : wrap64 (x0 + M / 4294967296) = X) :
    Calls Try.prog 15 #[.pointer (some ⟨g,0,none⟩),.int .i64 n,.int .i64 t] w fun e w' => e = .returned (.int .i64 0) ∧ w'.heap[g]? = some (.cells (sumCells X (bits BinOp.and IntKind.i64 M 4294967295) (bits BinOp.and IntKind.i64 L 4294967295)) 26 (0,0)) ∧ w.grownBy w' (some g) := by
  have z0 := blk_frozen h 0
  have z1 := blk_frozen h 1
  have z2 := blk_frozen h 2
  have c0 := blk_cell h 0
  have c1 := blk_cell h 1
  have c2 := blk_cell h 2
  simp only [sumCells,List.getElem?_toArray,List.getElem?_cons_zero,List.getElem?_cons_succ] at c0 c1 c2
  have H := Aside0.mk h
  have HL := Aside0.mk hL
  have HM := Aside0.mk hM
  have HX := Aside0.mk hX
  clear h hL hM hX
  go_enter Try.func15,Try.ntmps15
  go_wp2
  rw [HL.out,HM.out]
  go_region
  rw [HX.out]
  have H1 : (w.setCell ⟨g,0,none⟩ (.int .i64 X)).heap[g]? = some (.cells #[.int .i64 X,.int .i64 x1,.int .i64 x2] 26 (0,0)) := blk_put H.out 0 _ rfl
  have B1 := only_setCell (p := ⟨g,0,none⟩) (only_refl w g) (Or.inl rfl) (.int .i64 X)
  generalize w.setCell ⟨g,0,none⟩ (.int .i64 X) = W0 at H1 B1 ⊢
  have H1' := blk_drew H1
  have B1' := only_drew B1
  generalize W0.drew = W1 at H1' B1' ⊢
  clear H1 B1 H
  have H2 := blk_drew H1'
  have B2 := only_drew B1'
  go_wp2
  refine start_ (n := 14) (S := fun w' => True) (ds := []) #[false,false,false,false,false,false,false,false,false,false,false,false,false,false] (by kernel_rfl) rfl rfl trivial (fun hHeld => ?_)
  refine pure_ (i := 0) (N := some 53) (v := ?_) (a' := ?_) #[true,false,false,false,false,false,false,false,false,false,false,false,false,false] rfl rfl (by kernel_rfl) (fun _ _ _ h => h) (Or.inl ⟨by rfl,?_⟩) ?_ ?_
  rotate_left
  · intro w'
    go_simp
    with_reducible rfl
  rotate_left
  · simp only [Act.put,zA,zB,zC,i64_w,i32_w]
    rfl
  refine pure_ (i := 1) (N := some 54) (v := ?_) (a' := ?_) #[true,true,false,false,false,false,false,false,false,false,false,false,false,false] rfl rfl (by kernel_rfl) (fun _ _ _ h => h) (Or.inl ⟨by rfl,?_⟩) ?_ ?_
  rotate_left
  · intro w'
    go_simp
    with_reducible rfl
  rotate_left
  · simp only [Act.put,zA,zB,zC,i64_w,i32_w]
    rfl
  refine pure_ (i := 2) (N := some 55) (v := ?_) (a' := ?_) #[true,true,true,false,false,false,false,false,false,false,false,false,false,false] rfl rfl (by kernel_rfl) (fun _ _ _ h => h) (Or.inl ⟨by rfl,?_⟩) ?_ ?_
  rotate_left
  · intro w'
    go_simp
    with_reducible rfl
  rotate_left
  · simp only [Act.put,zA,zB,zC,i64_w,i32_w]
    rfl
  refine pure_ (i := 3) (N := some 56) (v := ?_) (a' := ?_) #[true,true,true,true,false,false,false,false,false,false,false,false,false,false] rfl rfl (by kernel_rfl) (fun _ _ _ h => h) (Or.inl ⟨by rfl,?_⟩) ?_ ?_
  rotate_left
  · intro w'
    go_simp
    with_reducible rfl
  rotate_left
  · simp only [Act.put,zA,zB,zC,i64_w,i32_w]
    rfl
  refine pure_ (i := 4) (N := some 57) (v := ?_) (a' := ?_) #[true,true,true,true,true,false,false,false,false,false,false,false,false,false] rfl rfl (by kernel_rfl) (fun _ _ _ h => h) (Or.inl ⟨by rfl,?_⟩) ?_ ?_
  rotate_left
  · intro w'
    go_simp
    with_reducible rfl
  rotate_left
  · simp only [Act.put,zA,zB,zC,i64_w,i32_w]
    rfl
  refine pure_ (i := 5) (N := some 58) (v := ?_) (a' := ?_) #[true,true,true,true,true,true,false,false,false,false,false,false,false,false] rfl rfl (by kernel_rfl) (fun _ _ _ h => h) (Or.inl ⟨by rfl,?_⟩) ?_ ?_
  rotate_left
  · intro w'
    go_simp
    with_reducible rfl
  rotate_left
  · simp only [Act.put,zA,zB,zC,i64_w,i32_w]
    rfl
  refine pure_ (i := 6) (N := some 59) (v := ?_) (a' := ?_) #[true,true,true,true,true,true,true,false,false,false,false,false,false,false] rfl rfl (by kernel_rfl) (fun _ _ _ h => h) (Or.inl ⟨by rfl,?_⟩) ?_ ?_
  rotate_left
  · intro w'
    go_simp
    with_reducible rfl
  rotate_left
  · simp only [Act.put,zA,zB,zC,i64_w,i32_w]
    rfl
  refine pure_ (i := 7) (N := some 60) (v := ?_) (a' := ?_) #[true,true,true,true,true,true,true,true,false,false,false,false,false,false] rfl rfl (by kernel_rfl) (fun _ _ _ h => h) (Or.inl ⟨by rfl,?_⟩) ?_ ?_
  rotate_left
  · intro w'
    go_simp
    with_reducible rfl
  rotate_left
  · simp only [Act.put,zA,zB,zC,i64_w,i32_w]
    rfl
  refine pure_ (i := 8) (N := some 61) (v := ?_) (a' := ?_) #[true,true,true,true,true,true,true,true,true,false,false,false,false,false] rfl rfl (by kernel_rfl) (fun _ _ _ h => h) (Or.inl ⟨by rfl,?_⟩) ?_ ?_
  rotate_left
  · intro w'
    go_simp
    with_reducible rfl
  rotate_left
  · simp only [Act.put,zA,zB,zC,i64_w,i32_w]
    rfl
  refine pure_ (i := 10) (N := some 62) (v := ?_) (a' := ?_) #[true,true,true,true,true,true,true,true,true,false,true,false,false,false] rfl rfl (by kernel_rfl) (fun _ _ _ h => h) (Or.inl ⟨by rfl,?_⟩) ?_ ?_
  rotate_left
  · intro w'
    go_simp
    with_reducible rfl
  rotate_left
  · simp only [Act.put,zA,zB,zC,i64_w,i32_w]
    rfl
  refine pure_ (i := 11) (N := some 63) (v := ?_) (a' := ?_) #[true,true,true,true,true,true,true,true,true,false,true,true,false,false] rfl rfl (by kernel_rfl) (fun _ _ _ h => h) (Or.inl ⟨by rfl,?_⟩) ?_ ?_
  rotate_left
  · intro w'
    go_simp
    with_reducible rfl
  rotate_left
  · simp only [Act.put,zA,zB,zC,i64_w,i32_w]
    rfl
  refine one_ (i := 9) (N := none) #[true,true,true,true,true,true,true,true,true,true,true,true,false,false] rfl rfl (by kernel_rfl) (by decide) (fun K hK => ?_)
  refine skip_ (w1 := (W1.drew).setCell ⟨g,1,none⟩ (.int .i64 (bits BinOp.and IntKind.i64 M 4294967295))) (by rfl) rfl ?_ ?_
  · have z := blk_frozen H2 1
    have c := blk_cell H2 1
    simp only [List.getElem?_toArray,List.getElem?_cons_zero,List.getElem?_cons_succ] at c
    go_simp
    try with_reducible rfl
  refine hK.out _ _ trivial (fun hHeld => ?_)
  clear hK K
  have H3 : ((W1.drew).setCell ⟨g,1,none⟩ (.int .i64 (bits BinOp.and IntKind.i64 M 4294967295))).heap[g]? = some (.cells #[.int .i64 X,.int .i64 (bits BinOp.and IntKind.i64 M 4294967295),.int .i64 x2] 26 (0,0)) := blk_put H2 1 _ rfl
  have B3 := only_setCell (p := ⟨g,1,none⟩) B2 (Or.inl rfl) (.int .i64 (bits BinOp.and IntKind.i64 M 4294967295))
  generalize (W1.drew).setCell ⟨g,1,none⟩ (.int .i64 (bits BinOp.and IntKind.i64 M 4294967295)) = W2 at H3 B3 ⊢
  refine pure_ (i := 12) (N := some 64) (v := ?_) (a' := ?_) #[true,true,true,true,true,true,true,true,true,true,true,true,true,false] rfl rfl (by kernel_rfl) (fun _ _ _ h => h) (Or.inl ⟨by rfl,?_⟩) ?_ ?_
  rotate_left
  · intro w'
    go_simp
    with_reducible rfl
  rotate_left
  · simp only [Act.put,zA,zB,zC,i64_w,i32_w]
    rfl
  refine one_ (i := 13) (N := none) #[true,true,true,true,true,true,true,true,true,true,true,true,true,true] rfl rfl (by kernel_rfl) (by decide) (fun K hK => ?_)
  refine skip_ (w1 := (W2).setCell ⟨g,2,none⟩ (.int .i64 (bits BinOp.and IntKind.i64 L 4294967295))) (by rfl) rfl ?_ ?_
  · have z := blk_frozen H3 2
    have c := blk_cell H3 2
    simp only [List.getElem?_toArray,List.getElem?_cons_zero,List.getElem?_cons_succ] at c
    go_simp
    try with_reducible rfl
  refine hK.out _ _ trivial (fun hHeld => ?_)
  clear hK K
  refine done_ (by kernel_rfl) ?_
  go_wp2
  go_ret
  exact ⟨rfl,blk_put H3 2 _ rfl,only_setCell B3 (Or.inl rfl) _⟩
end Go.Proofs.Ytcenlehfbgnphaa.Z
end
section
namespace Go.Proofs.Ytcenlehfbgnphaa.Z
set_option linter.unusedVariables false
set_option linter.unusedSimpArgs false
open Go.RowKit Go.Proofs.YtcenlehfbgnphaaW.PrintWords Go.Proofs.YtcenlehfbgnphaaW.PrintLast Go.Proofs.YtcenlehfbgnphaaW.PrintMore Go.Proofs.Ytcenlehfbgnphaa.Cmp
structure RowC (w : World) (A : Option Addr) (c : Nat) (r : List S85) : Prop where
  cap : r.length ≤ c
  row : Kd.C k85 w A r.length r
theorem RowC.below {w w1 : World} {A : Option Addr} {c : Nat} {r : List S85} (h : RowC w A c r) (hb : Below w.heap.size w w1) : RowC w1 A c r := ⟨h.cap,Kd.C_below h.row hb⟩
theorem RowC.max {w : World} {A : Option Addr} {c : Nat} {r : List S85} (h : RowC w A c r) : r.length ≤ 9223372036854775807 := h.row.2.1
structure SameW (w w' : World) : Prop where
  heap : w'.heap = w.heap
  os : w'.os = w.os
  tape : w'.tape = w.tape
  output : w'.output = w.output
structure NextW (N : Nat) (w w' : World) : Prop where
  below : Below N w w'
  le : N ≤ w'.heap.size
theorem NextW.refl (w : World) : NextW w.heap.size w w := ⟨Below.refl _ _,Nat.le_refl _⟩
theorem NextW.next {N : Nat} {w w1 w2 W : World} (h : NextW N w w1) (hb : Below W.heap.size W w2) (e : SameW w1 W := by exact ⟨rfl,rfl,rfl,rfl⟩) : NextW N w w2 := by
  have h1 : Below N w W := ⟨e.os.trans h.below.os,e.tape.trans h.below.tape,e.output.trans h.below.output,by rw [e.heap];exact h.below.size,fun k hk => by rw [e.heap];exact h.below.block k hk⟩
  have hs : N ≤ W.heap.size := by rw [e.heap];exact h.le
  exact ⟨h1.trans (hb.mono hs),Nat.le_trans hs hb.size⟩
theorem SameW.below {w W : World} (e : SameW w W) (N : Nat) : Below N w W := ⟨e.os,e.tape,e.output,by rw [e.heap];exact Nat.le_refl _,fun k _ => by rw [e.heap]⟩
theorem SameW.refl (w : World) : SameW w w := ⟨rfl,rfl,rfl,rfl⟩
theorem SameW.drew (w : World) : SameW w w.drew := ⟨rfl,rfl,rfl,rfl⟩
theorem SameW.drewN (w : World) (n : Nat) : SameW w (w.drewN n) := ⟨rfl,rfl,rfl,rfl⟩
theorem own_new2 {v1 v2 : Value} {N M : Nat} (h1 : ∀ k,v1.ownBlock = some k → N ≤ k) (hm : N ≤ M) (h : v2.ownBlock = v1.ownBlock ∨ ∃ b,v2.ownBlock = some b ∧ M ≤ b) : ∀ k,v2.ownBlock = some k → N ≤ k := fun k e => by
  rcases h with h | ⟨b,h2,h3⟩
  · exact h1 k (h ▸ e)
  · rw [h2] at e;injection e with e;omega
end Go.Proofs.Ytcenlehfbgnphaa.Z
end
section
namespace Go.Proofs.Ytcenlehfbgnphaa.Z
set_option linter.unusedVariables false
set_option linter.unusedSimpArgs false
open Go.RowKit Go.Proofs.YtcenlehfbgnphaaW.PrintWords Go.Proofs.YtcenlehfbgnphaaW.PrintLast Go.Proofs.YtcenlehfbgnphaaW.PrintMore Go.Proofs.Ytcenlehfbgnphaa.Cmp
abbrev En := S83
def ownHit (n : ByteArray) (e : En) : Bool := decide (e.f0.length = 2) && ((rd_T85 e.f0 0).f0 == 3 && (((rd_T85 e.f0 0).f1) == false && (((rd_T85 e.f0 0).f2) == 0 && ((((rd_T85 e.f0 0).f3).toList) == n.toList)))) && decide ((rd_T85 e.f0 1).f0 = 2)
def ownL (n : ByteArray) : List En → Int × Bool
  | [] => (0,false)
  | e :: r => if ownHit n e then ((rd_T85 e.f0 1).f2,true) else ownL n r
theorem own_l0 (l : List En) (n : ByteArray) (hl : l.length ≤ 9223372036854775807) : ∀ d i k,l.length - i = d → i ≤ l.length → d + 1 < k → usage_Own.l0 k n l (l.length : Int) (i : Int) = some (ownL n (l.drop i)) := by
  intro d
  induction d with
  | zero =>
    intro i k hd hi hk
    obtain ⟨k,rfl⟩ : ∃ m,k = m + 1 := ⟨k - 1,by omega⟩
    simp only [usage_Own.l0]
    rw [if_neg (by omega),List.drop_eq_nil_of_le (by omega)]
    rfl
  | succ d ih =>
    intro i k hd hi hk
    obtain ⟨k,rfl⟩ : ∃ m,k = m + 1 := ⟨k - 1,by omega⟩
    have hlt : i < l.length := by omega
    have e0 : rd_T83 l (i : Int) = l[i] := by
      unfold rd_T83
      rw [Int.toNat_natCast,List.getD_eq_getElem?_getD,List.getElem?_eq_getElem hlt]
      rfl
    have e1 : l.drop i = l[i] :: l.drop (i + 1) := List.drop_eq_getElem_cons hlt
    have hw : wrap64 ((i : Int) + 1) = ((i + 1 : Nat) : Int) := by unfold wrap64;omega
    have step := ih (i + 1) k (by omega) (by omega) (by omega)
    rw [e1]
    show _ = some (if ownHit n l[i] then ((rd_T85 l[i].f0 1).f2,true) else ownL n (l.drop (i + 1)))
    simp only [usage_Own.l0]
    rw [if_pos (by omega),if_pos (by omega),if_pos (by omega),e0,hw,step]
    generalize l[i] = x
    unfold ownHit
    by_cases h2 : x.f0.length = 2
    · rw [if_pos (show (x.f0.length : Int) = 2 by omega),if_pos (show (0 : Int) < (x.f0.length : Int) by omega),if_pos (show (1 : Int) < (x.f0.length : Int) by omega),decide_eq_true h2]
      simp only [value_Text.f,Option.bind_some,Bool.true_and]
      cases hc : ((rd_T85 x.f0 0).f0 == 3 && (((rd_T85 x.f0 0).f1) == false && (((rd_T85 x.f0 0).f2) == 0 && ((((rd_T85 x.f0 0).f3).toList) == n.toList)))) with
      | true =>
        rw [if_pos rfl]
        by_cases hk : (rd_T85 x.f0 1).f0 = 2
        · rw [if_pos hk,decide_eq_true hk];rfl
        · rw [if_neg hk,decide_eq_false hk];rfl
      | false => rw [if_neg (by simp)];rfl
    · rw [if_neg (show ¬ (x.f0.length : Int) = 2 by omega),decide_eq_false h2]
      rfl
theorem own_f (l : List En) (n : ByteArray) (hl : l.length ≤ 9223372036854775807) : usage_Own.f (l.length + 2) n l = some (ownL n l) := by
  have := own_l0 l n hl l.length 0 (l.length + 2) (by omega) (Nat.zero_le _) (by omega)
  exact this
theorem use_own {A : Option Addr} {c : Nat} {l : List En} {w : World} (hC : Kd.C k83 w A l.length l) (hc : l.length ≤ c) (n : ByteArray) :
    Calls Try.prog 58 #[.string n,.slice A l.length c] w fun e w' => e = .returned (.tuple #[.int .i64 (ownL n l).1,.bool (ownL n l).2]) ∧ Below w.heap.size w w' :=
  usage_Own.calls (l.length + 2) n A c l (ownL n l).1 (ownL n l).2 w hC hc (own_f l n hC.2.1)
def NumE (l : List En) : Prop := ∀ e ∈ l,∀ x ∈ e.f0,In64 x.f2
theorem own_in {l : List En} (h : NumE l) (n : ByteArray) : In64 (ownL n l).1 := by
  induction l with
  | nil => show In64 0;exact ⟨by decide,by decide⟩
  | cons e r ih =>
    show In64 (if ownHit n e then ((rd_T85 e.f0 1).f2,true) else ownL n r).1
    by_cases hh : ownHit n e = true
    · rw [if_pos hh]
      unfold ownHit at hh
      simp only [Bool.and_eq_true,decide_eq_true_eq] at hh
      have h2 : 1 < e.f0.length := by omega
      have e1 : rd_T85 e.f0 1 = e.f0[1] := by
        show e.f0.getD 1 _ = _
        rw [List.getD_eq_getElem?_getD,List.getElem?_eq_getElem h2]
        rfl
      show In64 (rd_T85 e.f0 1).f2
      rw [e1]
      exact h e List.mem_cons_self _ (List.getElem_mem h2)
    · rw [if_neg hh]
      exact ih (fun x hx => h x (List.mem_cons_of_mem _ hx))
end Go.Proofs.Ytcenlehfbgnphaa.Z
end
section
namespace Go.Proofs.Ytcenlehfbgnphaa.Z
set_option linter.unusedVariables false
set_option linter.unusedSimpArgs false
open Go.RowKit Go.Proofs.YtcenlehfbgnphaaW.PrintWords Go.Proofs.YtcenlehfbgnphaaW.PrintLast Go.Proofs.YtcenlehfbgnphaaW.PrintMore
def orV (x1 x2 : Int) : Int := bits BinOp.or IntKind.i64 (wrap64 (x1 * 4294967296)) x2
theorem toNat_ofInt64 (a : Int) : ((BitVec.ofInt 64 a).toNat : Int) = a % 18446744073709551616 := by
  rw [BitVec.toNat_ofInt]
  have : 0 ≤ a % ((2 ^ 64 : Nat) : Int) := Int.emod_nonneg _ (by decide)
  rw [Int.toNat_of_nonneg this]
  rfl
theorem toInt_small (x : BitVec 64) (h : x.toNat < 9223372036854775808) : x.toInt = (x.toNat : Int) := by
  rw [BitVec.toInt_eq_toNat_bmod,Int.bmod_def]
  split <;> omega
theorem and_low64 (n : Int) : bits BinOp.and IntKind.i64 n 4294967295 = n % 4294967296 := by
  rw [and_i64]
  have e : (BitVec.ofInt 64 n &&& BitVec.ofInt 64 4294967295).toNat = (BitVec.ofInt 64 n).toNat % 4294967296 := by
    rw [BitVec.toNat_and,show (BitVec.ofInt 64 4294967295).toNat = 2 ^ 32 - 1 by decide +kernel,Nat.and_two_pow_sub_one_eq_mod]
  have h := toNat_ofInt64 n
  rw [toInt_small _ (by rw [e];omega),e]
  omega
theorem or_low (x1 x2 : Int) (h0 : 0 ≤ x1) (h1 : x1 < 4294967296) (g0 : 0 ≤ x2) (g1 : x2 < 4294967296) : orV x1 x2 = wrap64 (x1 * 4294967296 + x2) := by
  unfold orV
  have ho : ∀ a b : Int,bits BinOp.or IntKind.i64 a b = (BitVec.ofInt 64 a ||| BitVec.ofInt 64 b).toInt := fun a b => wrap_toInt _
  rw [ho]
  have ha : (BitVec.ofInt 64 (wrap64 (x1 * 4294967296))).toNat = 2 ^ 32 * x1.toNat := by
    have h := toNat_ofInt64 (wrap64 (x1 * 4294967296))
    have : wrap64 (x1 * 4294967296) % 18446744073709551616 = x1 * 4294967296 := by unfold wrap64;omega
    omega
  have hb : (BitVec.ofInt 64 x2).toNat = x2.toNat := by
    have h := toNat_ofInt64 x2
    omega
  have e : (BitVec.ofInt 64 (wrap64 (x1 * 4294967296)) ||| BitVec.ofInt 64 x2).toNat = 2 ^ 32 * x1.toNat + x2.toNat := by
    rw [BitVec.toNat_or,ha,hb,Nat.two_pow_add_eq_or_of_lt (by omega)]
  rw [BitVec.toInt_eq_toNat_bmod,e,Int.bmod_def]
  unfold wrap64
  split <;> omega
structure SumAt (w : World) (g : Nat) (S : Int) : Prop where
  out : ∃ x0 x1 x2,w.heap[g]? = some (.cells (sumCells x0 x1 x2) 26 (0,0)) ∧ 0 ≤ x1 ∧ x1 < 4294967296 ∧ 0 ≤ x2 ∧ x2 < 4294967296 ∧ S = x0 * 18446744073709551616 + x1 * 4294967296 + x2
structure SumOk (S : Int) : Prop where
  lo : -1267650600228229401496703205376 ≤ S
  hi : S ≤ 1267650600228229401496703205376
theorem SumAt.new (w : World) : SumAt (w.alloc (Obj.cells (sumCells 0 0 0) 26 (0,0))) w.heap.size 0 := ⟨0,0,0,blk_new w _,by omega,by omega,by omega,by omega,by omega⟩
theorem SumAt.drawn {w w' : World} {g : Nat} {S : Int} (h : SumAt w g S) (d : Drawn0 w w') : SumAt w' g S := by
  obtain ⟨n,rfl⟩ := d.out
  obtain ⟨x0,x1,x2,hh,r⟩ := h.out
  exact ⟨x0,x1,x2,blk_drewN hh n,r⟩
theorem SumAt.lt {w : World} {g : Nat} {S : Int} (h : SumAt w g S) : g < w.heap.size := by
  obtain ⟨x0,x1,x2,hh,r⟩ := h.out
  rcases Nat.lt_or_ge g w.heap.size with c | c
  · exact c
  · rw [Array.getElem?_eq_none c] at hh;exact absurd hh (by simp)
theorem prod_bd {a t A : Int} (a0 : -A ≤ a) (a1 : a ≤ A) (t0 : -1073741824 ≤ t) (t1 : t ≤ 1073741824) : -(A * 1073741824) ≤ a * t ∧ a * t ≤ A * 1073741824 := by
  have hA : 0 ≤ A := by omega
  have h1 : (a.natAbs : Int) * (t.natAbs : Int) ≤ A * 1073741824 := Int.mul_le_mul (by omega) (by omega) (by omega) hA
  have h2 : ((a * t).natAbs : Int) = (a.natAbs : Int) * (t.natAbs : Int) := by rw [Int.natAbs_mul];rfl
  omega
theorem putM_parts (x0 x1 x2 P Q : Int) (a0 : 0 ≤ x1) (a1 : x1 < 4294967296) (b0 : 0 ≤ x2) (b1 : x2 < 4294967296) (p0 : -4611686018427387904 ≤ P) (p1 : P ≤ 4611686018427387904) (q0 : -2305843009213693952 ≤ Q) (q1 : Q ≤ 2305843009213693952) (c0 : -1000000000000000000 ≤ x0) (c1 : x0 ≤ 1000000000000000000) :
    wrap64 (x2 + wrap64 P) = x2 + P ∧ wrap64 (wrap64 (x1 + wrap64 Q) + (x2 + P) / 4294967296) = x1 + Q + (x2 + P) / 4294967296 ∧ wrap64 (x0 + (x1 + Q + (x2 + P) / 4294967296) / 4294967296) = x0 + (x1 + Q + (x2 + P) / 4294967296) / 4294967296 := by
  refine ⟨?_,?_,?_⟩ <;> unfold wrap64 <;> omega
theorem sum_put (g : Nat) (S n t : Int) (w : World) (h : SumAt w g S) (hs : SumOk S) (hn : In64 n) (t0 : -1073741824 ≤ t) (t1 : t ≤ 1073741824) :
    Calls Try.prog 15 #[.pointer (some ⟨g,0,none⟩),.int .i64 n,.int .i64 t] w fun e w' => e = .returned (.int .i64 0) ∧ SumAt w' g (S + n * t) ∧ w.grownBy w' (some g) := by
  obtain ⟨x0,x1,x2,hh,a0,a1,b0,b1,hS⟩ := h.out
  obtain ⟨n0,n1⟩ := hn
  obtain ⟨s0,s1⟩ := hs
  obtain ⟨p0,p1⟩ := prod_bd (a := n % 4294967296) (A := 4294967296) (by omega) (by omega) t0 t1
  obtain ⟨q0,q1⟩ := prod_bd (a := n / 4294967296) (A := 2147483648) (by omega) (by omega) t0 t1
  have hnt : n * t = n / 4294967296 * t * 4294967296 + n % 4294967296 * t := by
    have e : n = n / 4294967296 * 4294967296 + n % 4294967296 := by omega
    generalize n / 4294967296 = u at *
    generalize n % 4294967296 = v at *
    rw [e,Int.add_mul,Int.mul_right_comm]
  obtain ⟨hL,hM,hX⟩ := putM_parts x0 x1 x2 (n % 4294967296 * t) (n / 4294967296 * t) a0 a1 b0 b1 (by omega) (by omega) (by omega) (by omega) (by omega) (by omega)
  have hL' : wrap64 (x2 + wrap64 (bits BinOp.and IntKind.i64 n 4294967295 * t)) = x2 + n % 4294967296 * t := by rw [and_low64];exact hL
  refine (sum_putg g x0 x1 x2 n t _ _ _ w hh t0 t1 hL' hM hX).mono ?_
  rintro e w' ⟨rfl,hc,hg⟩
  refine ⟨rfl,⟨⟨_,_,_,hc,?_⟩⟩,hg⟩
  rw [and_low64,and_low64,hnt,hS]
  clear hL hL' hM hX hc hg
  generalize n % 4294967296 * t = P at *
  generalize n / 4294967296 * t = Q at *
  omega
end Go.Proofs.Ytcenlehfbgnphaa.Z
end
section
namespace Go.Proofs.Ytcenlehfbgnphaa.Z
set_option linter.unusedVariables false
set_option linter.unusedSimpArgs false
open Go.RowKit Go.Proofs.YtcenlehfbgnphaaW.PrintWords Go.Proofs.YtcenlehfbgnphaaW.PrintLast Go.Proofs.YtcenlehfbgnphaaW.PrintMore
set_option maxHeartbeats 2000000 in
set_option maxRecDepth 100000 in
theorem sum_value_a (g : Nat) (x1 x2 : Int) (w : World) (h : w.heap[g]? = some (.cells (sumCells 0 x1 x2) 26 (0,0))) (h1 : decide (x1 < 2147483648) = true) :
    Calls Try.prog 18 #[.pointer (some ⟨g,0,none⟩)] w fun e w' => e = .returned (.tuple #[.int .i64 (orV x1 x2),.int .i64 0]) ∧ Drawn0 w w' := by
  have c0 := blk_cell h 0
  have c1 := blk_cell h 1
  have c2 := blk_cell h 2
  simp only [sumCells,List.getElem?_toArray,List.getElem?_cons_zero,List.getElem?_cons_succ] at c0 c1 c2
  clear h
  go_enter Try.func18,Try.ntmps18
  go_wp2
  go_quiet (fail)
  go_wp2
  go_ret2
  exact ⟨by rfl,⟨⟨_,rfl⟩⟩⟩
set_option maxHeartbeats 2000000 in
set_option maxRecDepth 100000 in
theorem sum_value_b (g : Nat) (x1 x2 : Int) (w : World) (h : w.heap[g]? = some (.cells (sumCells 0 x1 x2) 26 (0,0))) (h1 : decide (x1 < 2147483648) = false) :
    Calls Try.prog 18 #[.pointer (some ⟨g,0,none⟩)] w fun e w' => e = .returned (.tuple #[.int .i64 0,.int .i64 10]) ∧ Drawn0 w w' := by
  have c0 := blk_cell h 0
  have c1 := blk_cell h 1
  have c2 := blk_cell h 2
  simp only [sumCells,List.getElem?_toArray,List.getElem?_cons_zero,List.getElem?_cons_succ] at c0 c1 c2
  clear h
  go_enter Try.func18,Try.ntmps18
  go_wp2
  go_quiet (fail)
  go_wp2
  go_ret2
  exact ⟨by rfl,⟨⟨_,rfl⟩⟩⟩
set_option maxHeartbeats 2000000 in
set_option maxRecDepth 100000 in
theorem sum_value_c (g : Nat) (x1 x2 : Int) (w : World) (h : w.heap[g]? = some (.cells (sumCells (-1) x1 x2) 26 (0,0))) (h1 : decide (2147483648 ≤ x1) = true) :
    Calls Try.prog 18 #[.pointer (some ⟨g,0,none⟩)] w fun e w' => e = .returned (.tuple #[.int .i64 (orV x1 x2),.int .i64 0]) ∧ Drawn0 w w' := by
  have c0 := blk_cell h 0
  have c1 := blk_cell h 1
  have c2 := blk_cell h 2
  simp only [sumCells,List.getElem?_toArray,List.getElem?_cons_zero,List.getElem?_cons_succ] at c0 c1 c2
  clear h
  go_enter Try.func18,Try.ntmps18
  go_wp2
  go_quiet (fail)
  go_wp2
  go_ret2
  exact ⟨by rfl,⟨⟨_,rfl⟩⟩⟩
set_option maxHeartbeats 2000000 in
set_option maxRecDepth 100000 in
theorem sum_value_d (g : Nat) (x1 x2 : Int) (w : World) (h : w.heap[g]? = some (.cells (sumCells (-1) x1 x2) 26 (0,0))) (h1 : decide (2147483648 ≤ x1) = false) :
    Calls Try.prog 18 #[.pointer (some ⟨g,0,none⟩)] w fun e w' => e = .returned (.tuple #[.int .i64 0,.int .i64 10]) ∧ Drawn0 w w' := by
  have c0 := blk_cell h 0
  have c1 := blk_cell h 1
  have c2 := blk_cell h 2
  simp only [sumCells,List.getElem?_toArray,List.getElem?_cons_zero,List.getElem?_cons_succ] at c0 c1 c2
  clear h
  go_enter Try.func18,Try.ntmps18
  go_wp2
  go_quiet (fail)
  go_wp2
  go_ret2
  exact ⟨by rfl,⟨⟨_,rfl⟩⟩⟩
set_option maxHeartbeats 2000000 in
set_option maxRecDepth 100000 in
theorem sum_value_e (g : Nat) (x0 x1 x2 : Int) (w : World) (h : w.heap[g]? = some (.cells (sumCells x0 x1 x2) 26 (0,0))) (h0 : (x0 == 0) = false) (h2 : (x0 == -1) = false) :
    Calls Try.prog 18 #[.pointer (some ⟨g,0,none⟩)] w fun e w' => e = .returned (.tuple #[.int .i64 0,.int .i64 10]) ∧ Drawn0 w w' := by
  have c0 := blk_cell h 0
  have c1 := blk_cell h 1
  have c2 := blk_cell h 2
  simp only [sumCells,List.getElem?_toArray,List.getElem?_cons_zero,List.getElem?_cons_succ] at c0 c1 c2
  clear h
  go_enter Try.func18,Try.ntmps18
  go_wp2
  go_quiet (fail)
  go_wp2
  go_ret2
  exact ⟨by rfl,⟨⟨_,rfl⟩⟩⟩
theorem sum_value (g : Nat) (S : Int) (w : World) (h : SumAt w g S) : Calls Try.prog 18 #[.pointer (some ⟨g,0,none⟩)] w fun e w' => e = .returned (.tuple #[.int .i64 (fitF S).1,.int .i64 (fitF S).2]) ∧ Drawn0 w w' := by
  obtain ⟨x0,x1,x2,hh,a0,a1,b0,b1,hS⟩ := h.out
  have ho := or_low x1 x2 a0 a1 b0 b1
  by_cases z : x0 = 0
  · subst z
    by_cases c : x1 < 2147483648
    · have e : fitF S = (orV x1 x2,0) := by
        unfold fitF
        rw [if_pos (by omega),ho]
        congr 1
        unfold wrap64
        omega
      rw [e]
      exact sum_value_a g x1 x2 w hh (decide_eq_true c)
    · have e : fitF S = (0,10) := by
        unfold fitF
        rw [if_neg (by omega)]
      rw [e]
      exact sum_value_b g x1 x2 w hh (decide_eq_false c)
  · by_cases z1 : x0 = -1
    · subst z1
      by_cases c : 2147483648 ≤ x1
      · have e : fitF S = (orV x1 x2,0) := by
          unfold fitF
          rw [if_pos (by omega),ho]
          congr 1
          unfold wrap64
          omega
        rw [e]
        exact sum_value_c g x1 x2 w hh (decide_eq_true c)
      · have e : fitF S = (0,10) := by
          unfold fitF
          rw [if_neg (by omega)]
        rw [e]
        exact sum_value_d g x1 x2 w hh (decide_eq_false c)
    · have e : fitF S = (0,10) := by
        unfold fitF
        rw [if_neg (by omega)]
      rw [e]
      exact sum_value_e g x0 x1 x2 w hh (by simpa using z) (by simpa using z1)
end Go.Proofs.Ytcenlehfbgnphaa.Z
end
section
namespace Go.Proofs.Ytcenlehfbgnphaa.Z
set_option linter.unusedVariables false
set_option linter.unusedSimpArgs false
abbrev Nm := ByteArray
abbrev Tn := ByteArray × ByteArray
def getT : List Tn → Nm → Option Nm
  | [],_ => none
  | p :: r,n => if p.1 = n then some p.2 else getT r n
theorem getT_cons (q : Tn) (r : List Tn) (n : Nm) : getT (q :: r) n = if q.1 = n then some q.2 else getT r n := rfl
def upL (L : List Tn) : Nat → Nm → List Nm
  | 0,_ => []
  | k + 1,n => match getT L n with
    | none => []
    | some p => n :: upL L k p
def Shallow (L : List Tn) : Prop := ∀ n,(upL L 6 n).length ≤ 5
def abv (L : List Tn) (n : Nm) : List Nm := upL L 6 n
theorem upL_stop (L : List Tn) : ∀ k n,(upL L k n).length < k → upL L (k + 1) n = upL L k n
  | 0,_,h => absurd h (Nat.not_lt_zero _)
  | k + 1,n,h => by
    unfold upL at h ⊢
    cases hg : getT L n with
    | none => rfl
    | some p =>
      rw [hg] at h
      show n :: upL L (k + 1) p = n :: upL L k p
      rw [upL_stop L k p (by simpa using h)]
theorem abv_none {L : List Tn} {n : Nm} (h : getT L n = none) : abv L n = [] := by
  unfold abv upL
  rw [h]
theorem abv_some {L : List Tn} {n p : Nm} (hs : Shallow L) (h : getT L n = some p) : abv L n = n :: abv L p := by
  have h1 : upL L 6 n = n :: upL L 5 p := by
    show (match getT L n with | none => [] | some p => n :: upL L 5 p) = _
    rw [h]
  have h2 := hs n
  rw [h1] at h2
  have h3 : (upL L 5 p).length < 5 := by simp at h2;omega
  unfold abv
  rw [h1,upL_stop L 5 p h3]
theorem abv_len {L : List Tn} (hs : Shallow L) (n : Nm) : (abv L n).length ≤ 5 := hs n
theorem getT_mem : ∀ (L : List Tn) (n p : Nm),getT L n = some p → (n,p) ∈ L
  | [],_,_,h => by cases h
  | q :: r,n,p,h => by
    unfold getT at h
    by_cases e : q.1 = n
    · rw [if_pos e] at h
      injection h with h
      subst e
      subst h
      exact List.mem_cons_self
    · rw [if_neg e] at h
      exact List.mem_cons_of_mem _ (getT_mem r n p h)
theorem getT_none : ∀ (L : List Tn) (n : Nm),getT L n = none ↔ ∀ p ∈ L,p.1 ≠ n
  | [],_ => by simp [getT]
  | q :: r,n => by
    unfold getT
    by_cases e : q.1 = n
    · rw [if_pos e]
      constructor
      · intro h;cases h
      · intro h;exact absurd e (h q List.mem_cons_self)
    · rw [if_neg e,getT_none r n]
      constructor
      · intro h p hp
        rcases List.mem_cons.1 hp with rfl | hp
        · exact e
        · exact h p hp
      · intro h p hp
        exact h p (List.mem_cons_of_mem _ hp)
theorem abv_head {L : List Tn} (hs : Shallow L) {n : Nm} (h : getT L n ≠ none) : ∃ r,abv L n = n :: r := by
  cases hg : getT L n with
  | none => exact absurd hg h
  | some p => exact ⟨_,abv_some hs hg⟩
def hasN (l : List Nm) (n : Nm) : Bool := l.any (fun x => decide (x = n))
theorem hasN_iff (l : List Nm) (n : Nm) : hasN l n = true ↔ n ∈ l := by
  unfold hasN
  rw [List.any_eq_true]
  constructor
  · rintro ⟨x,hx,h⟩
    have := of_decide_eq_true h
    subst this
    exact hx
  · intro h
    exact ⟨n,h,decide_eq_true rfl⟩
def undL (L : List Tn) (n : Nm) : List Nm := (L.map Prod.fst).filter (fun x => hasN (abv L x) n)
end Go.Proofs.Ytcenlehfbgnphaa.Z
end
section
namespace Go.Proofs.YtcenlehfbgnphaaW.PrintMore
set_option linter.unusedVariables false
open Go.RowKit Go.Proofs.YtcenlehfbgnphaaW.PrintWords Go.Proofs.YtcenlehfbgnphaaW.PrintLast
def SeqBox {α : Type} (F : Fence) (n : Nat) (P : Program) (g : Nat) (lb : Array Value) (encs : α → Array Value) (Kp : World → World → Prop) (S Sp : List α → Prop) (N Bn : Nat) (w : World) : Prop :=
  ∀ (l : Nat) (J Jx : List α → World → Prop) (W : World),Below w.heap.size w W → AbidesFrom W.heap.size J → (∀ s A v,J s A → J s (A.setCell ⟨Bn,0,none⟩ v)) →
    (∀ pre x W1,J pre W1 → pre.length < N → YieldAt F (n - 1) P l (encs x) W1 fun e W' =>
      (e = .returned (.bool true) ∧ J (pre ++ [x]) W' ∧ Kp W1 W') ∨ (e = .returned (.bool false) ∧ Jx (pre ++ [x]) W')) →
    J [] W →
    CallsIn F n P g (#[.func (.yield l) #[] #[]] ++ lb) W fun e W' => (∃ v,e = .returned v) ∧ ((∃ xs,S xs ∧ J xs W') ∨ (∃ pre,Sp pre ∧ Jx pre W'))
section
variable {F : Fence} {n : Nat} {P : Program} {w : World}
theorem range_box {α : Type} {g : Operand} {ps : Array Tmp} {assign body : Code} {Q : Exit → Act → World → Prop} {a : Act}
    (hro : F.round = none) (h1 : 1 ≤ n) {gf : Nat} {lb : Array Value} (hg : a.eval g = .func (.func gf) #[] lb) (hFg : F.fn gf) (eg : ∀ args w,(callFunc gf args).run P w = .ok (.enter gf args) w)
    {encs : α → Array Value} {Kp : World → World → Prop} {S Sp : List α → Prop} {N Bn : Nat} {w0 : World} (hseq : SeqBox F (n - 1) P gf lb encs Kp S Sp N Bn w0) (hBn : Bn < w.heap.size)
    (hKt : ∀ {A B C : World},Kp A B → Kp B C → Kp A C) (hKb : ∀ (W : World) (l : Nat) (o o' : Obj),w.heap.size ≤ l → W.heap[l]? = some o → o.isCells = false → o.isWalk = false → Kp W (W.putObj l o')) (hb0 : Below w0.heap.size w0 w) (hps : ∀ x,(encs x).size = ps.size)
    (I : List α → World → Prop) (Ix : Code → List α → World → Prop) (hI : OwnFrom w.heap.size I) (hIx : ∀ c,OwnFrom w.heap.size (Ix c)) (hIB : ∀ pre A v,I pre A → I pre (A.setCell ⟨Bn,0,none⟩ v)) (h0 : I [] w) (a₁ : α → Act)
    (hassign : ∀ (l : Nat) (x : α) (W : World) (K : Act → World → Prop),K (a₁ x) W →
      assign.wpIn (F.inRound l) (n - 1 - 1) P (Exit.then K (fun _ _ _ => False)) { tmps := (ps.zip (encs x)).foldl (fun t (p,v) => t.setIfInBounds p v) a.tmps,defers := [] } W)
    (hbody : ∀ (l : Nat) (pre : List α) (x : α) (W : World),I pre W → pre.length < N → body.wpIn (F.inRound l) (n - 1 - 1) P (ownPostG w.heap.size Kp I Ix (pre ++ [x]) W) (a₁ x) W)
    (hdone : ∀ (D : Nat) (xs : List α) (W : World),w.heap.size ≤ D → S xs → I xs W → W.heap[D]? = some (.deferred (some [])) → Q .normal { a with defers := { target := .collected D,args := #[] } :: a.defers } W)
    (hstop : ∀ (D : Nat) (c : Code) (pre : List α) (W : World),w.heap.size ≤ D → Sp pre → Ix c pre W → W.heap[D]? = some (.deferred (some [])) → c.wpIn F n P Q { a with defers := { target := .collected D,args := #[] } :: a.defers } W) :
    (Code.rangeFunc g ps assign body).wpIn F n P Q a w := by
  refine wpIn_rangeFunc fun fn hfn => ?_
  rw [hro]
  let R : LoopState → Option Code → Loop := fun st pe => { state := st,pending := pe,fn,tmps := a.tmps,params := ps,assign,body,defers := w.heap.size }
  obtain ⟨rec,hrec⟩ : ∃ rec,rec = R := ⟨_,rfl⟩
  obtain ⟨W1,hW1⟩ : ∃ W1,(w.alloc (.deferred (some []))).alloc (.loop (rec .ready none)) = W1 := ⟨_,rfl⟩
  have sz : W1.heap.size = w.heap.size + 2 := by rw [← hW1];simp
  have bL : W1.heap[w.heap.size + 1]? = some (.loop (rec .ready none)) := by
    have := World.alloc_heap_new (w.alloc (.deferred (some []))) (.loop (rec .ready none))
    rw [World.size_alloc] at this
    rw [← hW1];exact this
  have bD : W1.heap[w.heap.size]? = some (.deferred (some [])) := by
    rw [← hW1];exact (Below.heap_alloc _ _ _ (by simp)).trans (World.alloc_heap_new w _)
  have i1 : I [] W1 := by rw [← hW1];exact hI.alloc _ (hI.alloc _ h0)
  have b1 : Below w0.heap.size w0 W1 := by
    rw [← hW1];exact hb0.trans ((((Below.refl _ w).alloc (Nat.le_refl _) _).alloc (by simp) _).mono hb0.size)
  have turn : ∀ {A : World} {row : Option Nat},(∀ r,row = some r → W1.heap.size ≤ r ∧ ∃ o : Obj,A.heap[r]? = some o ∧ o.isWalk = true) → ∀ r,row = some r → w.heap.size ≤ r ∧ ∃ o : Obj,A.heap[r]? = some o ∧ o.isCells = false := fun hr r e => by
    obtain ⟨hB,o,ho,hw⟩ := hr r e
    exact ⟨by omega,o,ho,Obj.not_cells_of_walk hw⟩
  refine ⟨w.heap.size + 1,[{ target := .collected w.heap.size,args := #[] }],W1,{ target := .fn (.func gf) lb,args := #[.func (.yield (w.heap.size + 1)) #[] #[]] },W1,gf,
    #[.func (.yield (w.heap.size + 1)) #[] #[]] ++ lb,W1,by rw [← hW1,hrec];exact run_enterLoop_outer _ _ _ _ _,?_,?_,?_,fun _ => h1,?_⟩
  · simp only [resolve,hg]
    simp [go_sem]
  · intro f' hf'
    simp [Target.leads] at hf'
    subst hf'
    exact hFg
  · simp [invoke,go_sem,eg]
  refine (hseq (w.heap.size + 1)
    (fun pre W => I pre W ∧ W.heap[w.heap.size + 1]? = some (.loop (rec .ready none)) ∧ W.heap[w.heap.size]? = some (.deferred (some [])))
    (fun pre W => ∃ c,Ix c pre W ∧ W.heap[w.heap.size + 1]? = some (.loop (rec .done (some c))) ∧ W.heap[w.heap.size]? = some (.deferred (some [])))
    W1 b1
    (fun s A B row hs hg' hr => ⟨hI s A B row hs.1 hg' (turn hr),(grownBy_keeps hg' (fun r e => (hr r e).2) hs.2.1 rfl).trans hs.2.1,(grownBy_keeps hg' (fun r e => (hr r e).2) hs.2.2 rfl).trans hs.2.2⟩)
    (fun s A v hs => ⟨hIB s A v hs.1,(Below.heap_setCell A ⟨Bn,0,none⟩ v _ (show w.heap.size + 1 ≠ Bn by omega)).trans hs.2.1,(Below.heap_setCell A ⟨Bn,0,none⟩ v _ (show w.heap.size ≠ Bn by omega)).trans hs.2.2⟩)
    ?_ ⟨i1,bL,bD⟩).mono ?_
  · rintro pre x W ⟨hi,hl,hk⟩ hlen
    have lt : w.heap.size + 1 < W.heap.size := (Array.getElem?_eq_some_iff.1 hl).1
    have hy := run_yield (P := P) (args := encs x) hl (by rw [hrec];exact hps x)
    rw [hrec] at hy
    refine ⟨fn,_,assign,body,hy,roundIn_of_wpIn hfn (hassign _ x W _ ⟨_,run_beginRound hl (by rw [hrec]),?_⟩)⟩
    clear hy
    obtain ⟨V,hV⟩ : ∃ V,W.putObj (w.heap.size + 1) (.loop { rec .ready none with state := .busy }) = V := ⟨_,rfl⟩
    have vL : V.heap[w.heap.size + 1]? = some (.loop { rec .ready none with state := .busy }) := by rw [← hV];exact World.putObj_heap_same lt
    have vD : V.heap[w.heap.size]? = some (.deferred (some [])) := by rw [← hV];exact (World.putObj_heap_other (by omega)).trans hk
    have vK : Kp W V := by rw [← hV];exact hKb _ _ _ _ (by omega) hl rfl rfl
    have vI : I pre V := by rw [← hV];exact hI.putObj _ hi (by omega) hl rfl
    rw [hV]
    have fin : ∀ (jump : Option Code) (X : World),KeepsFrom w.heap.size V X → ∃ Y,Y = X.putObj (w.heap.size + 1) (.loop (rec (if jump.isNone then .ready else .done) jump)) ∧
        (Instr.endRound (w.heap.size + 1) jump).run P X = .ok (.bool jump.isNone) Y ∧ X.heap[w.heap.size + 1]? = some (.loop { rec .ready none with state := .busy }) ∧
        Y.heap[w.heap.size + 1]? = some (.loop (rec (if jump.isNone then .ready else .done) jump)) ∧ Y.heap[w.heap.size]? = some (.deferred (some [])) := fun jump X hk3 => by
      have hl3 := hk3.same _ _ (by omega) vL rfl
      refine ⟨_,rfl,?_,hl3,World.putObj_heap_same (Array.getElem?_eq_some_iff.1 hl3).1,(World.putObj_heap_other (by omega)).trans (hk3.same _ _ (Nat.le_refl _) vD rfl)⟩
      have := run_endRound (P := P) jump hl3
      rw [hrec] at this ⊢
      exact this
    refine wpIn_mono (hbody _ pre x V vI hlen) ?_
    have out : ∀ (c : Code) (X : World),KeepsFrom w.heap.size V X → Ix c (pre ++ [x]) X → ∃ v Y,(Instr.endRound (w.heap.size + 1) (some c)).run P X = .ok v Y ∧ ((Ending.returned v = .returned (.bool true) ∧ (I (pre ++ [x]) Y ∧ Y.heap[w.heap.size + 1]? = some (.loop (rec .ready none)) ∧ Y.heap[w.heap.size]? = some (.deferred (some []))) ∧ Kp W Y) ∨ (Ending.returned v = .returned (.bool false) ∧ ∃ c,Ix c (pre ++ [x]) Y ∧ Y.heap[w.heap.size + 1]? = some (.loop (rec .done (some c))) ∧ Y.heap[w.heap.size]? = some (.deferred (some [])))) := fun c X hk3 hi3 => by
      obtain ⟨Y,hY,hr,hl3,hl4,hk4⟩ := fin (some c) X hk3
      exact ⟨_,Y,hr,.inr ⟨rfl,c,by rw [hY];exact (hIx c).putObj _ hi3 (by omega) hl3 rfl,hl4,hk4⟩⟩
    rintro e a3 X hp
    cases e with
    | normal =>
      obtain ⟨hk3,hkp3,hi3⟩ := hp
      obtain ⟨Y,hY,hr,hl3,hl4,hk4⟩ := fin none X hk3
      exact ⟨_,Y,hr,.inl ⟨rfl,⟨by rw [hY];exact hI.putObj _ hi3 (by omega) hl3 rfl,hl4,hk4⟩,hKt vK (hKt hkp3 (by rw [hY];exact hKb _ _ _ _ (by omega) hl3 rfl rfl))⟩⟩
    | ret => exact out .ret X hp.1 hp.2
    | exit id => exact out (.exit id) X hp.1 hp.2
    | goto t => exact out (.goto t) X hp.1 hp.2
    | panic ch => exact hp.elim
    | outgrown => exact hp.elim
  · rintro e X ⟨⟨v,rfl⟩,(⟨xs,hS,hi,hl,hk⟩ | ⟨pre,hSp,c,hi,hl,hk⟩)⟩
    · exact ⟨none,_,by have := run_endLoop (P := P) hl (by rw [hrec];simp [R]);rw [hrec] at this;exact this,hdone _ xs _ (Nat.le_refl _) hS (hI.putObj _ hi (by omega) hl rfl) ((World.putObj_heap_other (by omega)).trans hk)⟩
    · exact ⟨some c,_,by have := run_endLoop (P := P) hl (by rw [hrec];simp [R]);rw [hrec] at this;exact this,hstop _ c pre _ (Nat.le_refl _) hSp ((hIx c).putObj _ hi (by omega) hl rfl) ((World.putObj_heap_other (by omega)).trans hk)⟩
end
end Go.Proofs.YtcenlehfbgnphaaW.PrintMore
end
section
namespace Go.Proofs.Ytcenlehfbgnphaa.Z
set_option linter.unusedVariables false
set_option linter.unusedSimpArgs false
open Go.RowKit Go.Shelf Go.Maps Go.Proofs.YtcenlehfbgnphaaW.PrintWords Go.Proofs.YtcenlehfbgnphaaW.PrintLast Go.Proofs.YtcenlehfbgnphaaW.PrintMore Go.Proofs.Ytcenlehfbgnphaa.Cmp
attribute [local go_sem] Oper.semAt_some
abbrev tT : Nat := 133
abbrev tM : Nat := 131
def lk (n : Nm) : Lit := .string n.data.toList
theorem lk_inj {a b : Nm} (h : lk a = lk b) : a = b := by
  unfold lk at h
  injection h with h
  cases a;cases b
  simpa using congrArg List.toArray h
def mapD (L : List Tn) : DataW Unit := .map (L.map fun p => (lk p.1,.lit (lk p.2)))
theorem lawS : Keyed Try.prog 9 := string_keyed Try.underlying9
structure TreeAt (w : World) (t b : Nat) (L : List Tn) : Prop where
  blk : w.heap[t]? = some (.cells #[.map (some b)] tT (0,0))
  map : w.ownsMap Try.prog 9 (plainElem Try.prog 9) b L.length (mapD L)
theorem TreeAt.below {w w1 : World} {t b : Nat} {L : List Tn} (h : TreeAt w t b L) (hb : Below w.heap.size w w1) : TreeAt w1 t b L :=
  ⟨(hb.block t (blk_lt h.blk)).trans h.blk,h.map.kept (row := none) ⟨hb.os,hb.tape,hb.output,hb.size,fun k hk _ => hb.block k hk⟩ (by simp)⟩
theorem TreeAt.stay {w w1 : World} {t b n₀ : Nat} {L : List Tn} (h : TreeAt w t b L) (hb : Below n₀ w w1) (ht : t < n₀) (hbn : b < n₀) : TreeAt w1 t b L := by
  refine ⟨(hb.block t ht).trans h.blk,?_⟩
  obtain ⟨es,clock,h1,h2⟩ := h.map
  exact ⟨es,clock,(hb.block b hbn).trans h1,h2⟩
theorem same_lk (a b : Nm) : (lk a).sameKey (lk b) = decide (a = b) := by
  unfold lk Lit.sameKey
  by_cases h : a = b
  · subst h;simp
  · rw [decide_eq_false h]
    apply Bool.eq_false_iff.2
    intro e
    exact h (lk_inj (by unfold lk;rw [eq_of_beq e]))
theorem find_mapD (n : Nm) : ∀ L : List Tn,(L.map fun p => (lk p.1,(DataW.lit (lk p.2) : DataW Unit))).find? (fun p => p.1.sameKey (lk n)) = (getT L n).map (fun p => (lk n,.lit (lk p)))
  | [] => rfl
  | q :: r => by
    unfold getT
    rw [List.map_cons,List.find?_cons]
    show (match (lk q.1).sameKey (lk n) with | true => _ | false => _) = _
    rw [same_lk]
    by_cases e : q.1 = n
    · rw [decide_eq_true e,if_pos e,e];rfl
    · rw [decide_eq_false e,if_neg e]
      exact find_mapD n r
theorem at_mapD (L : List Tn) (n : Nm) (z : DataW Unit) : (mapD L).atKey (lk n) z = match getT L n with | some p => .lit (lk p) | none => z := by
  unfold mapD DataW.atKey
  simp only [find_mapD]
  cases getT L n <;> rfl
theorem has_mapD (L : List Tn) (n : Nm) : Maps.has (mapD L) (lk n) = (getT L n).isSome := by
  unfold mapD
  rw [has_eq]
  induction L with
  | nil => rfl
  | cons q r ih =>
    rw [List.map_cons,List.any_cons,ih]
    show ((lk q.1).sameKey (lk n) || _) = _
    rw [same_lk]
    rw [getT_cons]
    by_cases e : q.1 = n
    · rw [decide_eq_true e,if_pos e];rfl
    · rw [decide_eq_false e,if_neg e];rfl
theorem zeroS (w : World) : (zeroValue 9).run Try.prog w = .ok (.string ⟨#[]⟩) w := Try.zeroValue9 w
theorem plainS (s : Nm) (h : s.size ≤ maxLen) : plainElem (H := Unit) Try.prog 9 (.string s) = some (.lit (lk s),[]) := plainElem_string Try.underlying9 h
def emp : Nm := ⟨#[]⟩
theorem TreeAt.look2 {w : World} {t b : Nat} {L : List Tn} (h : TreeAt w t b L) (n : Nm) (hn : n.size ≤ maxLen) :
    (Instr.lookup tM (.map (some b)) (.string n) true).run Try.prog w = .ok (.tuple #[.string ((getT L n).getD emp),.bool (getT L n).isSome]) w := by
  obtain ⟨v,ps,h1,h2⟩ := h.map.look_ok lawS Try.underlying131 (zeroS w) (plainS emp (by decide)) (Go.WideMaps.keyOf_string_mk Try.underlying9 hn)
  obtain ⟨s,rfl,h3,_⟩ := plainElem_string_inv Try.underlying9 h2
  have h4 : (mapD L).atKey (lk n) (.lit (lk emp)) = .lit (lk s) := congrArg Prod.fst h3
  rw [at_mapD] at h4
  have h5 : s = (getT L n).getD emp := by
    cases hg : getT L n with
    | none => rw [hg] at h4;exact (lk_inj (DataW.lit.inj h4)).symm
    | some p => rw [hg] at h4;exact (lk_inj (DataW.lit.inj h4)).symm
  have h6 : Maps.has (mapD L) (.string n.data.toList) = (getT L n).isSome := has_mapD L n
  rw [h6,h5] at h1
  exact h1
theorem TreeAt.look {w : World} {t b : Nat} {L : List Tn} (h : TreeAt w t b L) (n : Nm) (hn : n.size ≤ maxLen) :
    (Instr.lookup tM (.map (some b)) (.string n) false).run Try.prog w = .ok (.string ((getT L n).getD emp)) w := by
  obtain ⟨v,ps,h1,h2⟩ := h.map.lookup lawS Try.underlying131 (zeroS w) (plainS emp (by decide)) (Go.WideMaps.keyOf_string_mk Try.underlying9 hn)
  obtain ⟨s,rfl,h3,_⟩ := plainElem_string_inv Try.underlying9 h2
  have h4 : (mapD L).atKey (lk n) (.lit (lk emp)) = .lit (lk s) := congrArg Prod.fst h3
  rw [at_mapD] at h4
  have h5 : s = (getT L n).getD emp := by
    cases hg : getT L n with
    | none => rw [hg] at h4;exact (lk_inj (DataW.lit.inj h4)).symm
    | some p => rw [hg] at h4;exact (lk_inj (DataW.lit.inj h4)).symm
  rw [h5] at h1
  exact h1
def TreeV (w : World) (n₀ : Nat) (v : Value) (L : List Tn) : Prop := (v = .pointer none ∧ L = []) ∨ ∃ t b,v = .pointer (some ⟨t,0,none⟩) ∧ t < n₀ ∧ b < n₀ ∧ TreeAt w t b L
theorem TreeV.stay {w w1 : World} {n₀ : Nat} {v : Value} {L : List Tn} (h : TreeV w n₀ v L) (hb : Below n₀ w w1) : TreeV w1 n₀ v L := by
  rcases h with h | ⟨t,b,e,h1,h2,h3⟩
  · exact .inl h
  · exact .inr ⟨t,b,e,h1,h2,h3.stay hb h1 h2⟩
theorem TreeAt.v {w : World} {t b : Nat} {L : List Tn} (h : TreeAt w t b L) : TreeV w w.heap.size (.pointer (some ⟨t,0,none⟩)) L := .inr ⟨t,b,rfl,blk_lt h.blk,h.map.lt,h⟩
set_option maxHeartbeats 2000000 in
set_option maxRecDepth 100000 in
theorem ten_has {w : World} {n₀ : Nat} {v : Value} {L : List Tn} (h : TreeV w n₀ v L) (n : Nm) (hn : n.size ≤ maxLen) : Calls Try.prog 100 #[v,.string n] w fun e w' => e = .returned (.bool (getT L n).isSome) ∧ w' = w := by
  rcases h with ⟨rfl,rfl⟩ | ⟨t,b,rfl,_,_,h⟩
  · go_enter Try.func100,Try.ntmps100
    go_wp2
    go_ret
    exact ⟨rfl,rfl⟩
  · have x0 : w.cell? ⟨t,0,none⟩ = some (.map (some b)) := blk_cell h.blk 0
    have hl := h.look2 n hn
    clear h
    go_enter Try.func100,Try.ntmps100
    go_wp2
    go_ret
    exact ⟨rfl,rfl⟩
end Go.Proofs.Ytcenlehfbgnphaa.Z
end
section
namespace Go.Proofs.Ytcenlehfbgnphaa.Z
set_option linter.unusedVariables false
set_option linter.unusedSimpArgs false
open Go.RowKit Go.Shelf Go.Maps Go.Proofs.YtcenlehfbgnphaaW.PrintWords Go.Proofs.YtcenlehfbgnphaaW.PrintLast Go.Proofs.YtcenlehfbgnphaaW.PrintMore Go.Proofs.Ytcenlehfbgnphaa.Cmp
attribute [local go_sem] Oper.semAt_some
abbrev tP : Nat := 75
def encN (x : Nm) : Array Value := #[.string x]
structure KpU (n₀ Bt Bn : Nat) (W W' : World) : Prop where
  below : Below n₀ W W'
  bt : W'.heap[Bt]? = W.heap[Bt]?
  bn : W'.heap[Bn]? = W.heap[Bn]?
theorem KpU.trans {n₀ Bt Bn : Nat} {A B C : World} (h : KpU n₀ Bt Bn A B) (k : KpU n₀ Bt Bn B C) : KpU n₀ Bt Bn A C := ⟨h.below.trans k.below,k.bt.trans h.bt,k.bn.trans h.bn⟩
set_option maxHeartbeats 2000000 in
set_option maxRecDepth 100000 in
theorem ten_up (v : Value) (hv : v = .pointer none ∨ ∃ t : Nat,v = .pointer (some ⟨t,0,none⟩)) (n : Nm) (w : World) : Calls Try.prog 117 #[v,.string n] w fun e w' => e = .returned (.func (.func 124) #[] #[.pointer (some ⟨w.heap.size,0,none⟩),.pointer (some ⟨w.heap.size + 1,0,none⟩)]) ∧ w' = (w.alloc (.cells #[v] tP)).alloc (.cells #[.string n] 9) := by
  rcases hv with rfl | ⟨t,rfl⟩
  · go_enter Try.func117,Try.ntmps117
    go_wp2
    go_ret
    exact ⟨rfl,rfl⟩
  · go_enter Try.func117,Try.ntmps117
    go_wp2
    go_ret
    exact ⟨rfl,rfl⟩
def leftU (L : List Tn) (Bn : Nat) (w : World) : Nat := match w.cell? ⟨Bn,0,none⟩ with
  | some (.string s) => (abv L s).length
  | _ => 0
theorem leftU_eq {L : List Tn} {Bn : Nat} {w : World} {s : Nm} (h : w.cell? ⟨Bn,0,none⟩ = some (.string s)) : leftU L Bn w = (abv L s).length := by
  unfold leftU
  rw [h]
set_option maxRecDepth 100000 in
set_option maxHeartbeats 4000000 in
theorem up_walk (n l Bt Bn n₀ N : Nat) (v : Value) (L : List Tn) (nm : Nm) (hs : Shallow L) (hk : ∀ p ∈ L,p.2.size ≤ maxLen) (hnm : nm.size ≤ maxLen) (hne : Bt ≠ Bn) (hN : n₀ ≤ Bn) (hNN : (abv L nm).length ≤ N) (J Jx : List Nm → World → Prop)
    (hJB : ∀ s A u,J s A → J s (A.setCell ⟨Bn,0,none⟩ u)) (hJd : ∀ s A,J s A → J s A.drew)
    (hY : ∀ pre x W,J pre W → pre.length < N → YieldAt Fence.wide (n - 1) Try.prog l (encN x) W fun e W' =>
      (e = .returned (.bool true) ∧ J (pre ++ [x]) W' ∧ KpU n₀ Bt Bn W W') ∨ (e = .returned (.bool false) ∧ Jx (pre ++ [x]) W'))
    (W : World) (hT : TreeV W n₀ v L) (hBt : W.heap[Bt]? = some (.cells #[v] tP (0,0))) (hBn : W.heap[Bn]? = some (.cells #[.string nm] 9 (0,0))) (h0 : J [] W) :
    CallsIn Fence.wide n Try.prog 124 #[.func (.yield l) #[] #[],.pointer (some ⟨Bt,0,none⟩),.pointer (some ⟨Bn,0,none⟩)] W fun e W' => (∃ v,e = .returned v) ∧
      ((∃ ys,ys = abv L nm ∧ J ys W') ∨ (∃ pre,pre <+: abv L nm ∧ Jx pre W')) := by
  have hdd : ∀ k : Nat,(Fence.wide.depth.isSome = true → 1 ≤ k) := fun k h => by cases h
  have hwH : Fence.wide.fn 100 := trivial
  refine callsIn_of_wp Try.func124 rfl trivial ?_ rfl
  simp only [Try.ntmps124,List.size_toArray,List.length_cons,List.length_nil,Nat.reduceAdd,Nat.reduceSub,Array.replicate_succ,Array.replicate_zero,List.push_toArray,List.append_toArray,List.nil_append,List.cons_append]
  gi_wp2
  gi_loopw [4] (fun _ wr => ∃ (pre : List Nm) (x : Nm),Aside0 (abv L nm = pre ++ abv L x ∧ x.size ≤ maxLen) ∧ Aside0 (TreeV wr n₀ v L) ∧ Aside0 (wr.heap[Bt]? = some (.cells #[v] tP (0,0))) ∧ Aside0 (wr.heap[Bn]? = some (.cells #[.string x] 9 (0,0))) ∧ Aside0 (J pre wr)) (fun _ wr => leftU L Bn wr)
  case atStart => exact ⟨[],nm,⟨⟨rfl,hnm⟩⟩,⟨hT⟩,⟨hBt⟩,⟨hBn⟩,⟨h0⟩⟩
  case round =>
    rename World => wr
    clear hT hBt hBn h0
    obtain ⟨pre,x,HX,HT,HBT,HBN,HJ⟩ := hrel
    have b0 : wr.cell? ⟨Bt,0,none⟩ = some v := blk_cell HBT.out 0
    have b1 : wr.cell? ⟨Bn,0,none⟩ = some (.string x) := blk_cell HBN.out 0
    cases hg : getT L x with
    | none =>
      have HH := Aside0.mk (callsIn_wide (n := n - 1)|>.2 (ten_has HT.out x HX.out.2))
      rw [hg] at HH
      gi_wp2_with ((try refine ⟨hdd _,?_⟩);gi_at_call 100;refine HH.out.mono ?_;rintro e w' ⟨rfl,rfl⟩)
      refine ⟨(fun _ h => by cases h),?_⟩
      gi_wp2
      go_end0
      exact ⟨⟨_,rfl⟩,.inl ⟨pre,by rw [HX.out.1,abv_none hg,List.append_nil],HJ.out⟩⟩
    | some p =>
      have HH := Aside0.mk (callsIn_wide (n := n - 1)|>.2 (ten_has HT.out x HX.out.2))
      rw [hg] at HH
      have HG := Aside0.mk hg
      have HA := Aside0.mk (abv_some hs hg)
      have HP := Aside0.mk (hk _ (getT_mem L x p hg))
      obtain ⟨fn,tmps,assign,body,hy,hR⟩ := hY pre x wr HJ.out (by have h1 := congrArg List.length HX.out.1;rw [HA.out,List.length_append,List.length_cons] at h1;omega)
      dsimp only [encN] at hy
      gi_wp2_with (first
        | ((try refine ⟨hdd _,?_⟩);gi_at_call 100;refine HH.out.mono ?_;clear HH;rintro e w' ⟨rfl,rfl⟩)
        | ((try refine ⟨hdd _,?_⟩);refine hR.mono ?_;clear hR;rintro e W2 (⟨rfl,hJ2,hK2⟩ | ⟨rfl,hx2⟩)))
      · rcases HT.out with ⟨rfl,rfl⟩ | ⟨t,b,rfl,ht,hb,hA⟩
        · cases hg
        · have A2 := Aside0.mk (hA.stay hK2.below ht hb)
          have J2 := Aside0.mk hJ2
          have BT2 := Aside0.mk (hK2.bt.trans HBT.out)
          have BN2 := Aside0.mk (hK2.bn.trans HBN.out)
          have T2 := Aside0.mk (HT.out.stay hK2.below)
          have TN := Aside0.mk (show t ≠ Bn by omega)
          have c0 : W2.cell? ⟨Bt,0,none⟩ = some (.pointer (some ⟨t,0,none⟩)) := blk_cell BT2.out 0
          have c1 : W2.cell? ⟨Bn,0,none⟩ = some (.string x) := blk_cell BN2.out 0
          have c2 : W2.cell? ⟨t,0,none⟩ = some (.map (some b)) := blk_cell A2.out.blk 0
          have z0 : ∀ o,W2.frozen? ⟨Bn,o,none⟩ = false := fun o => blk_frozen BN2.out o
          have l0 := (A2.out.below (below_drew (Below.refl _ _))).look x HX.out.2
          have l1 := A2.out.look x HX.out.2
          rw [hg] at l0 l1
          clear hg hA hJ2 hK2 HT HBT HBN HJ b0 ht hb
          refine wpIn_wide.2 ?_
          go_region
          have BNE := Aside0.mk (show ((W2.setCell ⟨Bn,0,none⟩ (.string p)).drew).heap[Bn]? = some (.cells #[.string p] 9 (0,0)) from blk_put BN2.out 0 _ rfl)
          have BTE := Aside0.mk (show ((W2.setCell ⟨Bn,0,none⟩ (.string p)).drew).heap[Bt]? = some (.cells #[.pointer (some ⟨t,0,none⟩)] tP (0,0)) from (Below.heap_setCell W2 ⟨Bn,0,none⟩ (.string p) Bt hne).trans BT2.out)
          have HBE : Below n₀ W2 ((W2.setCell ⟨Bn,0,none⟩ (.string p)).drew) := below_drew ⟨rfl,rfl,rfl,by simp [World.setCell],fun k hk => Below.heap_setCell W2 ⟨Bn,0,none⟩ (.string p) k (show k ≠ Bn by omega)⟩
          have TE := Aside0.mk (T2.out.stay HBE)
          have JE := Aside0.mk (hJd _ _ (hJB _ _ (.string p) J2.out))
          have XE := Aside0.mk (show abv L nm = (pre ++ [x]) ++ abv L p ∧ p.size ≤ maxLen from ⟨by rw [HX.out.1,HA.out];simp,HP.out⟩)
          have M1 := leftU_eq (L := L) (blk_cell BNE.out 0)
          have M0 := leftU_eq (L := L) b1
          rw [HA.out,List.length_cons] at M0
          clear c0 c1 c2 z0 l0 l1 HBE
          generalize (W2.setCell ⟨Bn,0,none⟩ (.string p)).drew = WE at BNE BTE TE JE M1 ⊢
          go_roundw
          case rel => exact ⟨_,_,_,_,_,_,_,_,_,_,_,_,_,_,⟨pre ++ [x],p,XE,TE,BTE,BNE,JE⟩,rfl⟩
          case measure => rw [M1,M0];omega
      · go_end0
        exact ⟨⟨_,rfl⟩,.inr ⟨pre ++ [x],⟨abv L p,by rw [HX.out.1,HA.out];simp⟩,hx2⟩⟩
theorem up_seq (n Bt Bn n₀ : Nat) (v : Value) (L : List Tn) (nm : Nm) (w : World) (hs : Shallow L) (hk : ∀ p ∈ L,p.2.size ≤ maxLen) (hnm : nm.size ≤ maxLen) (hne : Bt ≠ Bn) (hN : n₀ ≤ Bn) (hT : TreeV w n₀ v L) (hn : n₀ ≤ w.heap.size)
    (hBt : w.heap[Bt]? = some (.cells #[v] tP (0,0))) (hBn : w.heap[Bn]? = some (.cells #[.string nm] 9 (0,0))) :
    SeqBox Fence.wide n Try.prog 124 #[.pointer (some ⟨Bt,0,none⟩),.pointer (some ⟨Bn,0,none⟩)] encN (KpU n₀ Bt Bn) (fun ys => ys = abv L nm) (fun pre => pre <+: abv L nm) (abv L nm).length Bn w := fun l J Jx W hW hJ hJB hY h0 =>
  up_walk n l Bt Bn n₀ (abv L nm).length v L nm hs hk hnm hne hN (Nat.le_refl _) J Jx hJB (fun s A h => hJ s A A.drew none h ⟨rfl,rfl,rfl,Nat.le_refl _,fun _ _ _ => rfl⟩ (fun r e => by cases e)) hY W (hT.stay (hW.mono hn))
    ((hW.block Bt (blk_lt hBt)).trans hBt) ((hW.block Bn (blk_lt hBn)).trans hBn) h0
end Go.Proofs.Ytcenlehfbgnphaa.Z
end
section
namespace Go.Proofs.Ytcenlehfbgnphaa.Z
set_option linter.unusedVariables false
set_option linter.unusedSimpArgs false
open Go.RowKit Go.Shelf Go.Maps Go.Proofs.YtcenlehfbgnphaaW.PrintWords Go.Proofs.YtcenlehfbgnphaaW.PrintLast Go.Proofs.YtcenlehfbgnphaaW.PrintMore Go.Proofs.Ytcenlehfbgnphaa.Cmp
attribute [local go_sem] Oper.semAt_some
theorem TreeV.ptr {w : World} {n₀ : Nat} {v : Value} {L : List Tn} (h : TreeV w n₀ v L) : v = .pointer none ∨ ∃ t : Nat,v = .pointer (some ⟨t,0,none⟩) := by
  rcases h with ⟨h,_⟩ | ⟨t,b,h,_⟩
  · exact .inl h
  · exact .inr ⟨t,h⟩
theorem kpU_b {n₀ Bt Bn : Nat} {w : World} (h1 : n₀ ≤ w.heap.size) (hBt : Bt < w.heap.size) (hBn : Bn < w.heap.size) (W : World) (l : Nat) (o o' : Obj) (hl : w.heap.size ≤ l) (h : W.heap[l]? = some o) (hc : o.isCells = false) (hw : o.isWalk = false) : KpU n₀ Bt Bn W (W.putObj l o') :=
  ⟨belowK_b h1 W l o o' hl h hc hw,World.putObj_heap_other (by omega),World.putObj_heap_other (by omega)⟩
theorem range_up {n : Nat} {g : Operand} {p : Tmp} {assign body : Code} {Q : Exit → Act → World → Prop} {a : Act} {w : World} {n₀ Bt Bn : Nat} {v : Value} {L : List Tn} {nm : Nm} (h1 : 1 ≤ n)
    (hg : a.eval g = .func (.func 124) #[] #[.pointer (some ⟨Bt,0,none⟩),.pointer (some ⟨Bn,0,none⟩)]) (hs : Shallow L) (hk : ∀ p ∈ L,p.2.size ≤ maxLen) (hnm : nm.size ≤ maxLen) (hne : Bt ≠ Bn) (hN : n₀ ≤ Bn) (hT : TreeV w n₀ v L) (hn : n₀ ≤ w.heap.size)
    (hBt : w.heap[Bt]? = some (.cells #[v] tP (0,0))) (hBn : w.heap[Bn]? = some (.cells #[.string nm] 9 (0,0)))
    (I : List Nm → World → Prop) (Ix : Code → List Nm → World → Prop) (hI : OwnFrom w.heap.size I) (hIx : ∀ c,OwnFrom w.heap.size (Ix c)) (hIB : ∀ pre A u,I pre A → I pre (A.setCell ⟨Bn,0,none⟩ u)) (h0 : I [] w) (a₁ : Nm → Act)
    (hassign : ∀ (l : Nat) (x : Nm) (W : World) (K : Act → World → Prop),K (a₁ x) W →
      assign.wpIn (Fence.wide.inRound l) (n - 1 - 1) Try.prog (Exit.then K (fun _ _ _ => False)) { tmps := ((#[p] : Array Tmp).zip (encN x)).foldl (fun t (p,v) => t.setIfInBounds p v) a.tmps,defers := [] } W)
    (hbody : ∀ (l : Nat) (pre : List Nm) (x : Nm) (W : World),I pre W → pre.length < (abv L nm).length → body.wpIn (Fence.wide.inRound l) (n - 1 - 1) Try.prog (ownPostG w.heap.size (KpU n₀ Bt Bn) I Ix (pre ++ [x]) W) (a₁ x) W)
    (hdone : ∀ (D : Nat) (W : World),w.heap.size ≤ D → I (abv L nm) W → W.heap[D]? = some (.deferred (some [])) → Q .normal { a with defers := { target := .collected D,args := #[] } :: a.defers } W)
    (hstop : ∀ (D : Nat) (c : Code) (pre : List Nm) (W : World),w.heap.size ≤ D → pre <+: abv L nm → Ix c pre W → W.heap[D]? = some (.deferred (some [])) → c.wpIn Fence.wide n Try.prog Q { a with defers := { target := .collected D,args := #[] } :: a.defers } W) :
    (Code.rangeFunc g #[p] assign body).wpIn Fence.wide n Try.prog Q a w :=
  range_box rfl h1 hg trivial (enters_of Try.func124 (by kernel_rfl) rfl) (up_seq (n - 1) Bt Bn n₀ v L nm w hs hk hnm hne hN hT hn hBt hBn) (blk_lt hBn) KpU.trans (kpU_b hn (blk_lt hBt) (blk_lt hBn)) (Below.refl _ _) (fun _ => rfl)
    I Ix hI hIx hIB h0 a₁ (fun l x W K hK => hassign l x W K hK) hbody (fun D xs W h1 h2 h3 h4 => by subst h2;exact hdone D W h1 h3 h4) hstop
theorem cells_own {W W' : World} {row : Option Nat} {k : Nat} {cs : Array Value} {q : TypeId} (hk : W.heap[k]? = some (.cells cs q (0,0))) (hg : W.grownBy W' row) {B : Nat} (hr : ∀ r,row = some r → B ≤ r ∧ ∃ o : Obj,W.heap[r]? = some o ∧ o.isCells = false) : W'.heap[k]? = some (.cells cs q (0,0)) :=
  (hg.block k (blk_lt hk) (fun e => by
    obtain ⟨_,o,ho,hc⟩ := hr k e.symm
    rw [hk] at ho
    cases ho
    cases hc)).trans hk
theorem below_setT {N : Nat} {w W : World} (h : Below N w W) {p : Addr} (hp : N ≤ p.block) (u : Value) : Below N w (W.setCell p u) :=
  ⟨h.os,h.tape,h.output,by simpa [World.setCell] using h.size,fun k hk => (Below.heap_setCell W p u k (by omega)).trans (h.block k hk)⟩
set_option maxRecDepth 100000 in
set_option maxHeartbeats 4000000 in
theorem ten_depth {w : World} {v : Value} {L : List Tn} (h : TreeV w w.heap.size v L) (hs : Shallow L) (hk : ∀ p ∈ L,p.2.size ≤ maxLen) (nm : Nm) (hn : nm.size ≤ maxLen) :
    Calls Try.prog 102 #[v,.string nm] w fun e w' => e = .returned (.int .i64 ((abv L nm).length : Int)) ∧ Below w.heap.size w w' := by
  have HT := Aside0.mk h
  have hp := h.ptr
  have UP := Aside0.mk (fun w' => ten_up v hp nm w')
  obtain ⟨q,hq⟩ : ∃ q,v = .pointer q := by rcases hp with h | ⟨t,h⟩ <;> exact ⟨_,h⟩
  subst hq
  have HL := Aside0.mk (abv_len hs nm)
  have hdd : ∀ k : Nat,(Fence.wide.depth.isSome = true → 1 ≤ k) := fun k h => by cases h
  have hwU : Fence.wide.fn 117 := trivial
  clear h hp
  refine (callsIn_wide (n := 3)).1 ?_
  refine callsIn_of_wp_marks Try.func102 rfl trivial ?_ rfl
  simp only [Try.ntmps102,List.size_toArray,List.length_cons,List.length_nil,Nat.reduceAdd,Nat.reduceSub,Array.replicate_succ,Array.replicate_zero,List.push_toArray,List.append_toArray,List.nil_append,List.cons_append]
  gi_wp2_with ((try refine ⟨hdd _,?_⟩);gi_at_call 117;refine (callsIn_wide.2 (UP.out _)).mono ?_;rintro e w' ⟨rfl,rfl⟩)
  obtain ⟨W0,hW0⟩ : ∃ W0,(((w.alloc (.cells #[.int .i64 0] 3)).alloc (.cells #[.pointer q] tP)).alloc (.cells #[.string nm] 9)) = W0 := ⟨_,rfl⟩
  have sz : W0.heap.size = w.heap.size + 3 := by rw [← hW0];simp
  have hB0 : Below w.heap.size w W0 := by rw [← hW0];exact below_alloc (below_alloc (below_alloc (Below.refl _ _) _) _) _
  have k0 : W0.heap[w.heap.size]? = some (.cells #[.int .i64 0] 3 (0,0)) := by rw [← hW0];exact blk_alloc (blk_alloc (blk_new w _) _) _
  have k1 : W0.heap[w.heap.size + 1]? = some (.cells #[.pointer q] tP (0,0)) := by
    rw [← hW0]
    have := blk_new (w.alloc (.cells #[.int .i64 0] 3)) (.cells #[.pointer q] tP)
    rw [World.size_alloc] at this
    exact blk_alloc this _
  have k2 : W0.heap[w.heap.size + 1 + 1]? = some (.cells #[.string nm] 9 (0,0)) := by
    rw [← hW0]
    have := blk_new ((w.alloc (.cells #[.int .i64 0] 3)).alloc (.cells #[.pointer q] tP)) (.cells #[.string nm] 9)
    rw [World.size_alloc,World.size_alloc] at this
    exact this
  rw [hW0]
  have T0 := HT.out.stay hB0
  have HB0 := Aside0.mk hB0
  clear hW0
  refine range_up (n := 3) (n₀ := w.heap.size) (v := .pointer q) (L := L) (nm := nm) (by omega) rfl hs hk hn (by omega) (by omega) T0 (by omega) k1 k2
    (fun pre W => W.heap[w.heap.size]? = some (.cells #[.int .i64 (pre.length : Int)] 3 (0,0)) ∧ Below w.heap.size w W) (fun _ _ _ => False)
    (fun s A B row hs hg hr => ⟨cells_own hs.1 hg hr,hs.2.grown hg hs.2.size (fun k e => by have := (hr k e).1;omega)⟩) (fun _ _ _ _ _ hs _ _ => hs)
    (fun pre A u hs => ⟨(Below.heap_setCell A ⟨w.heap.size + 1 + 1,0,none⟩ u w.heap.size (show w.heap.size ≠ w.heap.size + 1 + 1 by omega)).trans hs.1,below_setT hs.2 (p := ⟨w.heap.size + 1 + 1,0,none⟩) (show w.heap.size ≤ w.heap.size + 1 + 1 by omega) u⟩)
    ⟨k0,hB0⟩
    (fun x => { tmps := #[.pointer q,.string nm,undef,undef,.int .i64 0,.pointer (some ⟨w.heap.size,0,none⟩),.pointer q,.string nm,.func (.func 124) #[] #[.pointer (some ⟨w.heap.size + 1,0,none⟩),.pointer (some ⟨w.heap.size + 1 + 1,0,none⟩)],.string x,undef,undef,undef],defers := [] }) ?assign ?body ?done ?stop
  case assign =>
    intro l x W K hK
    simp only [encN]
    gi_wp2
    first | exact hK | simpa using hK
  case body =>
    rintro l pre x W ⟨hc,hB⟩ hlt
    have c0 := blk_cell hc 0
    have f0 := fun o => blk_frozen hc o
    have HLT := Aside0.mk hlt
    have HC := Aside0.mk hc
    have HB := Aside0.mk hB
    clear hc hB hlt
    have hlt : (pre.length : Int) < 1000 := by have := HLT.out;have := HL.out;omega
    gi_wp2
    have e1 : ((pre ++ [x]).length : Int) = (pre.length : Int) + 1 := by rw [List.length_append,List.length_singleton];omega
    refine ⟨(KeepsOthers.setCell _ _ _).from _,⟨below_setT (Below.refl _ _) (p := ⟨w.heap.size,0,none⟩) (Nat.le_refl _) _,Below.heap_setCell W ⟨w.heap.size,0,none⟩ _ _ (show w.heap.size + 1 ≠ w.heap.size by omega),Below.heap_setCell W ⟨w.heap.size,0,none⟩ _ _ (show w.heap.size + 1 + 1 ≠ w.heap.size by omega)⟩,?_,below_setT HB.out (p := ⟨w.heap.size,0,none⟩) (Nat.le_refl _) _⟩
    rw [e1]
    exact blk_put HC.out 0 _ rfl
  case done =>
    rintro D W hD ⟨hc,hB⟩ hK
    have c0 := blk_cell hc 0
    have HB := Aside0.mk hB
    have HK := Aside0.mk hK
    clear hc hB hK
    gi_wp2
    refine ⟨by simp,.inl ⟨_,_,rfl,run_takeDeferred HK.out,?_⟩⟩
    exact ⟨_,results_tmp rfl _ _ _,rfl,HB.out.trans (belowK_b (w := w) (Nat.le_refl _) W D _ _ (by omega) HK.out rfl rfl)⟩
  case stop =>
    rintro D c pre W _ _ h _
    exact h.elim
theorem eqS (x y : Nm) : (ByteArray.toList x == ByteArray.toList y) = decide (x = y) := by
  rw [ByteArray.toList_eq,ByteArray.toList_eq]
  by_cases h : x = y
  · subst h;simp
  · rw [decide_eq_false h]
    apply Bool.eq_false_iff.2
    intro e
    exact h (lk_inj (by unfold lk;rw [eq_of_beq e]))
set_option maxRecDepth 100000 in
set_option maxHeartbeats 4000000 in
theorem ten_below {w : World} {v : Value} {L : List Tn} (h : TreeV w w.heap.size v L) (hs : Shallow L) (hk : ∀ p ∈ L,p.2.size ≤ maxLen) (nm ab : Nm) (hn : nm.size ≤ maxLen) :
    Calls Try.prog 107 #[v,.string nm,.string ab] w fun e w' => e = .returned (.bool (hasN (abv L nm) ab)) ∧ Below w.heap.size w w' := by
  have HT := Aside0.mk h
  have hp := h.ptr
  have UP := Aside0.mk (fun w' => ten_up v hp nm w')
  obtain ⟨q,hq⟩ : ∃ q,v = .pointer q := by rcases hp with h | ⟨t,h⟩ <;> exact ⟨_,h⟩
  subst hq
  have hdd : ∀ k : Nat,(Fence.wide.depth.isSome = true → 1 ≤ k) := fun k h => by cases h
  have hwU : Fence.wide.fn 117 := trivial
  clear h hp
  refine (callsIn_wide (n := 3)).1 ?_
  refine callsIn_of_wp_marks Try.func107 rfl trivial ?_ rfl
  simp only [Try.ntmps107,List.size_toArray,List.length_cons,List.length_nil,Nat.reduceAdd,Nat.reduceSub,Array.replicate_succ,Array.replicate_zero,List.push_toArray,List.append_toArray,List.nil_append,List.cons_append]
  gi_wp2_with ((try refine ⟨hdd _,?_⟩);gi_at_call 117;refine (callsIn_wide.2 (UP.out _)).mono ?_;rintro e w' ⟨rfl,rfl⟩)
  obtain ⟨W0,hW0⟩ : ∃ W0,((((w.alloc (.cells #[.string ab] 9)).alloc (.cells #[.bool false] 4)).alloc (.cells #[.pointer q] tP)).alloc (.cells #[.string nm] 9)) = W0 := ⟨_,rfl⟩
  have sz : W0.heap.size = w.heap.size + 4 := by rw [← hW0];simp
  have hB0 : Below w.heap.size w W0 := by rw [← hW0];exact below_alloc (below_alloc (below_alloc (below_alloc (Below.refl _ _) _) _) _) _
  have k0 : W0.heap[w.heap.size]? = some (.cells #[.string ab] 9 (0,0)) := by rw [← hW0];exact blk_alloc (blk_alloc (blk_alloc (blk_new w _) _) _) _
  have k3 : W0.heap[w.heap.size + 1]? = some (.cells #[.bool false] 4 (0,0)) := by
    rw [← hW0]
    have := blk_new (w.alloc (.cells #[.string ab] 9)) (.cells #[.bool false] 4)
    rw [World.size_alloc] at this
    exact blk_alloc (blk_alloc this _) _
  have k1 : W0.heap[w.heap.size + 1 + 1]? = some (.cells #[.pointer q] tP (0,0)) := by
    rw [← hW0]
    have := blk_new ((w.alloc (.cells #[.string ab] 9)).alloc (.cells #[.bool false] 4)) (.cells #[.pointer q] tP)
    rw [World.size_alloc,World.size_alloc] at this
    exact blk_alloc this _
  have k2 : W0.heap[w.heap.size + 1 + 1 + 1]? = some (.cells #[.string nm] 9 (0,0)) := by
    rw [← hW0]
    have := blk_new (((w.alloc (.cells #[.string ab] 9)).alloc (.cells #[.bool false] 4)).alloc (.cells #[.pointer q] tP)) (.cells #[.string nm] 9)
    rw [World.size_alloc,World.size_alloc,World.size_alloc] at this
    exact this
  rw [hW0]
  have T0 := HT.out.stay hB0
  have HB0 := Aside0.mk hB0
  clear hW0
  refine range_up (n := 3) (n₀ := w.heap.size) (v := .pointer q) (L := L) (nm := nm) (by omega) rfl hs hk hn (by omega) (by omega) T0 (by omega) k1 k2
    (fun pre W => W.heap[w.heap.size]? = some (.cells #[.string ab] 9 (0,0)) ∧ W.heap[w.heap.size + 1]? = some (.cells #[.bool false] 4 (0,0)) ∧ Below w.heap.size w W ∧ hasN pre ab = false)
    (fun c pre W => c = .ret ∧ W.heap[w.heap.size + 1]? = some (.cells #[.bool true] 4 (0,0)) ∧ Below w.heap.size w W ∧ hasN pre ab = true)
    (fun s A B row hs hg hr => ⟨cells_own hs.1 hg hr,cells_own hs.2.1 hg hr,hs.2.2.1.grown hg hs.2.2.1.size (fun k e => by have := (hr k e).1;omega),hs.2.2.2⟩)
    (fun c s A B row hs hg hr => ⟨hs.1,cells_own hs.2.1 hg hr,hs.2.2.1.grown hg hs.2.2.1.size (fun k e => by have := (hr k e).1;omega),hs.2.2.2⟩)
    (fun pre A u hs => ⟨(Below.heap_setCell A ⟨w.heap.size + 1 + 1 + 1,0,none⟩ u w.heap.size (show w.heap.size ≠ w.heap.size + 1 + 1 + 1 by omega)).trans hs.1,(Below.heap_setCell A ⟨w.heap.size + 1 + 1 + 1,0,none⟩ u (w.heap.size + 1) (show w.heap.size + 1 ≠ w.heap.size + 1 + 1 + 1 by omega)).trans hs.2.1,below_setT hs.2.2.1 (p := ⟨w.heap.size + 1 + 1 + 1,0,none⟩) (show w.heap.size ≤ w.heap.size + 1 + 1 + 1 by omega) u,hs.2.2.2⟩)
    ⟨k0,k3,hB0,rfl⟩
    (fun x => { tmps := #[.pointer q,.string nm,.string ab,undef,undef,.pointer (some ⟨w.heap.size,0,none⟩),.pointer (some ⟨w.heap.size + 1,0,none⟩),.string x,.pointer q,.string nm,.func (.func 124) #[] #[.pointer (some ⟨w.heap.size + 1 + 1,0,none⟩),.pointer (some ⟨w.heap.size + 1 + 1 + 1,0,none⟩)],.string x,undef,undef,undef],defers := [] }) ?assign ?body ?done ?stop
  case assign =>
    intro l x W K hK
    simp only [encN]
    gi_wp2
    first | exact hK | simpa using hK
  case body =>
    rintro l pre x W ⟨hc,hd,hB,hno⟩ hlt
    have c0 := blk_cell hc 0
    have d0 := blk_cell hd 0
    have f0 := fun o => blk_frozen hd o
    have HC := Aside0.mk hc
    have HD := Aside0.mk hd
    have HB := Aside0.mk hB
    have HNO := Aside0.mk hno
    clear hc hB hlt hd hno
    have hh : hasN (pre ++ [x]) ab = decide (x = ab) := by
      have := HNO.out
      unfold hasN at this ⊢
      rw [List.any_append,this]
      simp
    have HH := Aside0.mk hh
    clear hh
    by_cases hx : x = ab
    · have q0 : (ByteArray.toList x == ByteArray.toList ab) = true := by rw [eqS,decide_eq_true hx]
      have HX := Aside0.mk hx
      clear hx
      gi_wp2
      exact ⟨(KeepsOthers.setCell _ _ _).from _,rfl,blk_put HD.out 0 _ rfl,below_setT HB.out (p := ⟨w.heap.size + 1,0,none⟩) (show w.heap.size ≤ w.heap.size + 1 by omega) _,by rw [HH.out,decide_eq_true HX.out]⟩
    · have q0 : (ByteArray.toList x == ByteArray.toList ab) = false := by rw [eqS,decide_eq_false hx]
      have HX := Aside0.mk hx
      clear hx
      gi_wp2
      exact ⟨KeepsFrom.refl _ _,⟨Below.refl _ _,rfl,rfl⟩,HC.out,HD.out,HB.out,by rw [HH.out,decide_eq_false HX.out]⟩
  case done =>
    rintro D W hD ⟨hc,hd,hB,hno⟩ hK
    have d0 := blk_cell hd 0
    have f0 := fun o => blk_frozen hd o
    have HK := Aside0.mk hK
    have HB := Aside0.mk hB
    have HD := Aside0.mk hd
    have HNO := Aside0.mk hno
    clear hc hd hB hno hK
    gi_wp2
    refine ⟨by simp,.inl ⟨_,_,rfl,run_takeDeferred ((Below.heap_setCell W ⟨w.heap.size + 1,0,none⟩ (.bool false) D (show D ≠ w.heap.size + 1 by omega)).trans HK.out),?_⟩⟩
    have hK2 := (Below.heap_setCell W ⟨w.heap.size + 1,0,none⟩ (.bool false) D (show D ≠ w.heap.size + 1 by omega)).trans HK.out
    have hE : ((W.setCell ⟨w.heap.size + 1,0,none⟩ (.bool false)).putObj D (Obj.deferred none)).heap[w.heap.size + 1]? = some (.cells #[.bool false] 4 (0,0)) := (World.putObj_heap_other (show w.heap.size + 1 ≠ D by omega)).trans (blk_put HD.out 0 _ rfl)
    have hc5 := blk_cell hE 0
    simp only [List.getElem?_toArray,List.getElem?_cons_zero] at hc5
    refine ⟨.bool false,?_,by rw [HNO.out],?_⟩
    · simp [results,Try.f107,go_sem,hc5]
    · exact (below_setT HB.out (p := ⟨w.heap.size + 1,0,none⟩) (show w.heap.size ≤ w.heap.size + 1 by omega) _).trans (belowK_b (w := w) (Nat.le_refl _) _ D _ _ (by omega) hK2 rfl rfl)
  case stop =>
    rintro D c pre W hD hpre ⟨rfl,hd,hB,hyes⟩ hK
    have d0 := blk_cell hd 0
    have HK := Aside0.mk hK
    have HB := Aside0.mk hB
    have HD := Aside0.mk hd
    have HYE := Aside0.mk hyes
    have HPR := Aside0.mk hpre
    clear hd hB hyes hK hpre
    gi_wp2
    refine ⟨by simp,.inl ⟨_,_,rfl,run_takeDeferred HK.out,?_⟩⟩
    have hE : (W.putObj D (Obj.deferred none)).heap[w.heap.size + 1]? = some (.cells #[.bool true] 4 (0,0)) := (World.putObj_heap_other (show w.heap.size + 1 ≠ D by omega)).trans HD.out
    have hc5 := blk_cell hE 0
    simp only [List.getElem?_toArray,List.getElem?_cons_zero] at hc5
    have hin : hasN (abv L nm) ab = true := by
      obtain ⟨r,hr⟩ := HPR.out
      rw [← hr]
      have := HYE.out
      unfold hasN at this ⊢
      rw [List.any_append,this]
      rfl
    refine ⟨.bool true,?_,by rw [hin],?_⟩
    · simp [results,Try.f107,go_sem,hc5]
    · exact HB.out.trans (belowK_b (w := w) (Nat.le_refl _) _ D _ _ (by omega) HK.out rfl rfl)
end Go.Proofs.Ytcenlehfbgnphaa.Z
end
section
namespace Go.Proofs.Ytcenlehfbgnphaa.Z
set_option linter.unusedVariables false
set_option linter.unusedSimpArgs false
open Go.RowKit Go.Shelf Go.Maps Go.Proofs.YtcenlehfbgnphaaW.PrintWords Go.Proofs.YtcenlehfbgnphaaW.PrintLast Go.Proofs.YtcenlehfbgnphaaW.PrintMore Go.Proofs.Ytcenlehfbgnphaa.Cmp
attribute [local go_sem] Oper.semAt_some
abbrev tS : Nat := 124
def strV (x : Nm) : Value := .string x
def SRow (w : World) (base : Nat) (v : Value) (l : List Nm) : Prop := w.ownsRow base 9 1 v l.length (l.map strV)
theorem SRow.reads {w : World} {base : Nat} {v : Value} {l : List Nm} (h : SRow w base v l) : ∃ A c,v = .slice A l.length c ∧ l.length ≤ c ∧ Kd.C Kd.string w A l.length l := by
  obtain ⟨h1,h2⟩ := h
  rcases h2 with ⟨rfl,h2⟩ | ⟨g,cap,cur,rfl,_,hb,hle,hm,hs,ht⟩
  · have : l = [] := List.length_eq_zero_iff.1 h2
    subst this
    exact ⟨none,0,rfl,Nat.le_refl _,Kd.C_nil _ _⟩
  · refine ⟨_,_,rfl,hle,rfl,by unfold maxLen at hm;omega,fun _ => ⟨_,rfl,fun j p hp => ⟨[.string p],rfl,rfl,fun i u hu => ?_⟩⟩⟩
    cases i with
    | succ i => simp at hu
    | zero =>
      simp only [List.getElem?_cons_zero,Option.some.injEq] at hu
      subst hu
      have hj : j < l.length := (List.getElem?_eq_some_iff.1 hp).1
      rw [Addr.add_lit]
      have e : (0 + (j * Kd.string.sz + 0)) = j := by show 0 + (j * 1 + 0) = j;omega
      rw [e,blk_cell hb j]
      have h3 : (cur.toList.take (l.length * 1))[j]? = (l.map strV)[j]? := by rw [ht]
      rw [List.getElem?_take_of_lt (by omega),List.getElem?_map,hp] at h3
      simpa [strV] using h3
theorem SRow.lt {w : World} {base : Nat} {v : Value} {l : List Nm} (h : SRow w base v l) : ∀ k,v.ownBlock = some k → base ≤ k := by
  intro k hk
  rcases h.2 with ⟨rfl,_⟩ | ⟨g,cap,cur,rfl,hb,_⟩
  · simp [Value.ownBlock] at hk
  · have : g = k := by simpa [Value.ownBlock] using hk
    omega
theorem info9 : (Try.prog.info? 9).map (fun i => (i.zero,i.size,i.bytes)) = some (some (.string ⟨#[]⟩),1,16) := by kernel_rfl
theorem SRow.set {w : World} {base : Nat} {v : Value} {l : List Nm} (h : SRow w base v l) {k : Nat} (hk : k < base) (u : Value) : SRow (w.setCell ⟨k,0,none⟩ u) base v l :=
  World.ownsRow.kept h (grownBy_setCell' w k u) (by
    cases hv : v.ownBlock with
    | none => exact .inl rfl
    | some j => exact .inr (fun e => by have := h.lt j hv;injection e with e;omega))
end Go.Proofs.Ytcenlehfbgnphaa.Z
end
section
namespace Go.Proofs
open Go.Shelf
def Try.lays190_ren : Go.Shelf.Ren := ⟨fun | 190 => 113 | 125 => 122 | 258 => 121 | 128 => 135 | 129 => 136 | 302 => 126 | 303 => 127 | 304 => 128 | 305 => 129 | 306 => 130 | 307 => 131 | 308 => 132 | 309 => 133 | 310 => 134 | 333 => 138 | 329 => 139 | 330 => 140 | 334 => 141 | 335 => 142 | 336 => 143 | 344 => 144 | n => n,fun | 31 => 124 | 9 => 9 | 3 => 3 | 46 => 94 | 0 => 0 | 51 => 160 | 53 => 96 | 4 => 4 | 183 => 153 | 182 => 152 | 131 => 157 | 5 => 5 | 218 => 162 | 222 => 166 | 228 => 168 | 229 => 169 | n => n,fun | n => n⟩
theorem Try.lays190 : Go.Proofs.Lays.n190 Try.prog Try.lays190_ren := {
  mixed := by kernel_rfl
  f125 := Try.func122.trans (congrArg some (by kernel_rfl))
  f128 := Try.func135.trans (congrArg some (by kernel_rfl))
  f129 := Try.func136.trans (congrArg some (by kernel_rfl))
  f190 := Try.func113.trans (congrArg some (by kernel_rfl))
  f258 := Try.func121.trans (congrArg some (by kernel_rfl))
  f302 := Try.func126.trans (congrArg some (by kernel_rfl))
  f303 := Try.func127.trans (congrArg some (by kernel_rfl))
  f304 := Try.func128.trans (congrArg some (by kernel_rfl))
  f305 := Try.func129.trans (congrArg some (by kernel_rfl))
  f306 := Try.func130.trans (congrArg some (by kernel_rfl))
  f307 := Try.func131.trans (congrArg some (by kernel_rfl))
  f308 := Try.func132.trans (congrArg some (by kernel_rfl))
  f309 := Try.func133.trans (congrArg some (by kernel_rfl))
  f310 := Try.func134.trans (congrArg some (by kernel_rfl))
  f329 := Try.func139.trans (congrArg some (by kernel_rfl))
  f330 := Try.func140.trans (congrArg some (by kernel_rfl))
  f333 := Try.func138.trans (congrArg some (by kernel_rfl))
  f334 := Try.func141.trans (congrArg some (by kernel_rfl))
  f335 := Try.func142.trans (congrArg some (by kernel_rfl))
  f336 := Try.func143.trans (congrArg some (by kernel_rfl))
  f344 := Try.func144.trans (congrArg some (by kernel_rfl))
  t0 := Try.underlying0
  a0 := Try.isAgg0
  z0 := Try.sizeOf0
  v0 := Try.zeroValue0
  t3 := Try.underlying3
  a3 := Try.isAgg3
  z3 := Try.sizeOf3
  v3 := Try.zeroValue3
  t4 := Try.underlying4
  a4 := Try.isAgg4
  z4 := Try.sizeOf4
  v4 := Try.zeroValue4
  t5 := Try.underlying5
  a5 := Try.isAgg5
  z5 := Try.sizeOf5
  v5 := Try.zeroValue5
  t9 := Try.underlying9
  a9 := Try.isAgg9
  z9 := Try.sizeOf9
  v9 := Try.zeroValue9
  t31 := Try.underlying124
  a31 := Try.isAgg124
  z31 := Try.sizeOf124
  v31 := Try.zeroValue124
  t46 := Try.underlying94
  a46 := Try.isAgg94
  z46 := Try.sizeOf94
  v46 := Try.zeroValue94
  t51 := Try.underlying160
  a51 := Try.isAgg160
  z51 := Try.sizeOf160
  v51 := Try.zeroValue160
  t53 := Try.underlying96
  a53 := Try.isAgg96
  z53 := Try.sizeOf96
  v53 := Try.zeroValue96
  t131 := Try.underlying157
  a131 := Try.isAgg157
  z131 := Try.sizeOf157
  v131 := Try.zeroValue157
  t182 := Try.underlying152
  a182 := Try.isAgg152
  z182 := Try.sizeOf152
  v182 := Try.zeroValue152
  t183 := Try.underlying153
  a183 := Try.isAgg153
  z183 := Try.sizeOf153
  v183 := Try.zeroValue153
  t218 := Try.underlying162
  a218 := Try.isAgg162
  z218 := Try.sizeOf162
  v218 := Try.zeroValue162
  t222 := Try.underlying166
  a222 := Try.isAgg166
  z222 := Try.sizeOf166
  v222 := Try.zeroValue166
  t228 := Try.underlying168
  a228 := Try.isAgg168
  z228 := Try.sizeOf168
  v228 := Try.zeroValue168
  t229 := Try.underlying169
  a229 := Try.isAgg169
  z229 := Try.sizeOf169
  v229 := Try.zeroValue169 }
open Go.Sort Go.RowKit in
theorem Try.slices_Sort_string (blk off cap : Nat) (ss : List (List UInt8)) (w : World) (hH : Holds encStr w blk off ss.toArray) (hblk : blk < w.heap.size) (hsz : ss.length < 4611686018427387904) :
    Calls Try.prog 113 #[.slice (some ⟨blk,off,none⟩) ss.length cap] w fun e w' =>
      e = .returned (.tuple #[]) ∧ ∃ n os,w' = grow (putRow encStr (Sort.ahead w n) blk off (ss.mergeSort fun x y => decide (x ≤ y)).toArray) os := Any.slices_Sort_string Try.lays190 blk off cap ss w hH hblk hsz
open Go.RowKit Go.Sort in
theorem Try.slices_Sort_string_none (p : Option Addr) (cap : Nat) (w : World) :
    Calls Try.prog 113 #[.slice p 0 cap] w fun e w' => e = .returned (.tuple #[]) ∧ w' = w := Any.slices_Sort_string_none Try.lays190 p cap w
end Go.Proofs
end
section
namespace Go.Proofs.Ytcenlehfbgnphaa.Z
set_option linter.unusedVariables false
set_option linter.unusedSimpArgs false
open Go.RowKit Go.Shelf Go.Maps Go.Proofs.YtcenlehfbgnphaaW.PrintWords Go.Proofs.YtcenlehfbgnphaaW.PrintLast Go.Proofs.YtcenlehfbgnphaaW.PrintMore Go.Proofs.Ytcenlehfbgnphaa.Cmp
def toB (s : Nm) : List UInt8 := s.data.toList
def ofB (b : List UInt8) : Nm := ⟨b.toArray⟩
theorem of_to (s : Nm) : ofB (toB s) = s := by unfold ofB toB;cases s;simp
theorem to_of (b : List UInt8) : toB (ofB b) = b := by unfold ofB toB;simp
theorem enc_to (s : Nm) : encStr (toB s) = strV s := by unfold encStr strV toB;cases s;simp
def sortN (l : List Nm) : List Nm := ((l.map toB).mergeSort leB).map ofB
theorem sortN_len (l : List Nm) : (sortN l).length = l.length := by unfold sortN;simp
theorem map_to_of (l : List (List UInt8)) : (l.map ofB).map toB = l := by rw [List.map_map];exact (List.map_congr_left (fun x _ => to_of x)).trans (List.map_id l)
theorem map_of_to (l : List Nm) : (l.map toB).map ofB = l := by rw [List.map_map];exact (List.map_congr_left (fun x _ => of_to x)).trans (List.map_id l)
theorem sortN_eq {l l' : List Nm} (hp : l.Perm l') (hs : l'.Pairwise (fun a b => toB a ≤ toB b)) : sortN l = l' := by
  have tr : ∀ a b c : List UInt8,leB a b = true → leB b c = true → leB a c = true := fun a b c h1 h2 => by simp only [leB,decide_eq_true_eq] at *;exact List.le_trans h1 h2
  have tot : ∀ a b : List UInt8,(leB a b || leB b a) = true := fun a b => by simp only [leB,Bool.or_eq_true,decide_eq_true_eq];exact List.le_total a b
  have h1 : (l.map toB).mergeSort leB = l'.map toB := by
    refine List.Perm.eq_of_pairwise (le := fun a b => leB a b = true) (fun a b _ _ h1 h2 => ?_) (List.pairwise_mergeSort tr tot (l.map toB)) ?_ ((List.mergeSort_perm (l.map toB) leB).trans (hp.map toB))
    · simp only [leB,decide_eq_true_eq] at h1 h2
      exact List.le_antisymm h1 h2
    · exact List.pairwise_map.2 (hs.imp (fun h => by simpa [leB] using h))
  unfold sortN
  rw [h1,map_of_to]
theorem before_lt : ∀ a b : List UInt8,bytesBefore a b = true → a < b
  | [],[],h => by cases h
  | [],b :: s,_ => List.nil_lt_cons b s
  | a :: r,[],h => by cases h
  | a :: r,b :: s,h => by
    rw [List.cons_lt_cons_iff]
    unfold bytesBefore at h
    rw [Bool.or_eq_true,Bool.and_eq_true] at h
    rcases h with h | ⟨h1,h2⟩
    · exact .inl (of_decide_eq_true h)
    · exact .inr ⟨eq_of_beq h1,before_lt r s h2⟩
theorem TreeAt.rise {w : World} {t b : Nat} {L : List Tn} (h : TreeAt w t b L) : L.Pairwise (fun p q => toB p.1 < toB q.1) := by
  obtain ⟨es,h1,h2,_⟩ := h.map.canon lawS
  unfold mapD at h1
  injection h1 with h1
  rw [← h1] at h2
  exact (List.pairwise_map.1 h2).imp (fun h => before_lt _ _ h)
theorem TreeAt.names {w : World} {t b : Nat} {L : List Tn} (h : TreeAt w t b L) : (L.map Prod.fst).Nodup :=
  List.pairwise_map.2 (h.rise.imp (fun {p q} h e => by rw [e] at h;exact List.lt_irrefl _ h))
theorem undL_rise {w : World} {t b : Nat} {L : List Tn} (h : TreeAt w t b L) (n : Nm) : (undL L n).Pairwise (fun a b => toB a ≤ toB b) := by
  unfold undL
  refine List.Pairwise.filter _ (List.pairwise_map.2 (h.rise.imp (fun h => List.le_of_lt h)))
set_option maxHeartbeats 2000000 in
set_option maxRecDepth 100000 in
theorem srow_sort {w : World} {base : Nat} {v : Value} {l : List Nm} (h : SRow w base v l) (hl : l.length ≤ 1000000) :
    Calls Try.prog 113 #[v] w fun e w' => e = .returned (.tuple #[]) ∧ SRow w' base v (sortN l) ∧ w.grownBy w' v.ownBlock := by
  obtain ⟨h1,h2⟩ := h
  rcases h2 with ⟨rfl,h2⟩ | ⟨g,cap,cur,rfl,hb,hg,hle,hm,hs,ht⟩
  · have : l = [] := List.length_eq_zero_iff.1 h2
    subst this
    refine (Try.slices_Sort_string_none none 0 w).mono ?_
    rintro e w' ⟨rfl,rfl⟩
    exact ⟨rfl,⟨by simp [sortN],.inl ⟨rfl,by simp [sortN]⟩⟩,⟨rfl,rfl,rfl,Nat.le_refl _,fun _ _ _ => rfl⟩⟩
  · have e0 : (l.map toB).length = l.length := List.length_map _
    have ht2 : cur.toList.take (l.map toB).length = (l.map toB).map encStr := by
      rw [e0,List.map_map]
      rw [Nat.mul_one] at ht
      exact ht.trans (List.map_congr_left (fun x _ => (enc_to x).symm))
    have hc := Try.slices_Sort_string g 0 cap (l.map toB) w (holds_of_block hg ht2) (blk_lt hg) (by rw [e0];omega)
    rw [e0] at hc
    refine hc.mono ?_
    rintro e w' ⟨rfl,n,os,rfl⟩
    refine ⟨rfl,?_,grownBy_sorted _⟩
    have ho := ownsRow_sorted (base := base) (n := n) (os := os) (e := 9) (ss := l.map toB) (ts := (l.map toB).mergeSort leB) (by simp) hb hg (by rw [e0];exact hle) hm hs
    unfold SRow
    rw [sortN_len]
    rw [e0] at ho
    have e1 : (sortN l).map strV = ((l.map toB).mergeSort leB).map encStr := by
      unfold sortN
      rw [List.map_map]
      exact List.map_congr_left (fun x _ => by show strV (ofB x) = encStr x;rw [← enc_to,to_of])
    rw [e1]
    exact ho
end Go.Proofs.Ytcenlehfbgnphaa.Z
end
section
namespace Go.Proofs.Ytcenlehfbgnphaa.Z
set_option linter.unusedVariables false
set_option linter.unusedSimpArgs false
open Go.RowKit Go.Shelf Go.Maps Go.Proofs.YtcenlehfbgnphaaW.PrintWords Go.Proofs.YtcenlehfbgnphaaW.PrintLast Go.Proofs.YtcenlehfbgnphaaW.PrintMore Go.Proofs.Ytcenlehfbgnphaa.Cmp
noncomputable abbrev RvS : Value → Option (DataW Unit × List MemPlace) := plainElem Try.prog 9
theorem invKS : ∀ key kl,keyOf Try.prog 9 key = some kl → ∃ x : Nm,key = .string x := fun key kl h => by
  obtain ⟨x,hx,_⟩ := Maps.keyOf_str Try.underlying9 h
  exact ⟨_,hx⟩
theorem invVS : ∀ (v : Value) (y : DataW Unit × List MemPlace),RvS v = some y → ∃ c : Nm,v = .string c := fun v y h => by
  obtain ⟨s,rfl,_⟩ := plainElem_string_inv Try.underlying9 h
  exact ⟨s,rfl⟩
theorem keyS {x : Nm} {kl : Lit} (h : keyOf Try.prog 9 (.string x) = some kl) : kl = .string (toB x) ∧ x.size ≤ maxLen := by
  obtain ⟨y,hy,rfl,hl⟩ := Maps.keyOf_str Try.underlying9 h
  have : y = toB x := by
    have h1 : encStr (toB x) = encStr y := by rw [enc_to];exact hy
    exact (encStr_inj h1).symm
  subst this
  refine ⟨rfl,?_⟩
  unfold toB at hl
  rw [Array.length_toList] at hl
  exact hl
theorem strKeys_mapD (L : List Tn) : strKeys (mapD L) = (L.map Prod.fst).map toB := by
  show (L.map fun p => (lk p.1,(DataW.lit (lk p.2) : DataW Unit))).map (fun p => strOf p.1) = _
  rw [List.map_map,List.map_map]
  rfl
theorem TreeAt.grown {w w1 : World} {t b : Nat} {L : List Tn} {row : Option Nat} (h : TreeAt w t b L) (hg : w.grownBy w1 row) (ht : some t ≠ row) (hb : some b ≠ row) : TreeAt w1 t b L :=
  ⟨(hg.block t (blk_lt h.blk) ht).trans h.blk,h.map.kept hg hb⟩
theorem below_none {w w1 : World} (h : Below w.heap.size w w1) : w.grownBy w1 none := ⟨h.os,h.tape,h.output,h.size,fun k hk _ => h.block k hk⟩
structure UnderR (w wr : World) (b t : Nat) (L : List Tn) (nm : Nm) (ov : Value) (left : Lit → Bool) (cnt : Nat) (ms : List Nm) : Prop where
  rg : wr.ranges Try.prog 9 RvS b w.heap.size L.length (mapD L) left cnt
  col : Collected (mapD L) left (ms.map toB)
  row : SRow wr w.heap.size ov (ms.filter fun x => hasN (abv L x) nm)
  below : Below w.heap.size w wr
  tree : TreeAt wr t b L
  le : w.heap.size ≤ wr.heap.size
  cnt : ms.length + cnt ≤ L.length
theorem size_mapD (L : List Tn) : Maps.size (mapD L) = L.length := by
  unfold mapD
  rw [size_eq,List.length_map]
set_option maxHeartbeats 8000000 in
set_option maxRecDepth 100000 in
theorem ten_under {w : World} {t b : Nat} {L : List Tn} (h : TreeAt w t b L) (hs : Shallow L) (hk : ∀ p ∈ L,p.2.size ≤ maxLen) (hL : L.length ≤ 1000) (nm : Nm) :
    Calls Try.prog 92 #[.pointer (some ⟨t,0,none⟩),.string nm] w fun e w' => ∃ v,e = .returned v ∧ SRow w' w.heap.size v (undL L nm) ∧ Below w.heap.size w w' := by
  have HA := Aside0.mk h
  have x0 : w.cell? ⟨t,0,none⟩ = some (.map (some b)) := blk_cell h.blk 0
  clear h
  go_enter Try.func92,Try.ntmps92
  go_wp2_with (first | (at_range;refine wpList_range_own w rfl _ tM rfl 9 9 lawS Try.underlying131 RvS b L.length (mapD L) rfl HA.out.map ?_;intro w0 hrg0 hg0 hs0))
  go_frame
  have U0 : UnderR w w0 b t L nm (.slice none 0 0) (Maps.has (mapD L)) (Maps.size (mapD L)) [] := ⟨hrg0,Collected.start _,World.ownsRow_nil _ _ _ _,(Below.refl _ _).grown hg0 (Nat.le_refl _) (fun k e => by cases e),HA.out.grown hg0 (by simp) (by simp),by omega,by rw [size_mapD];simp⟩
  have HU0 := Aside0.mk U0
  clear U0 hrg0 hg0 hs0
  go_loopw [5,14] (fun ov _ wr => ∃ left cnt ms,Aside0 (UnderR w wr b t L nm ov left cnt ms)) (fun _ _ wr => wr.rangeLeft b w.heap.size)
  case atStart => exact ⟨_,_,_,HU0⟩
  case round =>
    rename World => wr
    clear HU0 x0
    obtain ⟨left,cnt,ms,HU⟩ := hrel
    obtain ⟨KL,hKL⟩ : ∃ KL,ms.filter (fun x => hasN (abv L x) nm) = KL := ⟨_,rfl⟩
    have HKL := Aside0.mk hKL
    have hrow := HU.out.row
    rw [hKL] at hrow
    obtain ⟨Av,cv,rfl,_⟩ := hrow.reads
    have KLN := Aside0.mk (show KL.length ≤ 1000 by rw [← hKL];have h1 := List.length_filter_le (fun x => hasN (abv L x) nm) ms;have := HU.out.cnt;omega)
    have HR := Aside0.mk hrow
    clear hKL hrow
    go_wp2_with (first | (at_next;refine wpList_next_ranges wr rfl _ rfl 9 lawS RvS Value.string Value.string invKS invVS b w.heap.size L.length (mapD L) left cnt rfl HU.out.rg ?_ ?_))
    · intro hc0 hl0
      have HE := Aside0.mk (show sortN KL = undL L nm by
        have hp := HU.out.col.perm HU.out.rg.owns lawS Try.underlying9 hl0
        rw [strKeys_mapD] at hp
        have hp2 := hp.map ofB
        rw [map_of_to,map_of_to] at hp2
        rw [← HKL.out]
        exact sortN_eq (hp2.filter _) (undL_rise HA.out nm))
      have HB := Aside0.mk HU.out.below
      have SR := Aside0.mk (srow_sort HR.out (by have := KLN.out;omega))
      clear hc0 hl0 HU
      go_wp2_with (fail)
      refine SR.out.mono ?_
      rintro e w2 ⟨rfl,hrow2,hg2⟩
      have HR2 := Aside0.mk hrow2
      have HB2 := Aside0.mk (HB.out.grown hg2 HB.out.size (fun k e => HR.out.lt k e))
      clear hrow2 hg2
      go_wp2_with (fail)
      go_ret
      exact ⟨_,rfl,by rw [← HE.out];have h1 := HR2.out;exact h1,HB2.out⟩
    · intro x c kl yd yp w1 cnt1 hkey hlk hv hat hrg1 hlt1 hg1 hs1 hen
      obtain ⟨rfl,hx⟩ := keyS hkey
      have A1 := Aside0.mk (HU.out.tree.grown hg1 (fun e => by have h1 := blk_lt HA.out.blk;injection e with e;omega) (fun e => hrg1.ne (by injection e with e;exact e.symm)))
      have C1 := Aside0.mk (show Collected (mapD L) (fun z => left z && !z.sameKey (.string (toB x))) ((ms ++ [x]).map toB) by rw [List.map_append];exact HU.out.col.step hlk hat)
      have B1 := Aside0.mk (HU.out.below.grown hg1 HU.out.le (fun k e => by cases e;exact Nat.le_refl _))
      have R1 := Aside0.mk (show SRow w1 w.heap.size (.slice Av KL.length cv) KL from World.ownsRow.kept HR.out hg1 (.inr (fun e => row_ne_iter HR.out HU.out.rg e.symm)))
      have G1 := Aside0.mk hrg1
      have L1 := Aside0.mk (show w.heap.size ≤ w1.heap.size from Nat.le_trans HU.out.le hg1.size)
      have N1 := Aside0.mk (show (ms ++ [x]).length + cnt1 ≤ L.length by have := HU.out.cnt;rw [List.length_append,List.length_singleton];omega)
      have M1 := Aside0.mk (show cnt1 < wr.rangeLeft b w.heap.size by rw [HU.out.rg.left_eq];exact hlt1)
      have HX := Aside0.mk hx
      clear hkey hlk hv hat hrg1 hlt1 hg1 hs1 HU HR hx
      go_wp2_with (fail)
      clear hen
      refine (ten_below (A1.out.v) hs hk x nm HX.out).mono ?_
      rintro e w2 ⟨rfl,hb2⟩
      have G2 := Aside0.mk (G1.out.kept (below_none hb2) (by simp) (by simp))
      have A2 := Aside0.mk (A1.out.below hb2)
      have B2 := Aside0.mk (B1.out.trans (hb2.mono L1.out))
      have R2 := Aside0.mk (show SRow w2 w.heap.size (.slice Av KL.length cv) KL from World.ownsRow.kept R1.out (below_none hb2) (by cases Av <;> simp [Value.ownBlock]))
      have L2 := Aside0.mk (show w.heap.size ≤ w2.heap.size from Nat.le_trans L1.out hb2.size)
      clear hb2 G1 A1 B1 R1 L1
      have hf : (ms ++ [x]).filter (fun x => hasN (abv L x) nm) = KL ++ (if hasN (abv L x) nm then [x] else []) := by
        rw [List.filter_append,HKL.out]
        simp only [List.filter_cons,List.filter_nil]
      cases hin : hasN (abv L x) nm with
      | true =>
        rw [hin,if_pos rfl] at hf
        have HF := Aside0.mk hf
        clear hf
        obtain ⟨i0,hi,hz0,hz1,hz2⟩ := info_parts info9
        obtain ⟨k,hkl⟩ : ∃ k,KL.length = k := ⟨_,rfl⟩
        have HK := Aside0.mk hkl
        have HR := Aside0.mk (show w2.ownsRow w.heap.size 9 1 (.slice Av k cv) k (KL.map strV) by rw [← hkl];exact R2.out)
        rw [hkl]
        clear hkl hin
        go_wp2_with (at_builtin;refine wpList_append_own _ rfl _ _ tS rfl w.heap.size 9 i0 (.string ⟨#[]⟩) 1 16 Try.underlying124 hi hz0 hz1 hz2 rfl (by decide) _ _ _ rfl (HR.out.alloc _) ⟨w2.heap.size,0,none⟩ 1 1 [.string x] rfl rfl (cell_one_new _ _ _) (by simp [Value.oneCell']) (by have := KLN.out;have := HK.out;unfold maxLen;omega) (by have := KLN.out;have := HK.out;omega) (by have := L2.out;simp;omega) ?_;intro v' w3 hown' hgrow _)
        obtain ⟨g',cap',rfl⟩ := ownsRow_succ hown'
        have hall := (World.grownBy_alloc w2 (Obj.cells #[.string x] 9) _).trans hgrow
        have hb : some b ≠ (Value.slice Av k cv).ownBlock := row_ne_low HR.out HA.out.map.lt
        have ht : some t ≠ (Value.slice Av k cv).ownBlock := row_ne_low HR.out (blk_lt HA.out.blk)
        have G3 := Aside0.mk (G2.out.kept hall hb (row_ne_iter HR.out G2.out))
        have A3 := Aside0.mk (A2.out.grown hall ht hb)
        have B3 := Aside0.mk (B2.out.grown hall L2.out (fun j e => R2.out.lt j (by rw [HK.out];exact e)))
        have R3 := Aside0.mk (show SRow w3 w.heap.size (.slice (some ⟨g',0,none⟩) (k + 1) cap') (KL ++ [x]) by
          unfold SRow
          rw [List.length_append,HK.out,List.map_append]
          exact hown')
        refine ⟨⟨_,cnt1,ms ++ [x],⟨⟨G3.out,C1.out,by rw [HF.out];exact R3.out,B3.out,A3.out,Nat.le_trans L2.out hall.size,N1.out⟩⟩⟩,by rw [G3.out.left_eq];exact M1.out⟩
      | false =>
        rw [hin,if_neg (by simp),List.append_nil] at hf
        have HF := Aside0.mk hf
        clear hf hin
        go_wp2_with (fail)
        go_roundw
        case rel => exact ⟨_,cnt1,ms ++ [x],⟨⟨G2.out,C1.out,by rw [HF.out];exact R2.out,B2.out,A2.out,L2.out,N1.out⟩⟩⟩
        case measure => rw [G2.out.left_eq];exact M1.out
end Go.Proofs.Ytcenlehfbgnphaa.Z
end
section
namespace Go.Proofs.Ytcenlehfbgnphaa.Z
open Go.RowKit Go.Proofs.YtcenlehfbgnphaaW.PrintWords Go.Proofs.YtcenlehfbgnphaaW.PrintLast Go.Proofs.YtcenlehfbgnphaaW.PrintMore
attribute [local go_sem] max2_int min2_int max_two min_two max_three min_three max_four min_four
set_option linter.unusedVariables false
set_option linter.unusedSimpArgs false
def schema_letter.f (a0 : Int) : Option (Bool) := if a0 ≥ 97 then (some (decide (a0 ≤ 122))) else (some false)
set_option maxHeartbeats 8000000 in
set_option maxRecDepth 100000 in
theorem schema_letter.calls (a0 : Int) (r : Bool) (w : World) (h : schema_letter.f a0 = some r) :
    Calls Try.prog 116 #[.int .u8 a0] w fun e w' => e = .returned (.bool r) ∧ Drawn0 w w' := by
  have H : (if a0 ≥ 97 then (some (decide (a0 ≤ 122))) else (some false)) = some r := h
  clear h
  by_cases c2 : a0 ≥ 97
  · rw [if_pos c2] at H
    have c2b0 : decide (97 ≤ a0) = true := decide_eq_true c2
    clear c2
    obtain rfl := Option.some.inj H
    go_enter Try.func116,Try.ntmps116
    go_wp2
    go_ret
    exact ⟨by first | rfl | (simp;done) | (simp [*];done),by repeat (first | exact Drawn0.refl _ | apply Drawn0.step)⟩
  · rw [if_neg c2] at H
    have c2b0 : decide (97 ≤ a0) = false := decide_eq_false c2
    clear c2
    obtain rfl := Option.some.inj H
    go_enter Try.func116,Try.ntmps116
    go_wp2
    go_ret
    exact ⟨by first | rfl | (simp;done) | (simp [*];done),by repeat (first | exact Drawn0.refl _ | apply Drawn0.step)⟩
end Go.Proofs.Ytcenlehfbgnphaa.Z
end
section
namespace Go.Proofs.Ytcenlehfbgnphaa.Z
open Go.RowKit Go.Proofs.YtcenlehfbgnphaaW.PrintWords Go.Proofs.YtcenlehfbgnphaaW.PrintLast Go.Proofs.YtcenlehfbgnphaaW.PrintMore
attribute [local go_sem] max2_int min2_int max_two min_two max_three min_three max_four min_four
set_option linter.unusedVariables false
set_option linter.unusedSimpArgs false
mutual
def schema_Name.j0 : Nat → ByteArray → Bool → Option (Bool)
  | 0,_,_ => none
  | k + 1,x0,x17 => if x17 = true then (some false) else (schema_Name.l0 k x0 (x0.size : Int) 0)
def schema_Name.l0 : Nat → ByteArray → Int → Int → Option (Bool)
  | 0,_,_,_ => none
  | k + 1,x0,x19,x20 => if x20 < x19 then (if 0 ≤ x20 then (if x20 < (x0.size : Int) then ((schema_letter.f (bt x0 x20)).bind fun t474 => (if t474 = true then (schema_Name.l0 k x0 x19 (wrap64 (x20 + 1))) else (if (bt x0 x20) < 48 then (if (bt x0 x20) = 95 then (schema_Name.l0 k x0 x19 (wrap64 (x20 + 1))) else (some false)) else (if (bt x0 x20) > 57 then (if (bt x0 x20) = 95 then (schema_Name.l0 k x0 x19 (wrap64 (x20 + 1))) else (some false)) else (schema_Name.l0 k x0 x19 (wrap64 (x20 + 1))))))) else (none)) else (none)) else (some true)
end
def schema_Name.f (k : Nat) (a0 : ByteArray) : Option (Bool) := if a0.toList = ([] : List UInt8) then (schema_Name.j0 k a0 true) else (if (a0.size : Int) > 16 then (schema_Name.j0 k a0 true) else (if 0 < (a0.size : Int) then ((schema_letter.f (bt a0 0)).bind fun t473 => (schema_Name.j0 k a0 (!t473))) else (none)))
theorem schema_Name.mono_l : ∀ k,(∀ y0 y1,LeO (schema_Name.j0 k y0 y1) (schema_Name.j0 (k + 1) y0 y1)) ∧ (∀ y0 y1 y2,LeO (schema_Name.l0 k y0 y1 y2) (schema_Name.l0 (k + 1) y0 y1 y2))
  | 0 => ⟨fun _ _ r h => by simp [schema_Name.j0] at h,fun _ _ _ r h => by simp [schema_Name.l0] at h⟩
  | k + 1 => by
    obtain ⟨ih0,ih1⟩ := schema_Name.mono_l k
    refine ⟨?_,?_⟩
    · intro y0 y1
      unfold schema_Name.j0
      repeat' first
      | (with_reducible exact ih0 _ _)
      | (with_reducible exact ih1 _ _ _)
      | (with_reducible exact LeO.refl _)
      | (with_reducible exact LeO.none _)
      | (with_reducible refine LeO.ite ?_ ?_)
      | (with_reducible refine LeO.bind ?_ (fun _ => ?_))
      | exact ih0 _ _
      | exact ih1 _ _ _
      | exact LeO.none _
      | refine LeO.ite ?_ ?_
      | refine LeO.bind ?_ (fun _ => ?_)
    · intro y0 y1 y2
      unfold schema_Name.l0
      repeat' first
      | (with_reducible exact ih0 _ _)
      | (with_reducible exact ih1 _ _ _)
      | (with_reducible exact LeO.refl _)
      | (with_reducible exact LeO.none _)
      | (with_reducible refine LeO.ite ?_ ?_)
      | (with_reducible refine LeO.bind ?_ (fun _ => ?_))
      | exact ih0 _ _
      | exact ih1 _ _ _
      | exact LeO.none _
      | refine LeO.ite ?_ ?_
      | refine LeO.bind ?_ (fun _ => ?_)
theorem schema_Name.mono : ∀ a0 k,LeO (schema_Name.f k a0) (schema_Name.f (k + 1) a0) := by
  intro a0 k
  obtain ⟨ih0,ih1⟩ := schema_Name.mono_l k
  unfold schema_Name.f
  repeat' first
      | (with_reducible exact ih0 _ _)
      | (with_reducible exact ih1 _ _ _)
      | (with_reducible exact LeO.refl _)
      | (with_reducible exact LeO.none _)
      | (with_reducible refine LeO.ite ?_ ?_)
      | (with_reducible refine LeO.bind ?_ (fun _ => ?_))
      | exact ih0 _ _
      | exact ih1 _ _ _
      | exact LeO.none _
      | refine LeO.ite ?_ ?_
      | refine LeO.bind ?_ (fun _ => ?_)
set_option maxHeartbeats 8000000 in
set_option maxRecDepth 100000 in
theorem schema_Name.calls (k : Nat) (a0 : ByteArray) (r : Bool) (w : World) (h : schema_Name.f k a0 = some r) :
    Calls Try.prog 99 #[.string a0] w fun e w' => e = .returned (.bool r) ∧ Drawn0 w w' := by
  have H : (if a0.toList = ([] : List UInt8) then (schema_Name.j0 k a0 true) else (if (a0.size : Int) > 16 then (schema_Name.j0 k a0 true) else (if 0 < (a0.size : Int) then ((schema_letter.f (bt a0 0)).bind fun t473 => (schema_Name.j0 k a0 (!t473))) else (none)))) = some r := h
  clear h
  have HC2 := Aside0.mk H
  clear H
  go_enter Try.func99,Try.ntmps99
  go_upto_region 1 with (fail)
  go_cut [17] (fun v17 wc => ∃ (kq : Nat) (x17_1 : Bool),v17 = .bool x17_1 ∧ Aside0 (schema_Name.j0 kq a0 x17_1 = some r) ∧ Aside0 (kq ≤ k) ∧ Drawn0 w wc)
  case first =>
    have H := HC2.out
    clear HC2
    by_cases c3 : a0.toList = ([] : List UInt8)
    · rw [if_pos c3] at H
      have c3b0 : (a0.toList == ([] : List UInt8)) = true := beq_iff_eq.mpr c3
      have c3b1 : (a0.toList != ([] : List UInt8)) = false := bne_eq_false_iff_eq.mpr c3
      clear c3
      (first | rw [c3b0] | (simp only [i64_w,i32_w];rw [c3b0]) | skip)
      have H' := Aside0.mk H
      clear H
      go_wp2
      go_meet
      case rel => exact ⟨_,(true),(by first | rfl | (simp;done) | (simp [*];done)),H',⟨by first | omega | exact Nat.le_refl _⟩,by repeat (first | exact Drawn0.refl _ | apply Drawn0.step)⟩
    · rw [if_neg c3] at H
      have c3b0 : (a0.toList == ([] : List UInt8)) = false := beq_eq_false_iff_ne.mpr c3
      have c3b1 : (a0.toList != ([] : List UInt8)) = true := bne_iff_ne.mpr c3
      (first | rw [c3b0] | (simp only [i64_w,i32_w];rw [c3b0]) | skip)
      by_cases c4 : (a0.size : Int) > 16
      · rw [if_pos c4] at H
        have c4b0 : decide (16 < (a0.size : Int)) = true := decide_eq_true c4
        have c4b1 : decide (16 < a0.size) = true := decide_eq_true (by omega)
        clear c4
        have H' := Aside0.mk H
        clear H
        go_wp2
        go_meet
        case rel => exact ⟨_,(true),(by first | rfl | (simp;done) | (simp [*];done)),H',⟨by first | omega | exact Nat.le_refl _⟩,by repeat (first | exact Drawn0.refl _ | apply Drawn0.step)⟩
      · rw [if_neg c4] at H
        have c4b0 : decide (16 < (a0.size : Int)) = false := decide_eq_false c4
        have c4b1 : decide (16 < a0.size) = false := decide_eq_false (by omega)
        clear c4
        by_cases c5 : 0 < (a0.size : Int)
        · rw [if_pos c5] at H
          have c5b0 : decide (0 < (a0.size : Int)) = true := decide_eq_true c5
          have c5b1 : decide (0 < a0.size) = true := decide_eq_true (by omega)
          clear c5
          replace H := Option.bind_eq_some_iff.mp H
          obtain ⟨t473,A70,H⟩ := H
          replace H : (schema_Name.j0 k a0 (!t473)) = some r := H
          have A7 := Aside0.mk A70
          clear A70
          have H' := Aside0.mk H
          clear H
          have p6 : 0 ≤ (0 : Int) := (by omega)
          have q6 : 0 < a0.size := (by have : (0 : Int) < (a0.size : Int) := of_decide_eq_true (by first | (with_reducible assumption) | assumption);omega)
          have hx6 : ∀ h : 0 < a0.size,((a0[0]'h).toNat : Int) = bt a0 0 := bt_at a0 0
          clear p6
          have qi6 : (0 < (a0.size : Int)) = True := eq_true (of_decide_eq_true (by first | (with_reducible assumption) | assumption))
          replace q6 := eq_true q6
          go_wp2_with (first | (go_at_call 116;(with_reducible refine (schema_letter.calls (bt a0 0) t473 _ A7.out).mono ?_);rintro e w' ⟨rfl,⟨nd,rfl⟩⟩))
          go_meet
          case rel => exact ⟨_,(!t473),(by first | rfl | (simp;done) | (simp [*];done)),H',⟨by first | omega | exact Nat.le_refl _⟩,by repeat (first | exact Drawn0.refl _ | apply Drawn0.step)⟩
        · rw [if_neg c5] at H
          exact absurd H (by simp)
  case rest =>
    clear HC2
    try clear p2
    try clear c3
    try clear c3b0
    try clear c3b1
    try clear c4
    try clear c4b0
    try clear c4b1
    try clear c5
    try clear c5b0
    try clear c5b1
    try clear p6
    try clear q6
    try clear hx6
    try clear qi6
    try clear p6
    try clear q6
    obtain ⟨kq,x17_1,rfl,HA,HJ1,⟨mc1,rfl⟩⟩ := hcut
    cases kq with
    | zero => exact absurd HA.out (by simp [schema_Name.j0])
    | succ kj1 =>
      have H := HA.out
      clear HA
      simp only [schema_Name.j0] at H
      by_cases c8 : x17_1 = true
      · subst c8
        have H1 : (some false) = some r := by rw [if_pos rfl] at H;exact H
        clear H
        have H := H1
        clear H1
        obtain rfl := Option.some.inj H
        go_wp2
        go_ret
        exact ⟨by first | rfl | (simp;done) | (simp [*];done),by repeat (first | exact Drawn0.refl _ | apply Drawn0.step)⟩
      · replace c8 := Bool.eq_false_iff.mpr c8
        subst c8
        have H1 : (schema_Name.l0 kj1 a0 (a0.size : Int) 0) = some r := by rw [if_neg (show ¬ (false = true) by decide)] at H;exact H
        clear H
        have H := H1
        clear H1
        have H' := Aside0.mk H
        clear H
        go_wp2
        go_loopg [20] kj1 (fun kq v20 w' => ∃ (x20_2 : Int),v20 = .int .i64 x20_2 ∧ Aside0 (schema_Name.l0 kq a0 (a0.size : Int) x20_2 = some r) ∧ Aside0 (kq ≤ kj1) ∧ Drawn0 w w')
        case atStart => exact ⟨(0),(by first | rfl | (simp;done) | (simp [*];done)),H',⟨Nat.le_refl _⟩,by repeat (first | exact Drawn0.refl _ | apply Drawn0.step)⟩
        case round =>
          clear H'
          try clear c1
          try clear p2
          try clear c3
          try clear c3b0
          try clear c3b1
          try clear c4
          try clear c4b0
          try clear c4b1
          try clear c5
          try clear c5b0
          try clear c5b1
          try clear p6
          try clear q6
          try clear hx6
          try clear qi6
          try clear c8
          try clear p2
          try clear p6
          try clear q6
          obtain ⟨x20_2,rfl,HA,HK2,⟨m2,rfl⟩⟩ := hrel
          cases gk with
          | zero => exact absurd HA.out (by simp [schema_Name.l0])
          | succ k2 =>
            have H := HA.out
            clear HA
            simp only [schema_Name.l0] at H
            by_cases c9 : x20_2 < (a0.size : Int)
            · rw [if_pos c9] at H
              have c9b0 : decide (x20_2 < (a0.size : Int)) = true := decide_eq_true c9
              clear c9
              by_cases c10 : 0 ≤ x20_2
              · rw [if_pos c10] at H
                have c10b0 : decide (0 ≤ x20_2) = true := decide_eq_true c10
                clear c10
                by_cases c11 : x20_2 < (a0.size : Int)
                · rw [if_pos c11] at H
                  have c11b0 : decide (x20_2 < (a0.size : Int)) = true := decide_eq_true c11
                  clear c11
                  replace H := Option.bind_eq_some_iff.mp H
                  obtain ⟨t474,A130,H⟩ := H
                  replace H : (if t474 = true then (schema_Name.l0 k2 a0 (a0.size : Int) (wrap64 (x20_2 + 1))) else (if (bt a0 x20_2) < 48 then (if (bt a0 x20_2) = 95 then (schema_Name.l0 k2 a0 (a0.size : Int) (wrap64 (x20_2 + 1))) else (some false)) else (if (bt a0 x20_2) > 57 then (if (bt a0 x20_2) = 95 then (schema_Name.l0 k2 a0 (a0.size : Int) (wrap64 (x20_2 + 1))) else (some false)) else (schema_Name.l0 k2 a0 (a0.size : Int) (wrap64 (x20_2 + 1)))))) = some r := H
                  have A13 := Aside0.mk A130
                  clear A130
                  by_cases c14 : t474 = true
                  · subst c14
                    have H1 : (schema_Name.l0 k2 a0 (a0.size : Int) (wrap64 (x20_2 + 1))) = some r := by rw [if_pos rfl] at H;exact H
                    clear H
                    have H := H1
                    clear H1
                    have H' := Aside0.mk H
                    clear H
                    have p12 : 0 ≤ (x20_2 : Int) := of_decide_eq_true (by first | (with_reducible assumption) | assumption)
                    have q12 : x20_2 < (a0.size : Int) := of_decide_eq_true (by first | (with_reducible assumption) | assumption)
                    have hx12 := bt_at a0 x20_2
                    replace p12 := eq_true p12
                    replace q12 := eq_true q12
                    go_wp2_with (first | ((with_reducible refine gate_callee (f := 116) rfl ?_);refine goesL_ (some 27) rfl rfl Try.func116 (by kernel_rfl) rfl #[.int .u8 (bt a0 x20_2)] rfl (by (try simp only [List.map_toArray,List.map_cons,List.map_nil]);first | done | rfl | (simp only [List.length_drop,List.length_take];rfl)) ?_;(with_reducible refine (schema_letter.calls (bt a0 x20_2) true _ A13.out).mono ?_);rintro e w' ⟨rfl,⟨nd,rfl⟩⟩;refine ⟨_,rfl,?_⟩))
                    go_roundg k2
                    case measure => have := HJ1.out;have := HK2.out;omega
                    case rel => exact ⟨(wrap64 (x20_2 + 1)),(by first | rfl | (simp;done) | (simp [*];done)),H',⟨by have := HJ1.out;have := HK2.out;omega⟩,by repeat (first | exact Drawn0.refl _ | apply Drawn0.step)⟩
                  · replace c14 := Bool.eq_false_iff.mpr c14
                    subst c14
                    have H1 : (if (bt a0 x20_2) < 48 then (if (bt a0 x20_2) = 95 then (schema_Name.l0 k2 a0 (a0.size : Int) (wrap64 (x20_2 + 1))) else (some false)) else (if (bt a0 x20_2) > 57 then (if (bt a0 x20_2) = 95 then (schema_Name.l0 k2 a0 (a0.size : Int) (wrap64 (x20_2 + 1))) else (some false)) else (schema_Name.l0 k2 a0 (a0.size : Int) (wrap64 (x20_2 + 1))))) = some r := by rw [if_neg (show ¬ (false = true) by decide)] at H;exact H
                    clear H
                    have H := H1
                    clear H1
                    by_cases c15 : (bt a0 x20_2) < 48
                    · rw [if_pos c15] at H
                      have c15b0 : decide ((bt a0 x20_2) < 48) = true := decide_eq_true c15
                      clear c15
                      by_cases c16 : (bt a0 x20_2) = 95
                      · rw [if_pos c16] at H
                        have c16b0 : ((bt a0 x20_2) == 95) = true := beq_iff_eq.mpr c16
                        have c16b1 : ((bt a0 x20_2) != 95) = false := bne_eq_false_iff_eq.mpr c16
                        clear c16
                        have H' := Aside0.mk H
                        clear H
                        have p12 : 0 ≤ (x20_2 : Int) := of_decide_eq_true (by first | (with_reducible assumption) | assumption)
                        have q12 : x20_2 < (a0.size : Int) := of_decide_eq_true (by first | (with_reducible assumption) | assumption)
                        have hx12 := bt_at a0 x20_2
                        replace p12 := eq_true p12
                        replace q12 := eq_true q12
                        go_wp2_with (first | ((with_reducible refine gate_callee (f := 116) rfl ?_);refine goesL_ (some 27) rfl rfl Try.func116 (by kernel_rfl) rfl #[.int .u8 (bt a0 x20_2)] rfl (by (try simp only [List.map_toArray,List.map_cons,List.map_nil]);first | done | rfl | (simp only [List.length_drop,List.length_take];rfl)) ?_;(with_reducible refine (schema_letter.calls (bt a0 x20_2) false _ A13.out).mono ?_);rintro e w' ⟨rfl,⟨nd,rfl⟩⟩;refine ⟨_,rfl,?_⟩))
                        go_roundg k2
                        case measure => have := HJ1.out;have := HK2.out;omega
                        case rel => exact ⟨(wrap64 (x20_2 + 1)),(by first | rfl | (simp;done) | (simp [*];done)),H',⟨by have := HJ1.out;have := HK2.out;omega⟩,by repeat (first | exact Drawn0.refl _ | apply Drawn0.step)⟩
                      · rw [if_neg c16] at H
                        have c16b0 : ((bt a0 x20_2) == 95) = false := beq_eq_false_iff_ne.mpr c16
                        have c16b1 : ((bt a0 x20_2) != 95) = true := bne_iff_ne.mpr c16
                        obtain rfl := Option.some.inj H
                        have p12 : 0 ≤ (x20_2 : Int) := of_decide_eq_true (by first | (with_reducible assumption) | assumption)
                        have q12 : x20_2 < (a0.size : Int) := of_decide_eq_true (by first | (with_reducible assumption) | assumption)
                        have hx12 := bt_at a0 x20_2
                        replace p12 := eq_true p12
                        replace q12 := eq_true q12
                        go_wp2_with (first | ((with_reducible refine gate_callee (f := 116) rfl ?_);refine goesL_ (some 27) rfl rfl Try.func116 (by kernel_rfl) rfl #[.int .u8 (bt a0 x20_2)] rfl (by (try simp only [List.map_toArray,List.map_cons,List.map_nil]);first | done | rfl | (simp only [List.length_drop,List.length_take];rfl)) ?_;(with_reducible refine (schema_letter.calls (bt a0 x20_2) false _ A13.out).mono ?_);rintro e w' ⟨rfl,⟨nd,rfl⟩⟩;refine ⟨_,rfl,?_⟩))
                        go_ret
                        exact ⟨by first | rfl | (simp;done) | (simp [*];done),by repeat (first | exact Drawn0.refl _ | apply Drawn0.step)⟩
                    · rw [if_neg c15] at H
                      have c15b0 : decide ((bt a0 x20_2) < 48) = false := decide_eq_false c15
                      clear c15
                      by_cases c17 : (bt a0 x20_2) > 57
                      · rw [if_pos c17] at H
                        have c17b0 : decide (57 < (bt a0 x20_2)) = true := decide_eq_true c17
                        clear c17
                        by_cases c18 : (bt a0 x20_2) = 95
                        · rw [if_pos c18] at H
                          have c18b0 : ((bt a0 x20_2) == 95) = true := beq_iff_eq.mpr c18
                          have c18b1 : ((bt a0 x20_2) != 95) = false := bne_eq_false_iff_eq.mpr c18
                          clear c18
                          have H' := Aside0.mk H
                          clear H
                          have p12 : 0 ≤ (x20_2 : Int) := of_decide_eq_true (by first | (with_reducible assumption) | assumption)
                          have q12 : x20_2 < (a0.size : Int) := of_decide_eq_true (by first | (with_reducible assumption) | assumption)
                          have hx12 := bt_at a0 x20_2
                          replace p12 := eq_true p12
                          replace q12 := eq_true q12
                          go_wp2_with (first | ((with_reducible refine gate_callee (f := 116) rfl ?_);refine goesL_ (some 27) rfl rfl Try.func116 (by kernel_rfl) rfl #[.int .u8 (bt a0 x20_2)] rfl (by (try simp only [List.map_toArray,List.map_cons,List.map_nil]);first | done | rfl | (simp only [List.length_drop,List.length_take];rfl)) ?_;(with_reducible refine (schema_letter.calls (bt a0 x20_2) false _ A13.out).mono ?_);rintro e w' ⟨rfl,⟨nd,rfl⟩⟩;refine ⟨_,rfl,?_⟩))
                          go_roundg k2
                          case measure => have := HJ1.out;have := HK2.out;omega
                          case rel => exact ⟨(wrap64 (x20_2 + 1)),(by first | rfl | (simp;done) | (simp [*];done)),H',⟨by have := HJ1.out;have := HK2.out;omega⟩,by repeat (first | exact Drawn0.refl _ | apply Drawn0.step)⟩
                        · rw [if_neg c18] at H
                          have c18b0 : ((bt a0 x20_2) == 95) = false := beq_eq_false_iff_ne.mpr c18
                          have c18b1 : ((bt a0 x20_2) != 95) = true := bne_iff_ne.mpr c18
                          obtain rfl := Option.some.inj H
                          have p12 : 0 ≤ (x20_2 : Int) := of_decide_eq_true (by first | (with_reducible assumption) | assumption)
                          have q12 : x20_2 < (a0.size : Int) := of_decide_eq_true (by first | (with_reducible assumption) | assumption)
                          have hx12 := bt_at a0 x20_2
                          replace p12 := eq_true p12
                          replace q12 := eq_true q12
                          go_wp2_with (first | ((with_reducible refine gate_callee (f := 116) rfl ?_);refine goesL_ (some 27) rfl rfl Try.func116 (by kernel_rfl) rfl #[.int .u8 (bt a0 x20_2)] rfl (by (try simp only [List.map_toArray,List.map_cons,List.map_nil]);first | done | rfl | (simp only [List.length_drop,List.length_take];rfl)) ?_;(with_reducible refine (schema_letter.calls (bt a0 x20_2) false _ A13.out).mono ?_);rintro e w' ⟨rfl,⟨nd,rfl⟩⟩;refine ⟨_,rfl,?_⟩))
                          go_ret
                          exact ⟨by first | rfl | (simp;done) | (simp [*];done),by repeat (first | exact Drawn0.refl _ | apply Drawn0.step)⟩
                      · rw [if_neg c17] at H
                        have c17b0 : decide (57 < (bt a0 x20_2)) = false := decide_eq_false c17
                        clear c17
                        have H' := Aside0.mk H
                        clear H
                        have p12 : 0 ≤ (x20_2 : Int) := of_decide_eq_true (by first | (with_reducible assumption) | assumption)
                        have q12 : x20_2 < (a0.size : Int) := of_decide_eq_true (by first | (with_reducible assumption) | assumption)
                        have hx12 := bt_at a0 x20_2
                        replace p12 := eq_true p12
                        replace q12 := eq_true q12
                        go_wp2_with (first | ((with_reducible refine gate_callee (f := 116) rfl ?_);refine goesL_ (some 27) rfl rfl Try.func116 (by kernel_rfl) rfl #[.int .u8 (bt a0 x20_2)] rfl (by (try simp only [List.map_toArray,List.map_cons,List.map_nil]);first | done | rfl | (simp only [List.length_drop,List.length_take];rfl)) ?_;(with_reducible refine (schema_letter.calls (bt a0 x20_2) false _ A13.out).mono ?_);rintro e w' ⟨rfl,⟨nd,rfl⟩⟩;refine ⟨_,rfl,?_⟩))
                        go_roundg k2
                        case measure => have := HJ1.out;have := HK2.out;omega
                        case rel => exact ⟨(wrap64 (x20_2 + 1)),(by first | rfl | (simp;done) | (simp [*];done)),H',⟨by have := HJ1.out;have := HK2.out;omega⟩,by repeat (first | exact Drawn0.refl _ | apply Drawn0.step)⟩
                · rw [if_neg c11] at H
                  exact absurd H (by simp)
              · rw [if_neg c10] at H
                exact absurd H (by simp)
            · rw [if_neg c9] at H
              have c9b0 : decide (x20_2 < (a0.size : Int)) = false := decide_eq_false c9
              clear c9
              obtain rfl := Option.some.inj H
              go_wp2
              go_ret
              exact ⟨by first | rfl | (simp;done) | (simp [*];done),by repeat (first | exact Drawn0.refl _ | apply Drawn0.step)⟩
end Go.Proofs.Ytcenlehfbgnphaa.Z
end
section
namespace Go.Proofs.Ytcenlehfbgnphaa.Z
open Go.RowKit Go.Proofs.YtcenlehfbgnphaaW.PrintWords Go.Proofs.YtcenlehfbgnphaaW.PrintLast Go.Proofs.YtcenlehfbgnphaaW.PrintMore
attribute [local go_sem] max2_int min2_int max_two min_two max_three min_three max_four min_four
set_option linter.unusedVariables false
set_option linter.unusedSimpArgs false
mutual
def verdererref07_Name.j0 : Nat → ByteArray → Bool → Option (Bool)
  | 0,_,_ => none
  | k + 1,x0,x13 => if x13 = true then (some false) else (verdererref07_Name.l0 k x0 0)
def verdererref07_Name.l0 : Nat → ByteArray → Int → Option (Bool)
  | 0,_,_ => none
  | k + 1,x0,x3 => if x3 < (x0.size : Int) then (if 0 ≤ x3 then (if (bt x0 x3) ≥ 97 then (if ((bt x0 x3) ≤ 122) then (verdererref07_Name.l0 k x0 (wrap64 (x3 + 1))) else (if x3 = 0 then (some false) else (if (bt x0 x3) = 95 then (verdererref07_Name.l0 k x0 (wrap64 (x3 + 1))) else (if (bt x0 x3) < 48 then (some false) else (if (bt x0 x3) > 57 then (some false) else (verdererref07_Name.l0 k x0 (wrap64 (x3 + 1)))))))) else (if x3 = 0 then (some false) else (if (bt x0 x3) = 95 then (verdererref07_Name.l0 k x0 (wrap64 (x3 + 1))) else (if (bt x0 x3) < 48 then (some false) else (if (bt x0 x3) > 57 then (some false) else (verdererref07_Name.l0 k x0 (wrap64 (x3 + 1)))))))) else (none)) else (some true)
end
def verdererref07_Name.f (k : Nat) (a0 : ByteArray) : Option (Bool) := if (a0.size : Int) < 1 then (verdererref07_Name.j0 k a0 true) else (verdererref07_Name.j0 k a0 (decide ((a0.size : Int) > 16)))
theorem verdererref07_Name.mono_l : ∀ k,(∀ y0 y1,LeO (verdererref07_Name.j0 k y0 y1) (verdererref07_Name.j0 (k + 1) y0 y1)) ∧ (∀ y0 y1,LeO (verdererref07_Name.l0 k y0 y1) (verdererref07_Name.l0 (k + 1) y0 y1))
  | 0 => ⟨fun _ _ r h => by simp [verdererref07_Name.j0] at h,fun _ _ r h => by simp [verdererref07_Name.l0] at h⟩
  | k + 1 => by
    obtain ⟨ih0,ih1⟩ := verdererref07_Name.mono_l k
    refine ⟨?_,?_⟩
    · intro y0 y1
      unfold verdererref07_Name.j0
      repeat' first
      | (with_reducible exact ih0 _ _)
      | (with_reducible exact ih1 _ _)
      | (with_reducible exact LeO.refl _)
      | (with_reducible exact LeO.none _)
      | (with_reducible refine LeO.ite ?_ ?_)
      | (with_reducible refine LeO.bind ?_ (fun _ => ?_))
      | exact ih0 _ _
      | exact ih1 _ _
      | exact LeO.none _
      | refine LeO.ite ?_ ?_
      | refine LeO.bind ?_ (fun _ => ?_)
    · intro y0 y1
      unfold verdererref07_Name.l0
      repeat' first
      | (with_reducible exact ih0 _ _)
      | (with_reducible exact ih1 _ _)
      | (with_reducible exact LeO.refl _)
      | (with_reducible exact LeO.none _)
      | (with_reducible refine LeO.ite ?_ ?_)
      | (with_reducible refine LeO.bind ?_ (fun _ => ?_))
      | exact ih0 _ _
      | exact ih1 _ _
      | exact LeO.none _
      | refine LeO.ite ?_ ?_
      | refine LeO.bind ?_ (fun _ => ?_)
theorem verdererref07_Name.mono : ∀ a0 k,LeO (verdererref07_Name.f k a0) (verdererref07_Name.f (k + 1) a0) := by
  intro a0 k
  obtain ⟨ih0,ih1⟩ := verdererref07_Name.mono_l k
  unfold verdererref07_Name.f
  repeat' first
      | (with_reducible exact ih0 _ _)
      | (with_reducible exact ih1 _ _)
      | (with_reducible exact LeO.refl _)
      | (with_reducible exact LeO.none _)
      | (with_reducible refine LeO.ite ?_ ?_)
      | (with_reducible refine LeO.bind ?_ (fun _ => ?_))
      | exact ih0 _ _
      | exact ih1 _ _
      | exact LeO.none _
      | refine LeO.ite ?_ ?_
      | refine LeO.bind ?_ (fun _ => ?_)
set_option maxHeartbeats 8000000 in
set_option maxRecDepth 100000 in
theorem verdererref07_Name.calls (k : Nat) (a0 : ByteArray) (r : Bool) (w : World) (h : verdererref07_Name.f k a0 = some r) :
    Calls Try.prog 103 #[.string a0] w fun e w' => e = .returned (.bool r) ∧ Drawn0 w w' := by
  have H : (if (a0.size : Int) < 1 then (verdererref07_Name.j0 k a0 true) else (verdererref07_Name.j0 k a0 (decide ((a0.size : Int) > 16)))) = some r := h
  clear h
  have HC2 := Aside0.mk H
  clear H
  go_enter Try.func103,Try.ntmps103
  go_upto_region 1 with (fail)
  go_cut [13] (fun v13 wc => ∃ (kq : Nat) (x13_1 : Bool),v13 = .bool x13_1 ∧ Aside0 (verdererref07_Name.j0 kq a0 x13_1 = some r) ∧ Aside0 (kq ≤ k) ∧ Drawn0 w wc)
  case first =>
    have H := HC2.out
    clear HC2
    by_cases c3 : (a0.size : Int) < 1
    · rw [if_pos c3] at H
      have c3b0 : decide ((a0.size : Int) < 1) = true := decide_eq_true c3
      have c3b1 : decide (a0.size < 1) = true := decide_eq_true (by omega)
      clear c3
      (first | rw [c3b0] | (simp only [i64_w,i32_w];rw [c3b0]) | skip)
      have H' := Aside0.mk H
      clear H
      go_wp2
      go_meet
      case rel => exact ⟨_,(true),(by first | rfl | (simp;done) | (simp [*];done)),H',⟨by first | omega | exact Nat.le_refl _⟩,by repeat (first | exact Drawn0.refl _ | apply Drawn0.step)⟩
    · rw [if_neg c3] at H
      have c3b0 : decide ((a0.size : Int) < 1) = false := decide_eq_false c3
      have c3b1 : decide (a0.size < 1) = false := decide_eq_false (by omega)
      clear c3
      (first | rw [c3b0] | (simp only [i64_w,i32_w];rw [c3b0]) | skip)
      have H' := Aside0.mk H
      clear H
      go_wp2
      go_meet
      case rel => exact ⟨_,(decide ((a0.size : Int) > 16)),(by first | rfl | (simp;done) | (simp [*];done)),H',⟨by first | omega | exact Nat.le_refl _⟩,by repeat (first | exact Drawn0.refl _ | apply Drawn0.step)⟩
  case rest =>
    clear HC2
    try clear c1
    try clear p2
    try clear c3
    try clear c3b0
    try clear c3b1
    obtain ⟨kq,x13_1,rfl,HA,HJ1,⟨mc1,rfl⟩⟩ := hcut
    cases kq with
    | zero => exact absurd HA.out (by simp [verdererref07_Name.j0])
    | succ kj1 =>
      have H := HA.out
      clear HA
      simp only [verdererref07_Name.j0] at H
      by_cases c4 : x13_1 = true
      · subst c4
        have H1 : (some false) = some r := by rw [if_pos rfl] at H;exact H
        clear H
        have H := H1
        clear H1
        obtain rfl := Option.some.inj H
        go_wp2
        go_ret
        exact ⟨by first | rfl | (simp;done) | (simp [*];done),by repeat (first | exact Drawn0.refl _ | apply Drawn0.step)⟩
      · replace c4 := Bool.eq_false_iff.mpr c4
        subst c4
        have H1 : (verdererref07_Name.l0 kj1 a0 0) = some r := by rw [if_neg (show ¬ (false = true) by decide)] at H;exact H
        clear H
        have H := H1
        clear H1
        have H' := Aside0.mk H
        clear H
        go_wp2
        go_loopg [3] kj1 (fun kq v3 w' => ∃ (x3_2 : Int),v3 = .int .i64 x3_2 ∧ Aside0 (verdererref07_Name.l0 kq a0 x3_2 = some r) ∧ Aside0 (kq ≤ kj1) ∧ Drawn0 w w')
        case atStart => exact ⟨(0),(by first | rfl | (simp;done) | (simp [*];done)),H',⟨Nat.le_refl _⟩,by repeat (first | exact Drawn0.refl _ | apply Drawn0.step)⟩
        case round =>
          clear H'
          try clear c1
          try clear p2
          try clear c3
          try clear c3b0
          try clear c3b1
          try clear c4
          try clear p2
          obtain ⟨x3_2,rfl,HA,HK2,⟨m2,rfl⟩⟩ := hrel
          cases gk with
          | zero => exact absurd HA.out (by simp [verdererref07_Name.l0])
          | succ k2 =>
            have H := HA.out
            clear HA
            simp only [verdererref07_Name.l0] at H
            by_cases c5 : x3_2 < (a0.size : Int)
            · rw [if_pos c5] at H
              have c5b0 : decide (x3_2 < (a0.size : Int)) = true := decide_eq_true c5
              clear c5
              by_cases c6 : 0 ≤ x3_2
              · rw [if_pos c6] at H
                have c6b0 : decide (0 ≤ x3_2) = true := decide_eq_true c6
                clear c6
                by_cases c8 : (bt a0 x3_2) ≥ 97
                · rw [if_pos c8] at H
                  have c8b0 : decide (97 ≤ (bt a0 x3_2)) = true := decide_eq_true c8
                  clear c8
                  by_cases c9 : ((bt a0 x3_2) ≤ 122)
                  · rw [if_pos c9] at H
                    have c9b0 : decide ((bt a0 x3_2) ≤ 122) = true := decide_eq_true c9
                    clear c9
                    have H' := Aside0.mk H
                    clear H
                    have p7 : 0 ≤ (x3_2 : Int) := of_decide_eq_true (by first | (with_reducible assumption) | assumption)
                    have q7 : x3_2 < (a0.size : Int) := of_decide_eq_true (by first | (with_reducible assumption) | assumption)
                    have hx7 := bt_at a0 x3_2
                    replace p7 := eq_true p7
                    replace q7 := eq_true q7
                    go_wp2
                    go_roundg k2
                    case measure => have := HJ1.out;have := HK2.out;omega
                    case rel => exact ⟨(wrap64 (x3_2 + 1)),(by first | rfl | (simp;done) | (simp [*];done)),H',⟨by have := HJ1.out;have := HK2.out;omega⟩,by repeat (first | exact Drawn0.refl _ | apply Drawn0.step)⟩
                  · rw [if_neg c9] at H
                    have c9b0 : decide ((bt a0 x3_2) ≤ 122) = false := decide_eq_false c9
                    clear c9
                    by_cases c10 : x3_2 = 0
                    · rw [if_pos c10] at H
                      have c10b0 : (x3_2 == 0) = true := beq_iff_eq.mpr c10
                      have c10b1 : (x3_2 != 0) = false := bne_eq_false_iff_eq.mpr c10
                      clear c10
                      obtain rfl := Option.some.inj H
                      have p7 : 0 ≤ (x3_2 : Int) := of_decide_eq_true (by first | (with_reducible assumption) | assumption)
                      have q7 : x3_2 < (a0.size : Int) := of_decide_eq_true (by first | (with_reducible assumption) | assumption)
                      have hx7 := bt_at a0 x3_2
                      replace p7 := eq_true p7
                      replace q7 := eq_true q7
                      go_wp2
                      go_ret
                      exact ⟨by first | rfl | (simp;done) | (simp [*];done),by repeat (first | exact Drawn0.refl _ | apply Drawn0.step)⟩
                    · rw [if_neg c10] at H
                      have c10b0 : (x3_2 == 0) = false := beq_eq_false_iff_ne.mpr c10
                      have c10b1 : (x3_2 != 0) = true := bne_iff_ne.mpr c10
                      by_cases c11 : (bt a0 x3_2) = 95
                      · rw [if_pos c11] at H
                        have c11b0 : ((bt a0 x3_2) == 95) = true := beq_iff_eq.mpr c11
                        have c11b1 : ((bt a0 x3_2) != 95) = false := bne_eq_false_iff_eq.mpr c11
                        clear c11
                        have H' := Aside0.mk H
                        clear H
                        have p7 : 0 ≤ (x3_2 : Int) := of_decide_eq_true (by first | (with_reducible assumption) | assumption)
                        have q7 : x3_2 < (a0.size : Int) := of_decide_eq_true (by first | (with_reducible assumption) | assumption)
                        have hx7 := bt_at a0 x3_2
                        replace p7 := eq_true p7
                        replace q7 := eq_true q7
                        go_wp2
                        go_roundg k2
                        case measure => have := HJ1.out;have := HK2.out;omega
                        case rel => exact ⟨(wrap64 (x3_2 + 1)),(by first | rfl | (simp;done) | (simp [*];done)),H',⟨by have := HJ1.out;have := HK2.out;omega⟩,by repeat (first | exact Drawn0.refl _ | apply Drawn0.step)⟩
                      · rw [if_neg c11] at H
                        have c11b0 : ((bt a0 x3_2) == 95) = false := beq_eq_false_iff_ne.mpr c11
                        have c11b1 : ((bt a0 x3_2) != 95) = true := bne_iff_ne.mpr c11
                        by_cases c12 : (bt a0 x3_2) < 48
                        · rw [if_pos c12] at H
                          have c12b0 : decide ((bt a0 x3_2) < 48) = true := decide_eq_true c12
                          clear c12
                          obtain rfl := Option.some.inj H
                          have p7 : 0 ≤ (x3_2 : Int) := of_decide_eq_true (by first | (with_reducible assumption) | assumption)
                          have q7 : x3_2 < (a0.size : Int) := of_decide_eq_true (by first | (with_reducible assumption) | assumption)
                          have hx7 := bt_at a0 x3_2
                          replace p7 := eq_true p7
                          replace q7 := eq_true q7
                          go_wp2
                          go_ret
                          exact ⟨by first | rfl | (simp;done) | (simp [*];done),by repeat (first | exact Drawn0.refl _ | apply Drawn0.step)⟩
                        · rw [if_neg c12] at H
                          have c12b0 : decide ((bt a0 x3_2) < 48) = false := decide_eq_false c12
                          clear c12
                          by_cases c13 : (bt a0 x3_2) > 57
                          · rw [if_pos c13] at H
                            have c13b0 : decide (57 < (bt a0 x3_2)) = true := decide_eq_true c13
                            clear c13
                            obtain rfl := Option.some.inj H
                            have p7 : 0 ≤ (x3_2 : Int) := of_decide_eq_true (by first | (with_reducible assumption) | assumption)
                            have q7 : x3_2 < (a0.size : Int) := of_decide_eq_true (by first | (with_reducible assumption) | assumption)
                            have hx7 := bt_at a0 x3_2
                            replace p7 := eq_true p7
                            replace q7 := eq_true q7
                            go_wp2
                            go_ret
                            exact ⟨by first | rfl | (simp;done) | (simp [*];done),by repeat (first | exact Drawn0.refl _ | apply Drawn0.step)⟩
                          · rw [if_neg c13] at H
                            have c13b0 : decide (57 < (bt a0 x3_2)) = false := decide_eq_false c13
                            clear c13
                            have H' := Aside0.mk H
                            clear H
                            have p7 : 0 ≤ (x3_2 : Int) := of_decide_eq_true (by first | (with_reducible assumption) | assumption)
                            have q7 : x3_2 < (a0.size : Int) := of_decide_eq_true (by first | (with_reducible assumption) | assumption)
                            have hx7 := bt_at a0 x3_2
                            replace p7 := eq_true p7
                            replace q7 := eq_true q7
                            go_wp2
                            go_roundg k2
                            case measure => have := HJ1.out;have := HK2.out;omega
                            case rel => exact ⟨(wrap64 (x3_2 + 1)),(by first | rfl | (simp;done) | (simp [*];done)),H',⟨by have := HJ1.out;have := HK2.out;omega⟩,by repeat (first | exact Drawn0.refl _ | apply Drawn0.step)⟩
                · rw [if_neg c8] at H
                  have c8b0 : decide (97 ≤ (bt a0 x3_2)) = false := decide_eq_false c8
                  clear c8
                  by_cases c14 : x3_2 = 0
                  · rw [if_pos c14] at H
                    have c14b0 : (x3_2 == 0) = true := beq_iff_eq.mpr c14
                    have c14b1 : (x3_2 != 0) = false := bne_eq_false_iff_eq.mpr c14
                    clear c14
                    obtain rfl := Option.some.inj H
                    have p7 : 0 ≤ (x3_2 : Int) := of_decide_eq_true (by first | (with_reducible assumption) | assumption)
                    have q7 : x3_2 < (a0.size : Int) := of_decide_eq_true (by first | (with_reducible assumption) | assumption)
                    have hx7 := bt_at a0 x3_2
                    replace p7 := eq_true p7
                    replace q7 := eq_true q7
                    go_wp2
                    go_ret
                    exact ⟨by first | rfl | (simp;done) | (simp [*];done),by repeat (first | exact Drawn0.refl _ | apply Drawn0.step)⟩
                  · rw [if_neg c14] at H
                    have c14b0 : (x3_2 == 0) = false := beq_eq_false_iff_ne.mpr c14
                    have c14b1 : (x3_2 != 0) = true := bne_iff_ne.mpr c14
                    by_cases c15 : (bt a0 x3_2) = 95
                    · rw [if_pos c15] at H
                      have c15b0 : ((bt a0 x3_2) == 95) = true := beq_iff_eq.mpr c15
                      have c15b1 : ((bt a0 x3_2) != 95) = false := bne_eq_false_iff_eq.mpr c15
                      clear c15
                      have H' := Aside0.mk H
                      clear H
                      have p7 : 0 ≤ (x3_2 : Int) := of_decide_eq_true (by first | (with_reducible assumption) | assumption)
                      have q7 : x3_2 < (a0.size : Int) := of_decide_eq_true (by first | (with_reducible assumption) | assumption)
                      have hx7 := bt_at a0 x3_2
                      replace p7 := eq_true p7
                      replace q7 := eq_true q7
                      go_wp2
                      go_roundg k2
                      case measure => have := HJ1.out;have := HK2.out;omega
                      case rel => exact ⟨(wrap64 (x3_2 + 1)),(by first | rfl | (simp;done) | (simp [*];done)),H',⟨by have := HJ1.out;have := HK2.out;omega⟩,by repeat (first | exact Drawn0.refl _ | apply Drawn0.step)⟩
                    · rw [if_neg c15] at H
                      have c15b0 : ((bt a0 x3_2) == 95) = false := beq_eq_false_iff_ne.mpr c15
                      have c15b1 : ((bt a0 x3_2) != 95) = true := bne_iff_ne.mpr c15
                      by_cases c16 : (bt a0 x3_2) < 48
                      · rw [if_pos c16] at H
                        have c16b0 : decide ((bt a0 x3_2) < 48) = true := decide_eq_true c16
                        clear c16
                        obtain rfl := Option.some.inj H
                        have p7 : 0 ≤ (x3_2 : Int) := of_decide_eq_true (by first | (with_reducible assumption) | assumption)
                        have q7 : x3_2 < (a0.size : Int) := of_decide_eq_true (by first | (with_reducible assumption) | assumption)
                        have hx7 := bt_at a0 x3_2
                        replace p7 := eq_true p7
                        replace q7 := eq_true q7
                        go_wp2
                        go_ret
                        exact ⟨by first | rfl | (simp;done) | (simp [*];done),by repeat (first | exact Drawn0.refl _ | apply Drawn0.step)⟩
                      · rw [if_neg c16] at H
                        have c16b0 : decide ((bt a0 x3_2) < 48) = false := decide_eq_false c16
                        clear c16
                        by_cases c17 : (bt a0 x3_2) > 57
                        · rw [if_pos c17] at H
                          have c17b0 : decide (57 < (bt a0 x3_2)) = true := decide_eq_true c17
                          clear c17
                          obtain rfl := Option.some.inj H
                          have p7 : 0 ≤ (x3_2 : Int) := of_decide_eq_true (by first | (with_reducible assumption) | assumption)
                          have q7 : x3_2 < (a0.size : Int) := of_decide_eq_true (by first | (with_reducible assumption) | assumption)
                          have hx7 := bt_at a0 x3_2
                          replace p7 := eq_true p7
                          replace q7 := eq_true q7
                          go_wp2
                          go_ret
                          exact ⟨by first | rfl | (simp;done) | (simp [*];done),by repeat (first | exact Drawn0.refl _ | apply Drawn0.step)⟩
                        · rw [if_neg c17] at H
                          have c17b0 : decide (57 < (bt a0 x3_2)) = false := decide_eq_false c17
                          clear c17
                          have H' := Aside0.mk H
                          clear H
                          have p7 : 0 ≤ (x3_2 : Int) := of_decide_eq_true (by first | (with_reducible assumption) | assumption)
                          have q7 : x3_2 < (a0.size : Int) := of_decide_eq_true (by first | (with_reducible assumption) | assumption)
                          have hx7 := bt_at a0 x3_2
                          replace p7 := eq_true p7
                          replace q7 := eq_true q7
                          go_wp2
                          go_roundg k2
                          case measure => have := HJ1.out;have := HK2.out;omega
                          case rel => exact ⟨(wrap64 (x3_2 + 1)),(by first | rfl | (simp;done) | (simp [*];done)),H',⟨by have := HJ1.out;have := HK2.out;omega⟩,by repeat (first | exact Drawn0.refl _ | apply Drawn0.step)⟩
              · rw [if_neg c6] at H
                exact absurd H (by simp)
            · rw [if_neg c5] at H
              have c5b0 : decide (x3_2 < (a0.size : Int)) = false := decide_eq_false c5
              clear c5
              obtain rfl := Option.some.inj H
              go_wp2
              go_ret
              exact ⟨by first | rfl | (simp;done) | (simp [*];done),by repeat (first | exact Drawn0.refl _ | apply Drawn0.step)⟩
end Go.Proofs.Ytcenlehfbgnphaa.Z
end
section
namespace Go.Proofs.Ytcenlehfbgnphaa.Z
set_option linter.unusedVariables false
set_option linter.unusedSimpArgs false
open Go.RowKit Go.Proofs.YtcenlehfbgnphaaW.PrintWords Go.Proofs.YtcenlehfbgnphaaW.PrintLast Go.Proofs.YtcenlehfbgnphaaW.PrintMore
def letB (c : Int) : Bool := decide (97 ≤ c ∧ c ≤ 122)
def charB (c : Int) : Bool := decide ((97 ≤ c ∧ c ≤ 122) ∨ c = 95 ∨ (48 ≤ c ∧ c ≤ 57))
def restB (s : ByteArray) : Nat → Nat → Bool
  | 0,_ => true
  | d + 1,i => charB (bt s (i : Int)) && restB s d (i + 1)
theorem rest_succ (s : ByteArray) (d i : Nat) : restB s (d + 1) i = (charB (bt s (i : Int)) && restB s d (i + 1)) := rfl
def nameB (s : ByteArray) : Bool := decide (1 ≤ s.size ∧ s.size ≤ 16) && (letB (bt s 0) && restB s (s.size - 1) 1)
theorem let_char {c : Int} (h : letB c = true) : charB c = true := by
  unfold letB at h
  unfold charB
  have := of_decide_eq_true h
  exact decide_eq_true (.inl this)
theorem letter_f (c : Int) : schema_letter.f c = some (letB c) := by
  unfold schema_letter.f letB
  by_cases h : c ≥ 97
  · rw [if_pos h]
    congr 1
    by_cases h2 : c ≤ 122
    · rw [decide_eq_true h2,decide_eq_true ⟨h,h2⟩]
    · rw [decide_eq_false h2,decide_eq_false (by omega)]
  · rw [if_neg h,decide_eq_false (by omega)]
theorem name_l0 (s : ByteArray) (hs : s.size ≤ 16) : ∀ d i k,s.size - i = d → i ≤ s.size → d + 1 < k → schema_Name.l0 k s (s.size : Int) (i : Int) = some (restB s d i) := by
  intro d
  induction d with
  | zero =>
    intro i k hd hi hk
    obtain ⟨k,rfl⟩ : ∃ m,k = m + 1 := ⟨k - 1,by omega⟩
    simp only [schema_Name.l0]
    rw [if_neg (by omega)]
    rfl
  | succ d ih =>
    intro i k hd hi hk
    obtain ⟨k,rfl⟩ : ∃ m,k = m + 1 := ⟨k - 1,by omega⟩
    have hw : wrap64 ((i : Int) + 1) = ((i + 1 : Nat) : Int) := by unfold wrap64;omega
    have hn := ih (i + 1) k (by omega) (by omega) (by omega)
    simp only [schema_Name.l0]
    rw [if_pos (by omega),if_pos (by omega),if_pos (by omega),letter_f,Option.bind_some,hw,hn]
    rw [rest_succ]
    by_cases h1 : letB (bt s (i : Int)) = true
    · rw [if_pos h1,let_char h1];rfl
    · rw [if_neg h1]
      have h2 : ¬ (97 ≤ bt s (i : Int) ∧ bt s (i : Int) ≤ 122) := fun h => h1 (decide_eq_true h)
      by_cases h3 : bt s (i : Int) = 95
      · have hc : charB (bt s (i : Int)) = true := decide_eq_true (.inr (.inl h3))
        rw [hc,if_neg (by omega),if_pos (by omega),if_pos h3];rfl
      · by_cases h4 : bt s (i : Int) < 48
        · have hc : charB (bt s (i : Int)) = false := decide_eq_false (by omega)
          rw [hc,if_pos h4,if_neg h3];rfl
        · by_cases h5 : bt s (i : Int) > 57
          · have hc : charB (bt s (i : Int)) = false := decide_eq_false (by omega)
            rw [hc,if_neg h4,if_pos h5,if_neg h3];rfl
          · have hc : charB (bt s (i : Int)) = true := decide_eq_true (by omega)
            rw [hc,if_neg h4,if_neg h5];rfl
theorem name_f (s : ByteArray) (k : Nat) (hk : 40 < k) : schema_Name.f k s = some (nameB s) := by
  obtain ⟨k,rfl⟩ : ∃ m,k = m + 1 := ⟨k - 1,by omega⟩
  unfold schema_Name.f nameB
  by_cases h0 : s.toList = ([] : List UInt8)
  · have hz : s.size = 0 := by
      rw [ByteArray.toList_eq] at h0
      have := congrArg List.length h0
      simpa using this
    rw [if_pos h0,decide_eq_false (by omega)]
    simp [schema_Name.j0]
  · have hz : s.size ≠ 0 := by
      intro e
      apply h0
      rw [ByteArray.toList_eq]
      apply List.eq_nil_of_length_eq_zero
      rw [Array.length_toList]
      exact e
    rw [if_neg h0]
    by_cases h1 : (s.size : Int) > 16
    · rw [if_pos h1,decide_eq_false (by omega)]
      simp [schema_Name.j0]
    · rw [if_neg h1,if_pos (by omega),letter_f,Option.bind_some,decide_eq_true (show 1 ≤ s.size ∧ s.size ≤ 16 by omega)]
      simp only [schema_Name.j0,Bool.true_and]
      cases h2 : letB (bt s 0) with
      | false => simp
      | true =>
        rw [if_neg (by simp)]
        have h3 := name_l0 s (by omega) s.size 0 k (by omega) (by omega) (by omega)
        rw [show ((0 : Nat) : Int) = 0 from rfl] at h3
        rw [h3]
        obtain ⟨m,hm⟩ : ∃ m,s.size = m + 1 := ⟨s.size - 1,by omega⟩
        rw [hm]
        show some (charB (bt s ((0 : Nat) : Int)) && restB s m (0 + 1)) = some (true && restB s m 1)
        rw [show ((0 : Nat) : Int) = 0 from rfl,let_char h2]
theorem name_size {s : ByteArray} (h : nameB s = true) : 1 ≤ s.size ∧ s.size ≤ 16 := by
  unfold nameB at h
  rw [Bool.and_eq_true] at h
  exact of_decide_eq_true h.1
end Go.Proofs.Ytcenlehfbgnphaa.Z
end
section
namespace Go.Proofs.Ytcenlehfbgnphaa.Z
set_option linter.unusedVariables false
set_option linter.unusedSimpArgs false
open Go.RowKit
inductive Ch (L : List Tn) : Nm → List Nm → Prop
  | stop {n : Nm} : getT L n = none → Ch L n []
  | go {n p : Nm} {l : List Nm} : getT L n = some p → Ch L p l → Ch L n (n :: l)
theorem Ch.up {L : List Tn} {n : Nm} {l : List Nm} (h : Ch L n l) : ∀ k,l.length < k → upL L k n = l := by
  induction h with
  | stop h =>
    intro k hk
    obtain ⟨k,rfl⟩ : ∃ m,k = m + 1 := ⟨k - 1,by simp at hk;omega⟩
    show (match getT L _ with | none => [] | some p => _ :: upL L k p) = []
    rw [h]
  | go h _ ih =>
    intro k hk
    obtain ⟨k,rfl⟩ : ∃ m,k = m + 1 := ⟨k - 1,by simp at hk;omega⟩
    show (match getT L _ with | none => [] | some p => _ :: upL L k p) = _
    rw [h]
    show _ :: upL L k _ = _
    rw [ih k (by simpa using hk)]
theorem ch_of_up {L : List Tn} : ∀ k n,(upL L k n).length < k → Ch L n (upL L k n)
  | 0,n,h => absurd h (Nat.not_lt_zero _)
  | k + 1,n,h => by
    cases hg : getT L n with
    | none =>
      have e : upL L (k + 1) n = [] := by
        show (match getT L n with | none => [] | some p => n :: upL L k p) = []
        rw [hg]
      rw [e]
      exact .stop hg
    | some p =>
      have e : upL L (k + 1) n = n :: upL L k p := by
        show (match getT L n with | none => [] | some p => n :: upL L k p) = _
        rw [hg]
      rw [e] at h ⊢
      exact .go hg (ch_of_up k p (by simpa using h))
theorem Shallow.ch {L : List Tn} (h : Shallow L) (n : Nm) : Ch L n (abv L n) := ch_of_up 6 n (by have := h n;omega)
theorem shallow_of {L : List Tn} (h : ∀ n,∃ l,Ch L n l ∧ l.length ≤ 5) : Shallow L := fun n => by
  obtain ⟨l,h1,h2⟩ := h n
  rw [h1.up 6 (by omega)]
  exact h2
structure Ok (L : List Tn) : Prop where
  sh : Shallow L
  nm : ∀ p ∈ L,nameB p.1 = true
  pr : ∀ p ∈ L,p.2 = emp ∨ getT L p.2 ≠ none
  len : L.length ≤ 24
theorem name_emp : nameB emp = false := by
  unfold nameB
  rw [decide_eq_false (by show ¬ (1 ≤ 0 ∧ 0 ≤ 16);omega)]
  rfl
theorem Ok.key {L : List Tn} (h : Ok L) {n p : Nm} (hg : getT L n = some p) : nameB n = true := h.nm _ (getT_mem L n p hg)
theorem Ok.psize {L : List Tn} (h : Ok L) : ∀ p ∈ L,p.2.size ≤ maxLen := by
  intro p hp
  rcases h.pr p hp with e | e
  · rw [e];exact Nat.zero_le _
  · cases hg : getT L p.2 with
    | none => exact absurd hg e
    | some q =>
      have := (name_size (h.key hg)).2
      unfold maxLen
      omega
theorem Ok.nil : Ok [] := ⟨fun n => by show (match getT [] n with | none => [] | some p => n :: upL [] 5 p).length ≤ 5;exact Nat.zero_le _,by simp,by simp,by simp⟩
theorem Ch.stay {L L' : List Tn} {n : Nm} (hne : ∀ m,m ≠ n → getT L' m = getT L m) {x : Nm} {l : List Nm} (h : Ch L x l) : n ∉ l → (x = n → l ≠ []) → (∀ m ∈ l,∀ q,getT L m = some q → q = n → getT L n ≠ none) → Ch L' x l := by
  induction h with
  | stop h =>
    intro _ h2 _
    refine .stop ?_
    rw [hne _ (fun e => h2 e rfl)]
    exact h
  | @go m p l h hc ih =>
    intro h1 _ h3
    have hm : m ≠ n := fun e => h1 (by rw [e];exact List.mem_cons_self)
    refine .go (by rw [hne m hm];exact h) (ih (fun h4 => h1 (List.mem_cons_of_mem _ h4)) (fun e hl => ?_) (fun a ha => h3 a (List.mem_cons_of_mem _ ha)))
    subst hl
    cases hc with
    | stop h5 => exact h3 m List.mem_cons_self p h e (by rw [← e];exact h5)
def insL (x : Tn) : List Tn → List Tn
  | [] => [x]
  | y :: r => if (lk x.1).before (lk y.1) then x :: y :: r else y :: insL x r
def delL (n : Nm) (L : List Tn) : List Tn := L.filter fun q => !decide (q.1 = n)
def putTn (n p : Nm) (L : List Tn) : List Tn := insL (n,p) (delL n L)
theorem ins_map (x : Tn) : ∀ L : List Tn,(insL x L).map (fun p => (lk p.1,(DataW.lit (lk p.2) : DataW Unit))) = DataW.insert (lk x.1,.lit (lk x.2)) (L.map fun p => (lk p.1,(DataW.lit (lk p.2) : DataW Unit)))
  | [] => rfl
  | y :: r => by
    unfold insL
    show _ = if (lk x.1).before (lk y.1) then _ else _
    by_cases h : (lk x.1).before (lk y.1) = true
    · rw [if_pos h,if_pos h];rfl
    · rw [if_neg h,if_neg h,List.map_cons,ins_map x r]
theorem del_map (n : Nm) (L : List Tn) : (delL n L).map (fun p => (lk p.1,(DataW.lit (lk p.2) : DataW Unit))) = (L.map fun p => (lk p.1,(DataW.lit (lk p.2) : DataW Unit))).filter (fun p => !p.1.sameKey (lk n)) := by
  unfold delL
  induction L with
  | nil => rfl
  | cons q r ih =>
    have e := same_lk q.1 n
    simp only [List.filter_cons,List.map_cons,e]
    cases decide (q.1 = n) with
    | true => simpa using ih
    | false => simpa using ih
theorem mapD_put (n p : Nm) (L : List Tn) : mapD (putTn n p L) = (mapD L).put (lk n) (.lit (lk p)) := by
  unfold mapD putTn
  show _ = DataW.map _
  rw [ins_map,del_map]
theorem mem_ins (x q : Tn) : ∀ L : List Tn,q ∈ insL x L ↔ q = x ∨ q ∈ L
  | [] => by simp [insL]
  | y :: r => by
    unfold insL
    split
    · simp
    · rw [List.mem_cons,mem_ins x q r,List.mem_cons]
      constructor
      · rintro (h | h | h)
        · exact .inr (.inl h)
        · exact .inl h
        · exact .inr (.inr h)
      · rintro (h | h | h)
        · exact .inr (.inl h)
        · exact .inl h
        · exact .inr (.inr h)
theorem mem_del (n : Nm) (q : Tn) (L : List Tn) : q ∈ delL n L ↔ q ∈ L ∧ q.1 ≠ n := by
  unfold delL
  rw [List.mem_filter]
  simp
theorem mem_put (n p : Nm) (q : Tn) (L : List Tn) : q ∈ putTn n p L ↔ q = (n,p) ∨ (q ∈ L ∧ q.1 ≠ n) := by
  unfold putTn
  rw [mem_ins,mem_del]
theorem getT_del (n m : Nm) : ∀ L : List Tn,getT (delL n L) m = if m = n then none else getT L m
  | [] => by unfold delL;simp [getT]
  | q :: r => by
    have ih := getT_del n m r
    unfold delL at ih ⊢
    rw [List.filter_cons]
    by_cases h : q.1 = n
    · rw [decide_eq_true h,if_neg (by simp),ih,getT_cons]
      by_cases h2 : m = n
      · rw [if_pos h2,if_pos h2]
      · rw [if_neg h2,if_neg h2,if_neg (fun e => h2 (by rw [← e,h]))]
    · rw [decide_eq_false h,if_pos (by rfl),getT_cons,ih,getT_cons]
      by_cases h2 : m = n
      · rw [if_pos h2,if_pos h2,if_neg (fun e => h (by rw [e,h2]))]
      · rw [if_neg h2,if_neg h2]
theorem getT_ins (n p m : Nm) : ∀ L : List Tn,(∀ q ∈ L,q.1 ≠ n) → getT (insL (n,p) L) m = if m = n then some p else getT L m
  | [],_ => by
    unfold insL
    rw [getT_cons]
    by_cases h : m = n
    · rw [if_pos h,if_pos h.symm]
    · rw [if_neg h,if_neg (fun e => h e.symm)]
  | y :: r,hy => by
    have ih := getT_ins n p m r (fun q hq => hy q (List.mem_cons_of_mem _ hq))
    have hy0 := hy y List.mem_cons_self
    unfold insL
    split
    · rw [getT_cons]
      by_cases h : m = n
      · rw [if_pos h,if_pos h.symm]
      · rw [if_neg h,if_neg (fun e => h e.symm)]
    · rw [getT_cons,ih,getT_cons]
      by_cases h : m = n
      · rw [if_pos h,if_pos h,if_neg (fun e => hy0 (by rw [e,h]))]
      · rw [if_neg h,if_neg h]
theorem getT_put (n p m : Nm) (L : List Tn) : getT (putTn n p L) m = if m = n then some p else getT L m := by
  unfold putTn
  rw [getT_ins n p m _ (fun q hq => ((mem_del n q L).1 hq).2),getT_del]
  by_cases h : m = n
  · rw [if_pos h,if_pos h]
  · rw [if_neg h,if_neg h,if_neg h]
theorem ins_len (x : Tn) : ∀ L : List Tn,(insL x L).length = L.length + 1
  | [] => rfl
  | y :: r => by
    unfold insL
    split
    · rfl
    · rw [List.length_cons,ins_len x r,List.length_cons]
theorem del_none {n : Nm} : ∀ {L : List Tn},getT L n = none → delL n L = L := by
  intro L h
  unfold delL
  rw [List.filter_eq_self]
  intro q hq
  rw [decide_eq_false ((getT_none L n).1 h q hq)]
  rfl
theorem put_len_new {n p : Nm} {L : List Tn} (h : getT L n = none) : (putTn n p L).length = L.length + 1 := by
  unfold putTn
  rw [ins_len,del_none h]
theorem del_len {n : Nm} : ∀ {L : List Tn},(L.map Prod.fst).Nodup → getT L n ≠ none → (delL n L).length + 1 = L.length
  | [],_,h => absurd rfl h
  | q :: r,hn,h => by
    rw [List.map_cons,List.nodup_cons] at hn
    unfold delL
    rw [List.filter_cons]
    by_cases e : q.1 = n
    · rw [decide_eq_true e,if_neg (by simp)]
      have h1 : getT r n = none := (getT_none r n).2 (fun p hp he => hn.1 (List.mem_map.2 ⟨p,hp,by rw [he,e]⟩))
      have h2 := del_none h1
      unfold delL at h2
      rw [h2,List.length_cons]
    · rw [decide_eq_false e,if_pos (by rfl),List.length_cons,List.length_cons]
      rw [getT_cons,if_neg e] at h
      have := del_len hn.2 h
      unfold delL at this
      omega
theorem Ok.add {L : List Tn} (h : Ok L) {n p : Nm} (hn : nameB n = true) (hg : getT L n = none) (hp : p = emp ∨ getT L p ≠ none) (hd : (abv L p).length < 5) (hl : L.length < 24) : Ok (putTn n p L) := by
  have hsame : ∀ m,m ≠ n → getT (putTn n p L) m = getT L m := fun m hm => by rw [getT_put,if_neg hm]
  have hpar : ∀ m q,getT L m = some q → q ≠ n := fun m q hmq e => by
    rcases h.pr _ (getT_mem L m q hmq) with h1 | h1
    · have h1 : q = emp := h1
      rw [← e,h1,name_emp] at hn;cases hn
    · exact h1 (by show getT L q = none;rw [e];exact hg)
  have hch : ∀ x,x ≠ n → Ch (putTn n p L) x (abv L x) := fun x hx =>
    Ch.stay hsame (h.sh.ch x) (fun hm => by
      have : ∀ {x l},Ch L x l → ∀ m ∈ l,getT L m ≠ none := fun hc => by
        induction hc with
        | stop _ => intro m hm;cases hm
        | go h1 _ ih =>
          intro m hm
          rcases List.mem_cons.1 hm with rfl | hm
          · rw [h1];simp
          · exact ih m hm
      exact this (h.sh.ch x) n hm hg) (fun e => absurd e hx) (fun m _ q hq e => absurd e (hpar m q hq))
  have hpn : p ≠ n := fun e => by
    rcases hp with h1 | h1
    · rw [← e,h1,name_emp] at hn;cases hn
    · exact h1 (by rw [e];exact hg)
  refine ⟨shallow_of fun x => ?_,fun q hq => ?_,fun q hq => ?_,by rw [put_len_new hg];omega⟩
  · by_cases hx : x = n
    · subst hx
      exact ⟨_,.go (by rw [getT_put,if_pos rfl]) (hch p hpn),by rw [List.length_cons];omega⟩
    · exact ⟨_,hch x hx,h.sh x⟩
  · rcases (mem_put n p q L).1 hq with rfl | ⟨hq,_⟩
    · exact hn
    · exact h.nm q hq
  · rcases (mem_put n p q L).1 hq with rfl | ⟨hq,hqn⟩
    · rcases hp with h1 | h1
      · exact .inl h1
      · exact .inr (by show getT _ p ≠ none;rw [hsame p hpn];exact h1)
    · rcases h.pr q hq with h1 | h1
      · exact .inl h1
      · by_cases e : q.2 = n
        · exact .inr (by rw [e,getT_put,if_pos rfl];simp)
        · exact .inr (by rw [hsame _ e];exact h1)
end Go.Proofs.Ytcenlehfbgnphaa.Z
end
section
namespace Go.Proofs.Ytcenlehfbgnphaa.Z
set_option linter.unusedVariables false
set_option linter.unusedSimpArgs false
open Go.RowKit Go.Shelf Go.Maps Go.Proofs.YtcenlehfbgnphaaW.PrintWords Go.Proofs.YtcenlehfbgnphaaW.PrintLast Go.Proofs.YtcenlehfbgnphaaW.PrintMore Go.Proofs.Ytcenlehfbgnphaa.Cmp
theorem own_tight {w : World} {b n : Nat} {D : DataW Unit} (h : w.ownsMap Try.prog 9 RvS b n D) : w.ownsMap Try.prog 9 RvS b (Maps.size D) D := by
  obtain ⟨es,clock,h1,h2,h3,rfl⟩ := h
  refine ⟨es,clock,h1,h2,?_,rfl⟩
  rw [size_eq,length_sorted]
  simp
theorem TreeAt.turned {w w1 : World} {t b n : Nat} {L L' : List Tn} (h : TreeAt w t b L) (hg : w.grownBy w1 (some b)) (hm : w1.ownsMap Try.prog 9 RvS b n (mapD L')) : TreeAt w1 t b L' :=
  ⟨(hg.block t (blk_lt h.blk) (fun e => by
    injection e with e
    subst e
    obtain ⟨es,clock,h1,_⟩ := h.map
    rw [h.blk] at h1
    cases h1)).trans h.blk,by have := own_tight hm;rw [size_mapD] at this;exact this⟩
theorem grown_of_below {w w1 : World} (h : Below w.heap.size w w1) (row : Option Nat) : w.grownBy w1 row := ⟨h.os,h.tape,h.output,h.size,fun k hk _ => h.block k hk⟩
theorem grown_trans {a b c : World} {row : Option Nat} (h : a.grownBy b row) (k : b.grownBy c row) : a.grownBy c row :=
  ⟨k.os.trans h.os,k.tape.trans h.tape,k.output.trans h.output,Nat.le_trans h.size k.size,fun i hi hn => (k.block i (Nat.lt_of_lt_of_le hi h.size) hn).trans (h.block i hi hn)⟩
set_option maxHeartbeats 4000000 in
set_option maxRecDepth 100000 in
theorem ten_new (w : World) : Calls Try.prog 80 #[] w fun e w' => ∃ t b,e = .returned (.pointer (some ⟨t,0,none⟩)) ∧ TreeAt w' t b [] ∧ Below w.heap.size w w' ∧ w.heap.size ≤ t ∧ w.heap.size ≤ b := by
  have hmm := @run_makeMap Try.prog
  have HO := Aside0.mk (World.ownsMap_made w Try.prog 9 RvS)
  have HB := Aside0.mk (below_alloc (Below.refl w.heap.size w) (.map #[] 0))
  go_enter Try.func80,Try.ntmps80
  go_wp2
  go_ret
  refine ⟨_,w.heap.size,rfl,⟨by have := blk_new (w.alloc (.map #[] 0)) (.cells #[.map (some w.heap.size)] tT);simpa using this,?_⟩,below_alloc HB.out _,by simp,Nat.le_refl _⟩
  exact HO.out.alloc _
def orph (L : List Tn) (p : Nm) : Bool := !decide (p = emp) && (getT L p).isNone
theorem neS (x : Nm) : (ByteArray.toList x == ([] : List UInt8)) = decide (x = emp) := by
  have := eqS x emp
  rw [← this]
  congr 1
  rw [ByteArray.toList_eq]
  rfl
set_option maxHeartbeats 4000000 in
set_option maxRecDepth 100000 in
theorem ten_orphan {w : World} {n₀ : Nat} {v : Value} {L : List Tn} (h : TreeV w n₀ v L) (p : Nm) (hp : p.size ≤ maxLen) : Calls Try.prog 101 #[v,.string p] w fun e w' => e = .returned (.bool (orph L p)) ∧ w' = w := by
  have HH := Aside0.mk (ten_has h p hp)
  have HO := Aside0.mk (show orph L p = (!decide (p = emp) && (getT L p).isNone) from rfl)
  obtain ⟨q,hq⟩ : ∃ q,v = .pointer q := by rcases h.ptr with h | ⟨t,h⟩ <;> exact ⟨_,h⟩
  subst hq
  clear h
  by_cases he : p = emp
  · have q0 : (ByteArray.toList p == ([] : List UInt8)) = true := by rw [neS,decide_eq_true he]
    have HOE := Aside0.mk (show orph L p = false by rw [HO.out,decide_eq_true he];rfl)
    rw [HOE.out]
    clear he
    go_enter Try.func101,Try.ntmps101
    go_wp2_with (fail)
    go_ret
    exact ⟨rfl,rfl⟩
  · have q0 : (ByteArray.toList p == ([] : List UInt8)) = false := by rw [neS,decide_eq_false he]
    have HOE := Aside0.mk (show orph L p = !(getT L p).isSome by rw [HO.out,decide_eq_false he];cases getT L p <;> rfl)
    rw [HOE.out]
    generalize (getT L p).isSome = r at HH ⊢
    clear he
    go_enter Try.func101,Try.ntmps101
    go_wp2_with (fail)
    refine HH.out.mono ?_
    rintro e w' ⟨rfl,rfl⟩
    cases r
    · go_wp2_with (fail)
      go_ret
      exact ⟨rfl,rfl⟩
    · go_wp2_with (fail)
      go_ret
      exact ⟨rfl,rfl⟩
def addP (L : List Tn) (n p : Nm) : Int × List Tn :=
  if nameB n = false then (3,L) else if (getT L n).isSome = true then (4,L) else if orph L p = true then (18,L) else if 5 ≤ (abv L p).length then (17,L) else if 24 ≤ L.length then (6,L) else (0,putTn n p L)
set_option maxHeartbeats 8000000 in
set_option maxRecDepth 100000 in
theorem ten_add {w : World} {t b : Nat} {L : List Tn} (h : TreeAt w t b L) (hO : Ok L) (n p : Nm) (hn : n.size ≤ maxLen) (hp : p.size ≤ maxLen) :
    Calls Try.prog 81 #[.pointer (some ⟨t,0,none⟩),.string n,.string p] w fun e w' => e = .returned (.int .i64 (addP L n p).1) ∧ TreeAt w' t b (addP L n p).2 ∧ w.grownBy w' (some b) := by
  have HA := Aside0.mk h
  have NM := Aside0.mk (fun w' => schema_Name.calls 41 n (nameB n) w' (name_f n 41 (by omega)))
  have HO := Aside0.mk hO
  have HP := Aside0.mk hp
  have HN := Aside0.mk hn
  have HD := Aside0.mk (show addP L n p = (if nameB n = false then (3,L) else if (getT L n).isSome = true then (4,L) else if orph L p = true then (18,L) else if 5 ≤ (abv L p).length then (17,L) else if 24 ≤ L.length then (6,L) else (0,putTn n p L)) from rfl)
  clear h hO
  generalize addP L n p = R at HD ⊢
  go_enter Try.func81,Try.ntmps81
  go_wp2_with (fail)
  refine (NM.out w).mono ?_
  rintro e w1 ⟨rfl,hb1⟩
  have A1 := Aside0.mk (HA.out.below hb1.below)
  have G1 := Aside0.mk (grown_of_below hb1.below (some b))
  clear hb1 HA NM
  cases hnb : nameB n with
  | false =>
    rw [hnb,if_pos rfl] at HD
    go_wp2_with (fail)
    go_ret
    rw [HD.out]
    exact ⟨rfl,A1.out,G1.out⟩
  | true =>
    rw [hnb,if_neg (by simp)] at HD
    have NB := Aside0.mk hnb
    clear hnb
    go_wp2_with (fail)
    refine (ten_has A1.out.v n HN.out).mono ?_
    rintro e w2 ⟨rfl,rfl⟩
    cases hgn : (getT L n).isSome with
    | true =>
      rw [hgn,if_pos rfl] at HD
      go_wp2_with (fail)
      go_ret
      rw [HD.out]
      exact ⟨rfl,A1.out,G1.out⟩
    | false =>
      rw [hgn,if_neg (by simp)] at HD
      have NG := Aside0.mk hgn
      clear hgn
      go_wp2_with (fail)
      refine (ten_orphan A1.out.v p HP.out).mono ?_
      rintro e w3 ⟨rfl,rfl⟩
      cases hor : orph L p with
      | true =>
        rw [hor,if_pos rfl] at HD
        go_wp2_with (fail)
        go_ret
        rw [HD.out]
        exact ⟨rfl,A1.out,G1.out⟩
      | false =>
        rw [hor,if_neg (by simp)] at HD
        clear hor
        go_wp2_with (fail)
        refine (ten_depth A1.out.v HO.out.sh HO.out.psize p HP.out).mono ?_
        rintro e w4 ⟨rfl,hb4⟩
        have A4 := Aside0.mk (A1.out.below hb4)
        have G4 := Aside0.mk (grown_trans G1.out (grown_of_below hb4 (some b)))
        clear hb4 A1 G1
        by_cases hd : 5 ≤ (abv L p).length
        · rw [if_pos hd] at HD
          have q1 : decide (((abv L p).length : Int) ≥ 5) = true := decide_eq_true (by omega)
          have q2 : decide ((5 : Int) ≤ ((abv L p).length : Int)) = true := decide_eq_true (by omega)
          clear hd
          go_wp2_with (fail)
          go_ret
          rw [HD.out]
          exact ⟨rfl,A4.out,G4.out⟩
        · rw [if_neg hd] at HD
          have q1 : decide (((abv L p).length : Int) ≥ 5) = false := decide_eq_false (by omega)
          have q2 : decide ((5 : Int) ≤ ((abv L p).length : Int)) = false := decide_eq_false (by omega)
          have x0 : w4.cell? ⟨t,0,none⟩ = some (.map (some b)) := blk_cell A4.out.blk 0
          have HLN := Aside0.mk HO.out.len
          clear hd
          by_cases hl : 24 ≤ L.length
          · rw [if_pos hl] at HD
            have q3 : decide ((L.length : Int) ≥ 24) = true := decide_eq_true (by omega)
            have q4 : decide ((24 : Int) ≤ (L.length : Int)) = true := decide_eq_true (by omega)
            have LM := Aside0.mk (A4.out.map.len Try.underlying131 3)
            clear hl
            go_wp2_with (at_len;refine wpList_len_own w4 rfl _ tM rfl 9 9 Try.underlying131 RvS b L.length (mapD L) rfl A4.out.map ?_;rw [size_mapD])
            go_ret
            rw [HD.out]
            exact ⟨rfl,A4.out,G4.out⟩
          · rw [if_neg hl] at HD
            have q3 : decide ((L.length : Int) ≥ 24) = false := decide_eq_false (by omega)
            have q4 : decide ((24 : Int) ≤ (L.length : Int)) = false := decide_eq_false (by omega)
            clear hl
            go_wp2_with (first | (at_len;refine wpList_len_own w4 rfl _ tM rfl 9 9 Try.underlying131 RvS b L.length (mapD L) rfl A4.out.map ?_;rw [size_mapD]) | (at_mapUpdate;refine wpList_mapUpdate_own w4 rfl _ _ _ tM rfl 9 9 lawS Try.underlying131 RvS b L.length (mapD L) rfl A4.out.map (by have := HLN.out;unfold maxLen;omega) _ _ (lk n) rfl rfl (Go.WideMaps.keyOf_string_mk Try.underlying9 HN.out) (.lit (lk p)) [] (plainS p HP.out) ?_;intro w5 hown5 hg5))
            go_ret
            rw [HD.out]
            exact ⟨rfl,A4.out.turned hg5 (by rw [mapD_put];exact hown5),grown_trans G4.out hg5⟩
end Go.Proofs.Ytcenlehfbgnphaa.Z
end
section
namespace Go.Proofs.Ytcenlehfbgnphaa.Z
set_option linter.unusedVariables false
set_option linter.unusedSimpArgs false
open Go.RowKit Go.Shelf Go.Maps Go.Proofs.YtcenlehfbgnphaaW.PrintWords Go.Proofs.YtcenlehfbgnphaaW.PrintLast Go.Proofs.YtcenlehfbgnphaaW.PrintMore Go.Proofs.Ytcenlehfbgnphaa.Cmp
theorem und_lenL (L : List Tn) (n : Nm) : (undL L n).length ≤ L.length := by
  unfold undL
  have := List.length_filter_le (fun x => hasN (abv L x) n) (L.map Prod.fst)
  simpa using this
end Go.Proofs.Ytcenlehfbgnphaa.Z
end
section
namespace Go.Proofs.Ytcenlehfbgnphaa.Z
set_option linter.unusedVariables false
set_option linter.unusedSimpArgs false
open Go.RowKit Go.Shelf Go.Maps Go.Proofs.YtcenlehfbgnphaaW.PrintWords Go.Proofs.YtcenlehfbgnphaaW.PrintLast Go.Proofs.YtcenlehfbgnphaaW.PrintMore Go.Proofs.Ytcenlehfbgnphaa.Cmp
end Go.Proofs.Ytcenlehfbgnphaa.Z
end
section
namespace Go.Proofs.Ytcenlehfbgnphaa.Z
set_option linter.unusedVariables false
set_option linter.unusedSimpArgs false
open Go.RowKit Go.Shelf Go.Maps Go.Proofs.YtcenlehfbgnphaaW.PrintWords Go.Proofs.YtcenlehfbgnphaaW.PrintLast Go.Proofs.YtcenlehfbgnphaaW.PrintMore Go.Proofs.Ytcenlehfbgnphaa.Cmp
theorem orph_false {L : List Tn} {p : Nm} (h : orph L p = false) : p = emp ∨ getT L p ≠ none := by
  unfold orph at h
  by_cases e : p = emp
  · exact .inl e
  · rw [decide_eq_false e] at h
    refine .inr (fun h2 => ?_)
    rw [h2] at h
    cases h
theorem Ok.addP {L : List Tn} (h : Ok L) (n p : Nm) : Ok (Z.addP L n p).2 := by
  unfold Z.addP
  split
  · exact h
  rename_i h1
  split
  · exact h
  rename_i h2
  split
  · exact h
  rename_i h3
  split
  · exact h
  rename_i h4
  split
  · exact h
  rename_i h5
  refine h.add (by cases hn : nameB n <;> simp_all) ?_ (orph_false (by simpa using h3)) (by omega) (by omega)
  cases hg : getT L n with
  | none => rfl
  | some q => rw [hg] at h2;exact absurd rfl h2
def sa : Nm := ⟨#[97]⟩
def sb : Nm := ⟨#[98]⟩
theorem kn1 : addP [] sa emp = (0,[(sa,emp)]) := by kernel_rfl
theorem kn2 : addP [(sa,emp)] sb sa = (0,[(sa,emp),(sb,sa)]) := by kernel_rfl
theorem ok1 : Ok [(sa,emp)] := by have := Ok.nil.addP sa emp;rw [kn1] at this;exact this
theorem ok2 : Ok [(sa,emp),(sb,sa)] := by have := ok1.addP sb sa;rw [kn2] at this;exact this
end Go.Proofs.Ytcenlehfbgnphaa.Z
end
section
namespace Go.Proofs.Ytcenlehfbgnphaa.Z
set_option linter.unusedVariables false
set_option linter.unusedSimpArgs false
open Go.RowKit Go.Shelf Go.Maps Go.Proofs.YtcenlehfbgnphaaW.PrintWords Go.Proofs.YtcenlehfbgnphaaW.PrintLast Go.Proofs.YtcenlehfbgnphaaW.PrintMore Go.Proofs.Ytcenlehfbgnphaa.Cmp
theorem mem_undL {L : List Tn} {x n : Nm} (hx : getT L x ≠ none) (h : n ∈ abv L x) : x ∈ undL L n := by
  unfold undL
  rw [List.mem_filter]
  refine ⟨?_,(hasN_iff _ _).2 h⟩
  cases hg : getT L x with
  | none => exact absurd hg hx
  | some q => exact List.mem_map.2 ⟨_,getT_mem L x q hg,rfl⟩
theorem Ch.split {L L' : List Tn} {n p : Nm} {lp : List Nm} (hne : ∀ m,m ≠ n → getT L' m = getT L m) (hp : getT L' n = some p) (hlp : Ch L' p lp) {x : Nm} {l : List Nm} (h : Ch L x l) : n ∈ l → ∃ pre suf,l = pre ++ n :: suf ∧ Ch L n (n :: suf) ∧ Ch L' x (pre ++ n :: lp) := by
  induction h with
  | stop _ => intro h;cases h
  | @go m q l h hc ih =>
    intro hn
    by_cases e : m = n
    · subst e
      exact ⟨[],l,rfl,.go h hc,.go hp hlp⟩
    · obtain ⟨pre,suf,rfl,h2,h3⟩ := ih (by
        rcases List.mem_cons.1 hn with h4 | h4
        · exact absurd h4.symm e
        · exact h4)
      exact ⟨m :: pre,suf,rfl,h2,.go (by rw [hne m e];exact h) h3⟩
theorem nodup_eq : ∀ {L : List Tn},(L.map Prod.fst).Nodup → ∀ {n a b : Nm},(n,a) ∈ L → ∀ {q : Tn},q ∈ L → q.1 = n → q.2 = b → a = b
  | [],_,n,a,b,h,q,_,_,_ => by cases h
  | x :: r,hn,n,a,b,h,q,hq,h1,h2 => by
    rw [List.map_cons,List.nodup_cons] at hn
    rcases List.mem_cons.1 h with e | h
    · rcases List.mem_cons.1 hq with e2 | hq
      · rw [← h2,e2,← e]
      · exact absurd (List.mem_map.2 ⟨q,hq,by rw [h1,← e]⟩) hn.1
    · rcases List.mem_cons.1 hq with e2 | hq
      · exact absurd (List.mem_map.2 ⟨(n,a),h,by rw [← e2,h1]⟩) hn.1
      · exact nodup_eq hn.2 h hq h1 h2
theorem Ok.drop {L : List Tn} (h : Ok L) (hnd : (L.map Prod.fst).Nodup) {n : Nm} (hg : getT L n ≠ none) (hu : (undL L n).length ≤ 1) : Ok (delL n L) := by
  have hself : getT (delL n L) n = none := by rw [getT_del,if_pos rfl]
  have hsame : ∀ m,m ≠ n → getT (delL n L) m = getT L m := fun m hm => by rw [getT_del,if_neg hm]
  have hnn : n ∈ undL L n := mem_undL hg (by obtain ⟨r,hr⟩ := abv_head h.sh hg;rw [hr];exact List.mem_cons_self)
  have only : ∀ x,getT L x ≠ none → n ∈ abv L x → x = n := fun x hx hm => by
    have h1 := mem_undL hx hm
    match hU : undL L n,hu,hnn,h1 with
    | [],_,h2,_ => cases h2
    | [y],_,h2,h3 =>
      simp only [List.mem_singleton] at h2 h3
      rw [h2,h3]
    | y :: z :: r,h2,_,_ => simp at h2
  have hstay : ∀ x,n ∉ abv L x → Ch (delL n L) x (abv L x) := fun x hx =>
    Ch.stay hsame (h.sh.ch x) hx (fun e h2 => by
      subst e
      have := h.sh.ch x
      rw [h2] at this
      cases this with
      | stop h3 => exact hg h3) (fun _ _ _ _ _ => hg)
  refine ⟨shallow_of fun x => ?_,fun q hq => h.nm q ((mem_del n q L).1 hq).1,fun q hq => ?_,by have := del_len hnd hg;have := h.len;omega⟩
  · by_cases hx : n ∈ abv L x
    · have hk : getT L x ≠ none := fun h1 => by rw [abv_none h1] at hx;cases hx
      obtain rfl := only x hk hx
      exact ⟨[],.stop hself,by simp⟩
    · exact ⟨_,hstay x hx,h.sh x⟩
  · obtain ⟨hq,hqn⟩ := (mem_del n q L).1 hq
    rcases h.pr q hq with h1 | h1
    · exact .inl h1
    · by_cases e : q.2 = n
      · exfalso
        apply hqn
        have hgq : getT L q.1 ≠ none := fun h2 => (getT_none L q.1).1 h2 q hq rfl
        cases hgq2 : getT L q.1 with
        | none => exact absurd hgq2 hgq
        | some p2 =>
          have hp2 : p2 = q.2 := by
            have hm := getT_mem L q.1 p2 hgq2
            exact nodup_eq hnd hm hq rfl rfl
          refine only q.1 hgq ?_
          rw [abv_some h.sh hgq2,hp2,e]
          obtain ⟨r,hr⟩ := abv_head h.sh hg
          rw [hr]
          exact List.mem_cons_of_mem _ List.mem_cons_self
      · exact .inr (by rw [hsame _ e];exact h1)
end Go.Proofs.Ytcenlehfbgnphaa.Z
end
section
namespace Go.Proofs.Ytcenlehfbgnphaa.Z
set_option linter.unusedVariables false
set_option linter.unusedSimpArgs false
open Go.RowKit
end Go.Proofs.Ytcenlehfbgnphaa.Z
end
section
namespace Go.Proofs.Ytcenlehfbgnphaa.Z
set_option linter.unusedVariables false
set_option linter.unusedSimpArgs false
open Go.RowKit Go.Proofs.YtcenlehfbgnphaaW.PrintWords Go.Proofs.YtcenlehfbgnphaaW.PrintLast Go.Proofs.YtcenlehfbgnphaaW.PrintMore
structure S92 where
  f0 : ByteArray
  f1 : ByteArray
def z92 : S92 := ⟨(⟨#[]⟩ : ByteArray),(⟨#[]⟩ : ByteArray)⟩
def k92 : Kd S92 := Kd.iso (Kd.pair Kd.string Kd.string) (fun x : S92 => (x.f0,x.f1))
theorem k92_open {w : World} {x : S92} {cs : List Value} (h : k92.K w x cs) : cs = [.string x.f0,.string x.f1] := by
  obtain ⟨_,_,rfl,rfl,rfl⟩ := h
  exact rfl
theorem k92_mk (w : World) (x : S92)  : k92.K w x [.string x.f0,.string x.f1] := ⟨[.string x.f0],[.string x.f1],rfl,rfl,rfl⟩
theorem k92_mkF (W : World) (ok : Nat → Prop) (x : S92) : Kd.FK k92 W ok x [.string x.f0,.string x.f1] := fun W2 _ => k92_mk W2 x
def rd_T92 (xs : List S92) (i : Int) : S92 := xs.getD i.toNat z92
theorem at_T92 {w : World} {A : Option Addr} {n : Nat} {xs : List S92} (h : Kd.C k92 w A n xs) (i : Int) (h0 : 0 ≤ i) (h1 : i < n) : ∃ ad ,A = some ad ∧ w.cell? (ad.add (i.toNat * 2)) = some (.string (rd_T92 xs i).f0) ∧ w.cell? ⟨(ad.add (i.toNat * 2)).block,(ad.add (i.toNat * 2)).off + 1,none⟩ = some (.string (rd_T92 xs i).f1) := by
  obtain ⟨ad,c,e,_,hK,hc0⟩ := Kd.C_get h z92 i h0 h1
  have hc : ∀ j u,c[j]? = some u → w.cell? (ad.add (i.toNat * 2 + j)) = some u := hc0
  obtain rfl := k92_open hK
  exact ⟨ad,e,hc 0 _ rfl,by rw [← add_field _ _ 1 (by omega)];exact hc 1 _ rfl⟩
end Go.Proofs.Ytcenlehfbgnphaa.Z
end
section
namespace Go.Proofs.Ytcenlehfbgnphaa.Z
set_option linter.unusedVariables false
set_option linter.unusedSimpArgs false
open Go.RowKit Go.Shelf Go.Maps Go.Proofs.YtcenlehfbgnphaaW.PrintWords Go.Proofs.YtcenlehfbgnphaaW.PrintLast Go.Proofs.YtcenlehfbgnphaaW.PrintMore Go.Proofs.Ytcenlehfbgnphaa.Cmp
abbrev tR : Nat := 88
abbrev tE : Nat := 92
abbrev STn := S92
abbrev kTn : Kd STn := k92
def tn (p : Tn) : STn := ⟨p.1,p.2⟩
structure RTree (w : World) (r N : Nat) (v : Value) (L : List Tn) : Prop where
  blk : w.heap[r]? = some (.cells #[v] tR (0,0))
  row : Kd.N kTn tE w N (fun k => k ≠ r) v (L.map tn)
  le : N ≤ r
theorem RTree.below {w w1 : World} {r N : Nat} {v : Value} {L : List Tn} (h : RTree w r N v L) (hb : Below w.heap.size w w1) : RTree w1 r N v L :=
  ⟨(hb.block r (blk_lt h.blk)).trans h.blk,Kd.N_below h.row hb,h.le⟩
structure RC (w : World) (r : Nat) (A : Option Addr) (c : Nat) (L : List Tn) : Prop where
  cell : w.cell? ⟨r,0,none⟩ = some (.slice A L.length c)
  lt : r < w.heap.size
  row : Kd.C kTn w A L.length (L.map tn)
  cap : L.length ≤ c
theorem RC.below {w w1 : World} {r : Nat} {A : Option Addr} {c : Nat} {L : List Tn} (h : RC w r A c L) (hb : Below w.heap.size w w1) : RC w1 r A c L :=
  ⟨(hb.cell (p := ⟨r,0,none⟩) h.lt).trans h.cell,Nat.lt_of_lt_of_le h.lt hb.size,Kd.C_below h.row hb,h.cap⟩
end Go.Proofs.Ytcenlehfbgnphaa.Z
end
section
namespace Go.Proofs.Ytcenlehfbgnphaa.Z
set_option linter.unusedVariables false
set_option linter.unusedSimpArgs false
open Go.RowKit Go.Shelf Go.Maps Go.Proofs.YtcenlehfbgnphaaW.PrintWords Go.Proofs.YtcenlehfbgnphaaW.PrintLast Go.Proofs.YtcenlehfbgnphaaW.PrintMore Go.Proofs.Ytcenlehfbgnphaa.Cmp
theorem str_at {w : World} {A : Option Addr} {m : Nat} {l : List Nm} (h : Kd.C Kd.string w A m l) {k : Nat} {y : Nm} (hy : l[k]? = some y) : ∃ ad,A = some ad ∧ w.cell? (ad.add k) = some (.string y) := by
  have hk : k < l.length := (List.getElem?_eq_some_iff.1 hy).1
  have hm : m = l.length := h.1.symm
  obtain ⟨au,cs,rfl,_,hcs,hcell⟩ := Kd.C_get h emp (k : Int) (by omega) (by omega)
  refine ⟨au,rfl,?_⟩
  have h1 : cs = [.string (l.getD (k : Int).toNat emp)] := hcs
  have h2 := hcell 0 (.string y) (by rw [h1,Int.toNat_natCast,List.getD_eq_getElem?_getD,hy];rfl)
  rw [← h2,Int.toNat_natCast]
  show w.cell? (au.add k) = w.cell? (au.add (k * 1 + 0))
  rw [Nat.mul_one,Nat.add_zero]
end Go.Proofs.Ytcenlehfbgnphaa.Z
end
section
namespace Go.Proofs.Ytcenlehfbgnphaa.Z
set_option linter.unusedVariables false
set_option linter.unusedSimpArgs false
open Go.RowKit Go.Shelf Go.Maps Go.Proofs.YtcenlehfbgnphaaW.PrintWords Go.Proofs.YtcenlehfbgnphaaW.PrintLast Go.Proofs.YtcenlehfbgnphaaW.PrintMore Go.Proofs.Ytcenlehfbgnphaa.Cmp
def sumT (l : List En) : List Nm → Int
  | [] => 0
  | n :: r => (ownL n l).1 + sumT l r
theorem sumT_snoc (l : List En) (n : Nm) : ∀ U : List Nm,sumT l (U ++ [n]) = sumT l U + (ownL n l).1
  | [] => by show (ownL n l).1 + 0 = 0 + (ownL n l).1;omega
  | x :: r => by
    show (ownL x l).1 + sumT l (r ++ [n]) = (ownL x l).1 + sumT l r + (ownL n l).1
    rw [sumT_snoc l n r]
    omega
theorem sumT_bd {l : List En} (h : NumE l) : ∀ U : List Nm,-(U.length * 9223372036854775808 : Int) ≤ sumT l U ∧ sumT l U ≤ U.length * 9223372036854775808
  | [] => ⟨by show -((0 : Nat) * 9223372036854775808 : Int) ≤ 0;omega,by show (0 : Int) ≤ (0 : Nat) * 9223372036854775808;omega⟩
  | x :: r => by
    have h1 := sumT_bd h r
    obtain ⟨h2,h3⟩ := own_in h x
    rw [List.length_cons]
    show -(((r.length + 1 : Nat) : Int) * 9223372036854775808) ≤ (ownL x l).1 + sumT l r ∧ (ownL x l).1 + sumT l r ≤ ((r.length + 1 : Nat) : Int) * 9223372036854775808
    omega
theorem sumT_ok {l : List En} (h : NumE l) (U : List Nm) (hU : U.length ≤ 1000) : SumOk (sumT l U) := by
  have := sumT_bd h U
  exact ⟨by omega,by omega⟩
set_option maxHeartbeats 8000000 in
set_option maxRecDepth 100000 in
theorem use_sum {A : Option Addr} {c : Nat} {l : List En} {An : Option Addr} {cn : Nat} {U : List Nm} {w : World} (hC : Kd.C k83 w A l.length l) (hc : l.length ≤ c) (hN : NumE l) (hU : Kd.C Kd.string w An U.length U) (h24 : U.length ≤ 24) :
    Calls Try.prog 91 #[.slice An U.length cn,.slice A l.length c] w fun e w' => e = .returned (.tuple #[.int .i64 (fitF (sumT l U)).1,.int .i64 (fitF (sumT l U)).2]) ∧ Below w.heap.size w w' := by
  have HC := Aside0.mk hC
  have HK := Aside0.mk hc
  have HN := Aside0.mk hN
  have HU := Aside0.mk hU
  have hbw : Below w.heap.size w (w.alloc (.cells (sumCells 0 0 0) 26)) := below_alloc (Below.refl _ _) _
  have S1 := Aside0.mk (SumAt.new w)
  have N1 := Aside0.mk (show NextW w.heap.size w (w.alloc (.cells (sumCells 0 0 0) 26)) from ⟨hbw,hbw.size⟩)
  obtain ⟨LL,hLL⟩ : ∃ LL,l.length = LL := ⟨_,rfl⟩
  have HLL := Aside0.mk hLL
  rw [hLL]
  clear hC hc hN hU hbw hLL
  go_enter Try.func91,Try.ntmps91
  go_wp2_with (fail)
  obtain ⟨g,hg⟩ : ∃ g,w.heap.size = g := ⟨_,rfl⟩
  have HG := Aside0.mk hg
  rw [hg] at S1
  try rw [hg]
  clear hg
  rw [show sumCells 0 0 0 = #[.int .i64 0,.int .i64 0,.int .i64 0] from rfl] at S1 N1
  generalize w.alloc (.cells #[.int .i64 0,.int .i64 0,.int .i64 0] 26) = w1 at *
  go_loopw [15] (fun iv wr => ∃ i : Nat,iv = .int .i64 (i : Int) ∧ i ≤ U.length ∧ Aside0 (SumAt wr g (sumT l (U.take i))) ∧ Aside0 (NextW w.heap.size w wr)) (fun iv _ => U.length - (intOf iv).toNat)
  case atStart => exact ⟨0,rfl,Nat.zero_le _,S1,N1⟩
  case round =>
    rename World => wr
    clear S1 N1
    obtain ⟨i,rfl,hi,HS,NW⟩ := hrel
    by_cases hlt : i < U.length
    · have k0 : decide ((i : Int) < (U.length : Int)) = true := decide_eq_true (by omega)
      obtain ⟨x,hx⟩ : ∃ x,U[i]? = some x := ⟨U[i],List.getElem?_eq_getElem hlt⟩
      obtain ⟨ad,rfl,c1⟩ := str_at (Kd.C_below HU.out NW.out.below) hx
      have TK := Aside0.mk (show U.take (i + 1) = U.take i ++ [x] by rw [List.take_add_one,hx];rfl)
      have p0 : (0 : Int) ≤ (i : Int) := by omega
      have p1 : (i : Int) < (U.length : Int) := by omega
      have C2 := Aside0.mk (Kd.C_below HC.out NW.out.below)
      have XI := Aside0.mk (own_in HN.out x)
      have SO := Aside0.mk (sumT_ok HN.out (U.take i) (by have := List.length_take_le i U;omega))
      have OW := Aside0.mk (use_own (w := wr) C2.out HK.out x)
      rw [HLL.out] at OW
      obtain ⟨o,ho⟩ : ∃ o,ownL x l = o := ⟨_,rfl⟩
      have HOO := Aside0.mk ho
      rw [ho] at OW XI
      clear hx ho
      go_wp2_with (fail)
      refine OW.out.mono ?_
      rintro e w3 ⟨rfl,hb3⟩
      have S3 := Aside0.mk (show SumAt w3 g (sumT l (U.take i)) by
        obtain ⟨x0,x1,x2,hh,r⟩ := HS.out.out
        exact ⟨x0,x1,x2,(hb3.block g (blk_lt hh)).trans hh,r⟩)
      have N3 := Aside0.mk (NW.out.next hb3)
      clear hb3 HS NW
      go_wp2_with (fail)
      refine (sum_put g _ o.1 1 w3 S3.out SO.out XI.out (by decide) (by decide)).mono ?_
      rintro e w4 ⟨rfl,hs4,hg4⟩
      have S4 := Aside0.mk (show SumAt w4 g (sumT l (U.take (i + 1))) by rw [TK.out,sumT_snoc,HOO.out];rw [Int.mul_one] at hs4;exact hs4)
      have N4 := Aside0.mk (show NextW w.heap.size w w4 from ⟨N3.out.below.grown hg4 N3.out.le (fun k e => by cases e;have := HG.out;omega),Nat.le_trans N3.out.le hg4.size⟩)
      clear hs4 hg4
      go_wp2_with (fail)
      exact ⟨⟨i + 1,by rw [show (((i + 1 : Nat)) : Int) = (i : Int) + 1 from by omega],hlt,S4,N4⟩,by simp [intOf];omega⟩
    · have k0 : decide ((i : Int) < (U.length : Int)) = false := decide_eq_false (by omega)
      have HT := Aside0.mk (show U.take i = U from List.take_of_length_le (by omega))
      have S3 := Aside0.mk (show SumAt wr g (sumT l U) by have := HS.out;rw [HT.out] at this;exact this)
      obtain ⟨F,hF⟩ : ∃ F,fitF (sumT l U) = F := ⟨_,rfl⟩
      have HF := Aside0.mk hF
      have SV := Aside0.mk (sum_value g _ wr S3.out)
      rw [hF] at SV
      clear hF HS
      go_wp2_with (fail)
      refine SV.out.mono ?_
      rintro e w3 ⟨rfl,hd3⟩
      have N3 := Aside0.mk (NW.out.next hd3.below)
      clear hd3
      go_wp2_with (fail)
      go_ret2
      exact ⟨by rw [HF.out];rfl,N3.out.below⟩
end Go.Proofs.Ytcenlehfbgnphaa.Z
end
section
namespace Go.Proofs
open Go.Shelf
def Try.keys112_ren : Go.Shelf.Ren := ⟨fun | 7 => 112 | 10 => 120 | n => n,fun | 23 => 131 | 26 => 9 | 3 => 9 | 28 => 140 | 0 => 0 | 27 => 139 | 33 => 134 | 4 => 4 | n => n,fun | n => n⟩
theorem Try.keys112 : Go.Proofs.SlLaysZ.n7 Try.prog Try.keys112_ren := {
  mixed := by kernel_rfl
  f7 := ⟨Try.f112.name,by decide,Try.func112.trans (congrArg some (by kernel_rfl))⟩
  f10 := ⟨Try.f120.name,by decide,Try.func120.trans (congrArg some (by kernel_rfl))⟩
  t0 := Try.underlying0
  a0 := Try.isAgg0
  z0 := Try.sizeOf0
  v0 := Try.zeroValue0
  t4 := Try.underlying4
  a4 := Try.isAgg4
  z4 := Try.sizeOf4
  v4 := Try.zeroValue4
  t23 := Try.underlying131
  a23 := Try.isAgg131
  z23 := Try.sizeOf131
  v23 := Try.zeroValue131
  t26 := Try.underlying9
  a26 := Try.isAgg9
  z26 := Try.sizeOf9
  v26 := Try.zeroValue9
  t27 := Try.underlying139
  a27 := Try.isAgg139
  z27 := Try.sizeOf139
  v27 := Try.zeroValue139
  t28 := Try.underlying140
  a28 := Try.isAgg140
  z28 := Try.sizeOf140
  v28 := Try.zeroValue140
  t33 := Try.underlying134
  a33 := Try.isAgg134
  z33 := Try.sizeOf134
  v33 := Try.zeroValue134 }
def Try.sorted111_ren : Go.Shelf.Ren := ⟨fun | 6 => 111 | 8 => 119 | 9 => 113 | 11 => 125 | 13 => 122 | 12 => 121 | 23 => 135 | 24 => 136 | 14 => 126 | 15 => 127 | 16 => 128 | 17 => 129 | 18 => 130 | 19 => 131 | 20 => 132 | 21 => 133 | 22 => 134 | 25 => 138 | 26 => 139 | 27 => 140 | 28 => 141 | 29 => 142 | 30 => 143 | 31 => 144 | n => n,fun | 26 => 9 | 28 => 140 | 24 => 124 | 0 => 0 | 3 => 3 | 37 => 94 | 48 => 160 | 50 => 96 | 4 => 4 | 40 => 153 | 39 => 152 | 45 => 157 | 5 => 5 | 9 => 9 | 51 => 162 | 55 => 166 | 57 => 168 | 58 => 169 | 33 => 134 | n => n,fun | n => n⟩
theorem Try.sorted111 : Go.Proofs.SlLaysZ.n6 Try.prog Try.sorted111_ren := {
  mixed := by kernel_rfl
  f6 := ⟨Try.f111.name,by decide,Try.func111.trans (congrArg some (by kernel_rfl))⟩
  f8 := ⟨Try.f119.name,by decide,Try.func119.trans (congrArg some (by kernel_rfl))⟩
  f11 := ⟨Try.f125.name,by decide,Try.func125.trans (congrArg some (by kernel_rfl))⟩
  t0 := Try.underlying0
  a0 := Try.isAgg0
  z0 := Try.sizeOf0
  v0 := Try.zeroValue0
  t24 := Try.underlying124
  a24 := Try.isAgg124
  z24 := Try.sizeOf124
  v24 := Try.zeroValue124
  t26 := Try.underlying9
  a26 := Try.isAgg9
  z26 := Try.sizeOf9
  v26 := Try.zeroValue9
  t28 := Try.underlying140
  a28 := Try.isAgg140
  z28 := Try.sizeOf140
  v28 := Try.zeroValue140
  i26 := by kernel_rfl }
def Try.sort113_ren : Go.Shelf.Ren := ⟨fun | 6 => 113 | 8 => 122 | 9 => 121 | 19 => 135 | 20 => 136 | 21 => 126 | 22 => 127 | 23 => 128 | 24 => 129 | 25 => 130 | 26 => 131 | 27 => 132 | 28 => 133 | 29 => 134 | 36 => 138 | 31 => 139 | 32 => 140 | 37 => 141 | 38 => 142 | 39 => 143 | 41 => 144 | n => n,fun | 27 => 124 | 29 => 9 | 3 => 3 | 32 => 94 | 26 => 124 | 0 => 0 | 44 => 160 | 46 => 96 | 4 => 4 | 36 => 153 | 35 => 152 | 41 => 157 | 5 => 5 | 9 => 9 | 53 => 162 | 57 => 166 | 63 => 168 | 64 => 169 | n => n,fun | n => n⟩
theorem Try.sort113 : Go.Proofs.SlLaysM.n6 Try.prog Try.sort113_ren := {
  mixed := by kernel_rfl
  f6 := ⟨Try.f113.name,by decide,Try.func113.trans (congrArg some (by kernel_rfl))⟩
  f8 := Try.func122.trans (congrArg some (by kernel_rfl))
  f9 := ⟨Try.f121.name,by decide,Try.func121.trans (congrArg some (by kernel_rfl))⟩
  f19 := Try.func135.trans (congrArg some (by kernel_rfl))
  f20 := Try.func136.trans (congrArg some (by kernel_rfl))
  f21 := ⟨Try.f126.name,by decide,Try.func126.trans (congrArg some (by kernel_rfl))⟩
  f22 := ⟨Try.f127.name,by decide,Try.func127.trans (congrArg some (by kernel_rfl))⟩
  f23 := ⟨Try.f128.name,by decide,Try.func128.trans (congrArg some (by kernel_rfl))⟩
  f24 := ⟨Try.f129.name,by decide,Try.func129.trans (congrArg some (by kernel_rfl))⟩
  f25 := ⟨Try.f130.name,by decide,Try.func130.trans (congrArg some (by kernel_rfl))⟩
  f26 := ⟨Try.f131.name,by decide,Try.func131.trans (congrArg some (by kernel_rfl))⟩
  f27 := ⟨Try.f132.name,by decide,Try.func132.trans (congrArg some (by kernel_rfl))⟩
  f28 := ⟨Try.f133.name,by decide,Try.func133.trans (congrArg some (by kernel_rfl))⟩
  f29 := ⟨Try.f134.name,by decide,Try.func134.trans (congrArg some (by kernel_rfl))⟩
  f31 := Try.func139.trans (congrArg some (by kernel_rfl))
  f32 := Try.func140.trans (congrArg some (by kernel_rfl))
  f36 := ⟨Try.f138.name,by decide,Try.func138.trans (congrArg some (by kernel_rfl))⟩
  f37 := ⟨Try.f141.name,by decide,Try.func141.trans (congrArg some (by kernel_rfl))⟩
  f38 := ⟨Try.f142.name,by decide,Try.func142.trans (congrArg some (by kernel_rfl))⟩
  f39 := ⟨Try.f143.name,by decide,Try.func143.trans (congrArg some (by kernel_rfl))⟩
  f41 := ⟨Try.f144.name,by decide,Try.func144.trans (congrArg some (by kernel_rfl))⟩
  t0 := Try.underlying0
  a0 := Try.isAgg0
  z0 := Try.sizeOf0
  v0 := Try.zeroValue0
  t3 := Try.underlying3
  a3 := Try.isAgg3
  z3 := Try.sizeOf3
  v3 := Try.zeroValue3
  t4 := Try.underlying4
  a4 := Try.isAgg4
  z4 := Try.sizeOf4
  v4 := Try.zeroValue4
  t5 := Try.underlying5
  a5 := Try.isAgg5
  z5 := Try.sizeOf5
  v5 := Try.zeroValue5
  t9 := Try.underlying9
  a9 := Try.isAgg9
  z9 := Try.sizeOf9
  v9 := Try.zeroValue9
  t26 := Try.underlying124
  a26 := Try.isAgg124
  z26 := Try.sizeOf124
  v26 := Try.zeroValue124
  t27 := Try.underlying124
  a27 := Try.isAgg124
  z27 := Try.sizeOf124
  v27 := Try.zeroValue124
  t29 := Try.underlying9
  a29 := Try.isAgg9
  z29 := Try.sizeOf9
  v29 := Try.zeroValue9
  t32 := Try.underlying94
  a32 := Try.isAgg94
  z32 := Try.sizeOf94
  v32 := Try.zeroValue94
  t35 := Try.underlying152
  a35 := Try.isAgg152
  z35 := Try.sizeOf152
  v35 := Try.zeroValue152
  t36 := Try.underlying153
  a36 := Try.isAgg153
  z36 := Try.sizeOf153
  v36 := Try.zeroValue153
  t41 := Try.underlying157
  a41 := Try.isAgg157
  z41 := Try.sizeOf157
  v41 := Try.zeroValue157
  t44 := Try.underlying160
  a44 := Try.isAgg160
  z44 := Try.sizeOf160
  v44 := Try.zeroValue160
  t46 := Try.underlying96
  a46 := Try.isAgg96
  z46 := Try.sizeOf96
  v46 := Try.zeroValue96
  t53 := Try.underlying162
  a53 := Try.isAgg162
  z53 := Try.sizeOf162
  v53 := Try.zeroValue162
  t57 := Try.underlying166
  a57 := Try.isAgg166
  z57 := Try.sizeOf166
  v57 := Try.zeroValue166
  t63 := Try.underlying168
  a63 := Try.isAgg168
  z63 := Try.sizeOf168
  v63 := Try.zeroValue168
  t64 := Try.underlying169
  a64 := Try.isAgg169
  z64 := Try.sizeOf169
  v64 := Try.zeroValue169 }
open Go.RowKit Go.Maps Go.Sort Go.Shelf
theorem Try.sorts111 (m : Nat) : AnyZ.SortsIn Try.prog Try.sorted111_ren Fence.wide m :=
  ⟨fun blk off cap ss W hH hblk hsz => callsIn_wide.2 (AnyM.slices_Sort_string Try.sort113 blk off cap ss W hH hblk hsz),
   fun p cap W => callsIn_wide.2 (AnyM.slices_Sort_string_none Try.sort113 p cap W)⟩
theorem Try.maps_Keys_112 (mb : Option Nat) (W : World) : CallsIn Fence.wide 5 Try.prog 112 #[.map mb] W fun e w' => e = .returned (.func (.func 120) #[] #[.pointer (some ⟨W.heap.size,0,none⟩)]) ∧ w' = W.alloc (.cells #[.map mb] 131) :=
  AnyZ.keys_in Try.keys112 Fence.wide 5 trivial rfl mb W
set_option maxHeartbeats 1000000 in
theorem Try.slices_Sorted_keys_111_112 {H : Type} (b nn : Nat) (D0 : DataW H) (R : Value → Option (DataW H × List MemPlace)) (w : World) (hown : w.ownsMap Try.prog 9 R b nn D0) (hmax : Maps.size D0 ≤ maxLen) (hbytes : Maps.size D0 * 16 ≤ 140737488355328) :
    CallsIn Fence.wide 5 Try.prog 111 #[.func (.func 120) #[] #[.pointer (some ⟨w.heap.size,0,none⟩)]] (w.alloc (.cells #[.map (some b)] 131)) fun e w' => ∃ (v : Value) (ss : List (List UInt8)),e = .returned v ∧ ss.Perm (strKeys D0) ∧
      w'.ownsRow (w.alloc (.cells #[.map (some b)] 131)).heap.size 9 1 v ss.length ((ss.mergeSort (fun x y => decide (x ≤ y))).map encStr) ∧ (v = .slice none 0 0 ↔ ss = []) ∧ Below (w.alloc (.cells #[.map (some b)] 131)).heap.size (w.alloc (.cells #[.map (some b)] 131)) w' := by
  have hbl := hown.lt
  have hseq : SeqGives Fence.wide 2 Try.prog 120 #[.pointer (some ⟨w.heap.size,0,none⟩)] encStr (fun ss => ss.Perm (strKeys D0)) (Maps.size D0) (w.alloc (.cells #[.map (some b)] 131)) :=
    AnyZ.keys_gives (ρ := Try.keys112_ren) { Try.keys112 with } Fence.wide _ trivial rfl (by omega) w.heap.size b nn D0 _ (by simp) (by simp) (by
      obtain ⟨es,clock,hb,Ft,hs,hD⟩ := hown
      exact ⟨es,clock,(Below.heap_alloc _ _ b hbl).trans hb,Ft,hs,hD⟩)
  exact AnyZ.sorted_in Try.sorted111 Fence.wide 5 trivial trivial trivial trivial rfl (by omega) (Try.sorts111 _) (enters_of Try.func113 (by kernel_rfl) rfl) 120 #[.pointer (some ⟨w.heap.size,0,none⟩)] trivial (enters_of Try.func120 (by kernel_rfl) rfl) _ _ hmax hbytes _ hseq
end Go.Proofs
end
section
namespace Go.Proofs.Ytcenlehfbgnphaa.Z
set_option linter.unusedVariables false
set_option linter.unusedSimpArgs false
open Go.RowKit Go.Shelf Go.Maps Go.Proofs.YtcenlehfbgnphaaW.PrintWords Go.Proofs.YtcenlehfbgnphaaW.PrintLast Go.Proofs.YtcenlehfbgnphaaW.PrintMore Go.Proofs.Ytcenlehfbgnphaa.Cmp
theorem keys_row {w W : World} {t b base : Nat} {L : List Tn} {v : Value} {ss : List (List UInt8)} (h : TreeAt w t b L) (hp : ss.Perm (strKeys (mapD L))) (hr : W.ownsRow base 9 1 v ss.length ((ss.mergeSort (fun x y => decide (x ≤ y))).map encStr)) : SRow W base v (L.map Prod.fst) := by
  rw [strKeys_mapD] at hp
  have h1 : sortN (ss.map ofB) = L.map Prod.fst := by
    refine sortN_eq ?_ (List.pairwise_map.2 (h.rise.imp (fun h => List.le_of_lt h)))
    have := hp.map ofB
    rw [map_of_to] at this
    exact this
  have h2 : (ss.mergeSort leB).map ofB = L.map Prod.fst := by
    rw [← h1]
    unfold sortN
    rw [map_to_of]
  have h3 : ((ss.mergeSort leB).map encStr) = (L.map Prod.fst).map strV := by
    rw [← h2,List.map_map]
    exact List.map_congr_left (fun x _ => by show encStr x = strV (ofB x);rw [← enc_to,to_of])
  have h4 : ss.length = (L.map Prod.fst).length := by rw [hp.length_eq,List.length_map]
  unfold SRow
  rw [← h3,← h4]
  exact hr
theorem getT_at {L : List Tn} (hn : (L.map Prod.fst).Nodup) {i : Nat} {x : Tn} (hx : L[i]? = some x) : getT L x.1 = some x.2 := by
  cases hg : getT L x.1 with
  | none => exact absurd rfl ((getT_none L x.1).1 hg x (List.mem_of_getElem? hx))
  | some p => rw [nodup_eq hn (getT_mem L x.1 p hg) (List.mem_of_getElem? hx) rfl rfl]
set_option maxHeartbeats 8000000 in
set_option maxRecDepth 100000 in
theorem ten_all {w : World} {t b : Nat} {L : List Tn} (h : TreeAt w t b L) (hO : Ok L) : Calls Try.prog 90 #[.pointer (some ⟨t,0,none⟩)] w fun e w' => ∃ v,e = .returned v ∧ Kd.N kTn tE w' w.heap.size (fun _ => True) v (L.map tn) ∧ Below w.heap.size w w' := by
  have HA := Aside0.mk h
  have HO := Aside0.mk hO
  have x0 : w.cell? ⟨t,0,none⟩ = some (.map (some b)) := blk_cell h.blk 0
  have HSZ := Aside0.mk (size_mapD L)
  clear h hO
  go_enter Try.func90,Try.ntmps90
  go_wp2_with (fail)
  refine (callsIn_wide.1 (Try.maps_Keys_112 (some b) w)).mono ?_
  rintro e w' ⟨rfl,rfl⟩
  go_wp2_with (fail)
  refine (callsIn_wide.1 (Try.slices_Sorted_keys_111_112 b L.length (mapD L) RvS w HA.out.map (by rw [HSZ.out];have := HO.out.len;unfold maxLen;omega) (by rw [HSZ.out];have := HO.out.len;omega))).mono ?_
  rintro e w2 ⟨v,ss,rfl,hp,hr,_,hb⟩
  have hrow := keys_row HA.out hp hr
  have B2 := Aside0.mk ((below_alloc (Below.refl w.heap.size w) (.cells #[.map (some b)] tM)).trans (hb.mono (by simp)))
  obtain ⟨Ak,ck,rfl,_,hC⟩ := hrow.reads
  have HC := Aside0.mk hC
  have A2 := Aside0.mk (HA.out.below B2.out)
  rw [List.length_map] at HC ⊢
  clear hp hr hb hrow hC
  go_wp2_with (fail)
  go_loopw [3,15] (fun ov iv wr => ∃ (i : Nat) (K : List Tn),iv = .int .i64 (i : Int) ∧ i ≤ L.length ∧ Aside0 (K = L.take i) ∧ Aside0 (Kd.N kTn tE wr w.heap.size (fun _ => True) ov (K.map tn)) ∧ Aside0 (∀ k,ov.ownBlock = some k → w2.heap.size ≤ k) ∧ Aside0 (NextW w2.heap.size w2 wr)) (fun _ iv _ => L.length - (intOf iv).toNat)
  case atStart => exact ⟨0,[],rfl,Nat.zero_le _,⟨rfl⟩,⟨Kd.N_nil _ _ _ _ _⟩,⟨fun k hk => by simp [Value.ownBlock] at hk⟩,⟨NextW.refl _⟩⟩
  case round =>
    rename World => wr
    obtain ⟨i,K,rfl,hi,HK,HN,HV,NW⟩ := hrel
    obtain ⟨m,hm⟩ : ∃ m,(K.map tn).length = m := ⟨_,rfl⟩
    have HM := Aside0.mk hm
    obtain ⟨Ao,co,rfl⟩ := Kd.N_slice HN.out
    rw [hm] at HN HV ⊢
    clear hm
    have h24 := HO.out.len
    by_cases hlt : i < L.length
    · have k0 : decide ((i : Int) < (L.length : Int)) = true := decide_eq_true (by omega)
      obtain ⟨x,hx⟩ : ∃ x,L[i]? = some x := ⟨L[i],List.getElem?_eq_getElem hlt⟩
      have A3 := Aside0.mk (A2.out.below NW.out.below)
      have hgx := getT_at A3.out.names hx
      have hkx := HO.out.nm x (List.mem_of_getElem? hx)
      have hsx : x.1.size ≤ maxLen := by have := (name_size hkx).2;unfold maxLen;omega
      obtain ⟨ad,cs,rfl,_,hcs,hcell⟩ := Kd.C_get (Kd.C_below HC.out NW.out.below) emp (i : Int) (by omega) (by omega)
      have c0 := hcell 0 (.string x.1) (by
        have h1 : cs = [.string ((L.map Prod.fst).getD (i : Int).toNat emp)] := hcs
        rw [h1,Int.toNat_natCast,List.getD_eq_getElem?_getD,List.getElem?_map,hx]
        rfl)
      have c1 : wr.cell? (ad.add i) = some (.string x.1) := by
        rw [← c0]
        congr 2
        show i = (i : Int).toNat * 1 + 0
        omega
      have y0 : wr.cell? ⟨t,0,none⟩ = some (.map (some b)) := blk_cell A3.out.blk 0
      have l0 := A3.out.look x.1 hsx
      rw [hgx] at l0
      have l1 : (Instr.lookup tM (.map (some b)) (.string x.1) false).run Try.prog wr = .ok (.string x.2) wr := l0
      have TK := Aside0.mk (show L.take (i + 1) = K ++ [x] by rw [HK.out,List.take_add_one,hx];rfl)
      have KL := Aside0.mk (show m ≤ 24 by have := HM.out;rw [← this,List.length_map,HK.out,List.length_take];omega)
      obtain ⟨x1,hx1⟩ : ∃ x1,x.1 = x1 := ⟨_,rfl⟩
      obtain ⟨x2,hx2⟩ : ∃ x2,x.2 = x2 := ⟨_,rfl⟩
      have HXT := Aside0.mk (show tn x = ⟨x1,x2⟩ by rw [← hx1,← hx2];rfl)
      rw [hx1] at c1 l1
      rw [hx2] at l1
      have p0 : (0 : Int) ≤ (i : Int) := by omega
      have p1 : (i : Int) < (L.length : Int) := by omega
      have GE := Aside0.mk (show w.heap.size ≤ wr.heap.size from Nat.le_trans B2.out.size NW.out.le)
      clear hcell hcs c0 hx hgx hkx hsx l0 hx1 hx2
      go_wp2_with (((with_reducible refine gate_builtin (b := .append) (xs := #[.tmp 19,.tmp 28]) rfl ?_);at_builtin;refine Kd.N_append kTn (w0 := w) w.heap.size rfl (.tmp 19) (.tmp 28) 86 tE (.agg #[(.string ⟨#[]⟩),(.string ⟨#[]⟩)]) 32 rfl Try.underlying86 (by kernel_rfl) rfl (by decide) (by omega) (.slice Ao m co) (K.map tn) ⟨x1,x2⟩ [.string x1,.string x2] (fun _ => True) (fun _ => False) rfl rfl (k92_mkF _ _ ⟨x1,x2⟩) (fun k hk => hk.elim) (fun _ _ => trivial) HN.out (B2.out.trans (NW.out.below.mono B2.out.size)) GE.out (by rw [HM.out];have := KL.out;omega) ?_;intro v2 w8 hv hb3 hg hat;have NV8 := Aside0.mk (show Kd.N kTn tE w8 w.heap.size (fun _ => True) v2 ((K ++ [x]).map tn) by (rw [List.map_append];show Kd.N kTn tE w8 w.heap.size (fun _ => True) v2 (K.map tn ++ [tn x]);rw [HXT.out];exact hv));have OV8 := Aside0.mk (own_new2 HV.out NW.out.le hat);have NW8 := Aside0.mk (show NextW w2.heap.size w2 w8 from ⟨NW.out.below.grown hg NW.out.le (fun k e => HV.out k e),Nat.le_trans NW.out.le hg.size⟩);clear hv hb3 hg hat))
      go_roundw
      case rel => exact ⟨i + 1,K ++ [x],by go_num,hlt,⟨TK.out.symm⟩,NV8,OV8,NW8⟩
      case measure => simp [intOf];omega
    · have k0 : decide ((i : Int) < (L.length : Int)) = false := decide_eq_false (by omega)
      have HE := Aside0.mk (show K = L by rw [HK.out,List.take_of_length_le (by omega)])
      go_wp2_with (fail)
      go_ret
      exact ⟨_,rfl,by rw [← HE.out];exact HN.out,B2.out.trans (NW.out.below.mono B2.out.size)⟩
end Go.Proofs.Ytcenlehfbgnphaa.Z
end
section
namespace Go.Proofs.Ytcenlehfbgnphaa.Z
set_option linter.unusedVariables false
set_option linter.unusedSimpArgs false
open Go.RowKit Go.Proofs.YtcenlehfbgnphaaW.PrintWords Go.Proofs.YtcenlehfbgnphaaW.PrintLast Go.Proofs.YtcenlehfbgnphaaW.PrintMore
structure S120 where
  f0 : Int
  f1 : ByteArray
  f2 : ByteArray
end Go.Proofs.Ytcenlehfbgnphaa.Z
end
section
namespace Go.Proofs.Ytcenlehfbgnphaa.Z
set_option linter.unusedVariables false
set_option linter.unusedSimpArgs false
open Go.RowKit Go.Shelf Go.Maps Go.Proofs.YtcenlehfbgnphaaW.PrintWords Go.Proofs.YtcenlehfbgnphaaW.PrintLast Go.Proofs.YtcenlehfbgnphaaW.PrintMore Go.Proofs.Ytcenlehfbgnphaa.Cmp
theorem row_at {w : World} {A : Option Addr} {L : List Tn} (h : Kd.C kTn w A L.length (L.map tn)) {i : Nat} {x : Tn} (hx : L[i]? = some x) :
    ∃ ad,A = some ad ∧ w.cell? (ad.add (i * 2)) = some (.string x.1) ∧ w.cell? ⟨(ad.add (i * 2)).block,(ad.add (i * 2)).off + 1,none⟩ = some (.string x.2) := by
  have hi : i < L.length := (List.getElem?_eq_some_iff.1 hx).1
  obtain ⟨ad,rfl,h1,h2⟩ := at_T92 h (i : Int) (by omega) (by omega)
  have e : rd_T92 (L.map tn) (i : Int) = tn x := by
    unfold rd_T92
    rw [Int.toNat_natCast,List.getD_eq_getElem?_getD,List.getElem?_map,hx]
    rfl
  rw [e,Int.toNat_natCast] at h1 h2
  exact ⟨ad,rfl,h1,h2⟩
end Go.Proofs.Ytcenlehfbgnphaa.Z
end
section
namespace Go.Proofs.Ytcenlehfbgnphaa.Z
set_option linter.unusedVariables false
set_option linter.unusedSimpArgs false
open Go.RowKit Go.Shelf Go.Maps Go.Proofs.YtcenlehfbgnphaaW.PrintWords Go.Proofs.YtcenlehfbgnphaaW.PrintLast Go.Proofs.YtcenlehfbgnphaaW.PrintMore Go.Proofs.Ytcenlehfbgnphaa.Cmp
abbrev Us := S45
abbrev kUs : Kd Us := k45
def useF (l : List En) (L : List Tn) (n : Nm) : Int × Int := fitF (sumT l (undL L n))
def useX (l : List En) (L : List Tn) (rule : Nm) (lim : Int) (x : Tn) : Us := ⟨rule,x.1,(useF l L x.1).1,lim⟩
def ofCode (l : List En) (L : List Tn) : List Tn → Int
  | [] => 0
  | x :: r => if (useF l L x.1).2 = 0 then ofCode l L r else (useF l L x.1).2
theorem kUs_mkF (W : World) (ok : Nat → Prop) (x : Us) : Kd.FK kUs W ok x [.string x.f0,.string x.f1,.int .i64 x.f2,.int .i64 x.f3] := fun W2 _ => k45_mk W2 x
set_option maxHeartbeats 2000000 in
set_option maxRecDepth 100000 in
theorem use_of0 (rule : Nm) (lim : Int) (A : Option Addr) (n c : Nat) (w : World) : Calls Try.prog 57 #[.string rule,.int .i64 lim,.pointer none,.slice A n c] w fun e w' => e = .returned (.tuple #[.slice none 0 0,.int .i64 1]) ∧ w' = w := by
  go_enter Try.func57,Try.ntmps57
  go_wp2
  go_ret2
  exact ⟨rfl,rfl⟩
set_option maxHeartbeats 8000000 in
set_option maxRecDepth 100000 in
theorem use_of {w : World} {t b : Nat} {L : List Tn} (h : TreeAt w t b L) (hO : Ok L) (rule : Nm) (lim : Int) {A : Option Addr} {c : Nat} {l : List En} (hC : Kd.C k83 w A l.length l) (hc : l.length ≤ c) (hN : NumE l) :
    Calls Try.prog 57 #[.string rule,.int .i64 lim,.pointer (some ⟨t,0,none⟩),.slice A l.length c] w fun e w' => ∃ v,e = .returned (.tuple #[v,.int .i64 (ofCode l L L)]) ∧ (ofCode l L L = 0 → Kd.N kUs 45 w' w.heap.size (fun _ => True) v (L.map (useX l L rule lim))) ∧ (ofCode l L L ≠ 0 → v = .slice none 0 0) ∧ Below w.heap.size w w' := by
  have HA := Aside0.mk h
  have HO := Aside0.mk hO
  have HC := Aside0.mk hC
  have HK := Aside0.mk hc
  have HN := Aside0.mk hN
  have L24 := hO.len
  obtain ⟨code,hcode⟩ : ∃ code,ofCode l L L = code := ⟨_,rfl⟩
  have HCODE := Aside0.mk hcode
  rw [hcode]
  obtain ⟨LL,hLL⟩ : ∃ LL,l.length = LL := ⟨_,rfl⟩
  have HLL := Aside0.mk hLL
  rw [hLL]
  clear h hO hC hc hN hcode hLL
  go_enter Try.func57,Try.ntmps57
  go_wp2_with (fail)
  refine (ten_all HA.out HO.out).mono ?_
  rintro e w1 ⟨v1,rfl,hN1,hb1⟩
  have A1 := Aside0.mk (HA.out.below hb1)
  have B1 := Aside0.mk (NextW.mk hb1 hb1.size)
  obtain ⟨Al,cl,rfl,hcl,hCl⟩ := Kd.N_reads hN1
  rw [List.length_map] at hcl hCl ⊢
  have CL := Aside0.mk hCl
  have C1 := Aside0.mk (Kd.C_below HC.out hb1)
  clear hb1 hN1 hCl hcl HA
  go_wp2_with (fail)
  go_loopw [10,20] (fun ov iv wr => ∃ i : Nat,iv = .int .i64 (i : Int) ∧ i ≤ L.length ∧ Aside0 (ofCode l L (L.drop i) = code) ∧ Aside0 (Kd.N kUs 45 wr w1.heap.size (fun _ => True) ov ((L.take i).map (useX l L rule lim))) ∧ Aside0 (NextW w1.heap.size w1 wr)) (fun _ iv _ => L.length - (intOf iv).toNat)
  case atStart => exact ⟨0,rfl,Nat.zero_le _,HCODE,⟨Kd.N_nil _ _ _ _ _⟩,⟨NextW.refl _⟩⟩
  case round =>
    rename World => wr
    obtain ⟨i,rfl,hi,HCD,HV,NW⟩ := hrel
    by_cases hlt : i < L.length
    · have k0 : decide ((i : Int) < (L.length : Int)) = true := decide_eq_true (by omega)
      obtain ⟨x,hx⟩ : ∃ x,L[i]? = some x := ⟨L[i],List.getElem?_eq_getElem hlt⟩
      obtain ⟨ad,rfl,c0,c1⟩ := row_at (Kd.C_below CL.out NW.out.below) hx
      have DR := Aside0.mk (show L.drop i = x :: L.drop (i + 1) by
        have h1 : L[i] = x := by rw [List.getElem?_eq_getElem hlt] at hx;exact Option.some.inj hx
        rw [← h1]
        exact List.drop_eq_getElem_cons hlt)
      have TK := Aside0.mk (show L.take (i + 1) = L.take i ++ [x] by rw [List.take_add_one,hx];rfl)
      have p0 : (0 : Int) ≤ (i : Int) := by omega
      have p1 : (i : Int) < (L.length : Int) := by omega
      obtain ⟨x1,x2⟩ := x
      simp only at c0 c1
      have hbx : Below wr.heap.size wr (wr.alloc (.cells #[.string x1,.string x2] 92)) := below_alloc (Below.refl _ _) _
      have A2 := Aside0.mk ((A1.out.below NW.out.below).below hbx)
      have N2 := Aside0.mk (NW.out.next hbx)
      have V2 := Aside0.mk (Kd.N_below HV.out hbx)
      have BX := Aside0.mk (blk_new wr (.cells #[.string x1,.string x2] 92))
      obtain ⟨gx,hgx⟩ : ∃ gx,wr.heap.size = gx := ⟨_,rfl⟩
      have HGX := Aside0.mk hgx
      rw [hgx] at BX
      clear hx hbx NW HV
      go_wp2_with (fail)
      refine (ten_under A2.out HO.out.sh HO.out.psize (by omega) x1).mono ?_
      rintro e w3 ⟨v3,rfl,hrow,hb3⟩
      obtain ⟨U,hU⟩ : ∃ U,undL L x1 = U := ⟨_,rfl⟩
      have HU := Aside0.mk hU
      have U24 : U.length ≤ 24 := by rw [← hU];have := und_lenL L x1;omega
      rw [hU] at hrow
      obtain ⟨Au,cu,rfl,_,hUC⟩ := hrow.reads
      have UC := Aside0.mk hUC
      have N3 := Aside0.mk (N2.out.next hb3)
      have V3 := Aside0.mk (Kd.N_below V2.out hb3)
      have BX3 := Aside0.mk ((hb3.block gx (blk_lt BX.out)).trans BX.out)
      have C3 := Aside0.mk (Kd.C_below C1.out N3.out.below)
      obtain ⟨F,hF⟩ : ∃ F,fitF (sumT l U) = F := ⟨_,rfl⟩
      have HF := Aside0.mk (show useF l L x1 = F by unfold useF;rw [hU,hF])
      have SM := Aside0.mk (use_sum (cn := cu) C3.out HK.out HN.out UC.out U24)
      rw [hF,HLL.out] at SM
      clear hb3 hrow hUC hU hF A2 N2 V2 BX
      go_wp2_with (fail)
      refine SM.out.mono ?_
      rintro e w4 ⟨rfl,hb4⟩
      have N4 := Aside0.mk (N3.out.next hb4)
      have V4 := Aside0.mk (Kd.N_below V3.out hb4)
      have BX4 := Aside0.mk ((hb4.block gx (blk_lt BX3.out)).trans BX3.out)
      have y0 := (blk_cell BX4.out 0).trans rfl
      obtain ⟨f1,f2⟩ := F
      simp only at *
      clear hb4 N3 V3 BX3 SM UC C3
      have HCD2 := Aside0.mk (show (if f2 = 0 then ofCode l L (L.drop (i + 1)) else f2) = code by
        have h1 := HCD.out
        rw [DR.out] at h1
        show _ = code
        rw [← h1]
        show _ = (if (useF l L x1).2 = 0 then ofCode l L (L.drop (i + 1)) else (useF l L x1).2)
        rw [HF.out])
      by_cases hz : f2 = 0
      · have q0 : (f2 == 0) = true := by rw [hz];rfl
        have q1 : (f2 != 0) = false := by rw [hz];rfl
        obtain ⟨K,hK⟩ : ∃ K,(L.take i).map (useX l L rule lim) = K := ⟨_,rfl⟩
        have HKK := Aside0.mk hK
        have hV4 := V4.out
        rw [hK] at hV4
        obtain ⟨Ao,co,rfl⟩ := Kd.N_slice hV4
        obtain ⟨m,hm⟩ : ∃ m,K.length = m := ⟨_,rfl⟩
        have HM := Aside0.mk hm
        have m24 : m ≤ 24 := by rw [← hm,← hK,List.length_map,List.length_take];omega
        rw [hm] at hV4 ⊢
        have V5 := Aside0.mk hV4
        have NEX := Aside0.mk (show (useX l L rule lim (x1,x2)) = ⟨rule,x1,f1,lim⟩ by unfold useX;rw [show (x1,x2).1 = x1 from rfl,HF.out])
        have HC5 := Aside0.mk (show ofCode l L (L.drop (i + 1)) = code by have := HCD2.out;rw [if_pos hz] at this;exact this)
        have LE4 := Aside0.mk N4.out.le
        clear hK hm hV4 hz V4
        go_wp2_with (((with_reducible refine gate_builtin (b := .append) (xs := #[.tmp 36,.tmp 43]) rfl ?_);at_builtin;refine Kd.N_append kUs (w0 := w1) w1.heap.size rfl (.tmp 36) (.tmp 43) 53 45 (.agg #[(.string ⟨#[]⟩),(.string ⟨#[]⟩),(.int .i64 0),(.int .i64 0)]) 48 rfl Try.underlying53 info45 rfl (by decide) (by omega) (.slice Ao m co) K ⟨rule,x1,f1,lim⟩ [.string rule,.string x1,.int .i64 f1,.int .i64 lim] (fun _ => True) (fun _ => False) rfl rfl (kUs_mkF _ _ ⟨rule,x1,f1,lim⟩) (fun k hk => hk.elim) (fun _ _ => trivial) V5.out N4.out.below LE4.out (by rw [HM.out];omega) ?_;intro v2 w8 hv hb3 hg hat;have V8 := Aside0.mk (show Kd.N kUs 45 w8 w1.heap.size (fun _ => True) v2 ((L.take (i + 1)).map (useX l L rule lim)) by (rw [TK.out,List.map_append,List.map_cons,List.map_nil,NEX.out,HKK.out];exact hv));have N8 := Aside0.mk (show NextW w1.heap.size w1 w8 from ⟨hb3,Nat.le_trans LE4.out hg.size⟩);clear hv hb3 hg hat))
        exact ⟨⟨i + 1,by rw [show (((i + 1 : Nat)) : Int) = (i : Int) + 1 from by omega],hlt,HC5,V8,N8⟩,by simp [intOf];omega⟩
      · have q0 : (f2 == 0) = false := beq_eq_false_iff_ne.2 hz
        have q1 : (f2 != 0) = true := by rw [bne,q0];rfl
        have HE := Aside0.mk (show code = f2 by have := HCD2.out;rw [if_neg hz] at this;exact this.symm)
        have HZ := Aside0.mk hz
        clear hz
        go_wp2_with (fail)
        go_ret2
        exact ⟨_,by rw [HE.out];rfl,fun h => absurd (HE.out.symm.trans h) HZ.out,fun _ => rfl,B1.out.below.trans (N4.out.below.mono B1.out.le)⟩
    · have k0 : decide ((i : Int) < (L.length : Int)) = false := decide_eq_false (by omega)
      have HE := Aside0.mk (show code = 0 by
        have := HCD.out
        rw [List.drop_eq_nil_of_le (by omega)] at this
        exact this.symm)
      have HT := Aside0.mk (show L.take i = L from List.take_of_length_le (by omega))
      go_wp2_with (fail)
      go_ret2
      exact ⟨_,by rw [HE.out];rfl,fun _ => by rw [HT.out] at HV;exact Kd.N_lower HV.out B1.out.le,fun h => absurd HE.out h,B1.out.below.trans (NW.out.below.mono B1.out.le)⟩
end Go.Proofs.Ytcenlehfbgnphaa.Z
end
section
namespace Go.Proofs.YtcenlehfbgnphaaW.PrintMore
open Go.RowKit Go.Proofs.YtcenlehfbgnphaaW.PrintWords Go.Proofs.YtcenlehfbgnphaaW.PrintLast
section
variable {P : Program} {ops : Array Oper} {Q : Exit → Act → World → Prop}
end
end Go.Proofs.YtcenlehfbgnphaaW.PrintMore
namespace Go.Proofs.YtcenlehfbgnphaaW.PrintWords
open Go.RowKit
section
variable {P : Program} {ops : Array Oper} {Q : Exit → Act → World → Prop} {o : Oper} {rest : List Oper} {a : Act}
end
end Go.Proofs.YtcenlehfbgnphaaW.PrintWords
namespace Go.Proofs.YtcenlehfbgnphaaW.PrintWords
open Go.RowKit
end Go.Proofs.YtcenlehfbgnphaaW.PrintWords
end
section
namespace Go.Proofs.Ytcenlehfbgnphaa.Z
set_option linter.unusedVariables false
set_option linter.unusedSimpArgs false
open Go.RowKit Go.Proofs.YtcenlehfbgnphaaW.PrintWords Go.Proofs.YtcenlehfbgnphaaW.PrintLast Go.Proofs.YtcenlehfbgnphaaW.PrintMore
def hitB (a0 a1 : ByteArray) (u : S45) : Bool := u.f0.toList == a0.toList && u.f1.toList == a1.toList
set_option maxHeartbeats 2000000 in
set_option maxRecDepth 100000 in
theorem find1_yes (a0 a1 : ByteArray) (u : S45) (g0 g1 : Nat) (w : World) (h0 : w.heap[g0]? = some (.cells #[.string a0] 9 (0,0))) (h1 : w.heap[g1]? = some (.cells #[.string a1] 9 (0,0))) :
    Calls Try.prog 84 #[.agg #[.string u.f0,.string u.f1,.int .i64 u.f2,.int .i64 u.f3],.pointer (some ⟨g0,0,none⟩),.pointer (some ⟨g1,0,none⟩)] w fun e w' => e = .returned (.bool (hitB a0 a1 u)) ∧ Below w.heap.size w w' := by
  have c0 := blk_cell (blk_alloc h0 (.cells #[.string u.f0,.string u.f1,.int .i64 u.f2,.int .i64 u.f3] 45)) 0
  have c1 := blk_cell (blk_alloc h1 (.cells #[.string u.f0,.string u.f1,.int .i64 u.f2,.int .i64 u.f3] 45)) 0
  simp only [List.getElem?_toArray,List.getElem?_cons_zero,List.getElem?_cons_succ] at c0 c1
  unfold hitB
  clear h0 h1
  cases b0 : u.f0.toList == a0.toList
  · go_enter Try.func84,Try.ntmps84
    go_wp2
    go_ret
    exact ⟨by rfl,below_alloc (Below.refl _ _) _⟩
  · cases b1 : u.f1.toList == a1.toList
    · go_enter Try.func84,Try.ntmps84
      go_wp2
      go_ret
      exact ⟨by rfl,below_alloc (Below.refl _ _) _⟩
    · go_enter Try.func84,Try.ntmps84
      go_wp2
      go_ret
      exact ⟨by rfl,below_alloc (Below.refl _ _) _⟩
def FoundAt (a0 a1 : ByteArray) (l : List S45) (r : Int) : Prop := (r = -1 ∧ ∀ j,j < l.length → hitB a0 a1 (rd_T45 l (j : Int)) = false) ∨ ∃ j,j < l.length ∧ r = (j : Int) ∧ hitB a0 a1 (rd_T45 l (j : Int)) = true ∧ ∀ i,i < j → hitB a0 a1 (rd_T45 l (i : Int)) = false
def FoundPost (a0 a1 : ByteArray) (l : List S45) (w : World) (e : Ending) (w' : World) : Prop := ∃ r : Int,e = .returned (.int .i64 r) ∧ FoundAt a0 a1 l r ∧ Below w.heap.size w w'
set_option maxHeartbeats 2000000 in
set_option maxRecDepth 100000 in
theorem index_func (a0 a1 : ByteArray) (A : Option Addr) (c : Nat) (l : List S45) (g0 g1 : Nat) (w : World) (h0 : w.heap[g0]? = some (.cells #[.string a0] 9 (0,0))) (h1 : w.heap[g1]? = some (.cells #[.string a1] 9 (0,0)))
    (hr : Kd.C k45 w A l.length l) (hc : l.length ≤ c) (hl : l.length ≤ 1000000) :
    Calls Try.prog 83 #[.slice A l.length c,.func (.func 84) #[] #[.pointer (some ⟨g0,0,none⟩),.pointer (some ⟨g1,0,none⟩)]] w (FoundPost a0 a1 l w) := by
  have hu45 := Try.underlying45
  have HR := Aside0.mk hr
  have HC := Aside0.mk hc
  have H0 := Aside0.mk h0
  have H1 := Aside0.mk h1
  clear hr hc h0 h1
  have HB := Aside0.mk (Below.refl w.heap.size w)
  go_enter Try.func83,Try.ntmps83
  go_wp2
  go_loopw [8,5] (fun i v wr => ∃ k : Nat,i = .int .i64 (k : Int) ∧ k ≤ l.length ∧ Aside0 (∀ j,j < k → hitB a0 a1 (rd_T45 l (j : Int)) = false) ∧ Aside0 (Below w.heap.size w wr)) (fun i _ _ => l.length - (intOf i).toNat)
  case atStart => exact ⟨0,rfl,Nat.zero_le _,⟨fun j hj => absurd hj (Nat.not_lt_zero j)⟩,HB⟩
  case round =>
    clear HB
    obtain ⟨k,rfl,hk,HN,HB⟩ := hrel
    by_cases hlt : k < l.length
    · obtain ⟨ad,e,x0,x1,x2,x3⟩ := at_T45 HR.out (k : Int) (by omega) (by omega)
      cases e
      replace x0 := (HB.out.cell (World.block_lt_of_cell? w _ x0)).trans x0
      replace x1 := (HB.out.cell (World.block_lt_of_cell? w _ x1)).trans x1
      replace x2 := (HB.out.cell (World.block_lt_of_cell? w _ x2)).trans x2
      replace x3 := (HB.out.cell (World.block_lt_of_cell? w _ x3)).trans x3
      simp only [Int.toNat_natCast] at x0 x1 x2 x3
      have G0 := Aside0.mk ((HB.out.block g0 (blk_lt H0.out)).trans H0.out)
      have G1 := Aside0.mk ((HB.out.block g1 (blk_lt H1.out)).trans H1.out)
      cases hb : hitB a0 a1 (rd_T45 l (k : Int))
      · have HH := Aside0.mk hb
        clear hb
        go_wp2_with (fail)
        refine (find1_yes a0 a1 (rd_T45 l (k : Int)) g0 g1 _ G0.out G1.out).mono ?_
        rintro e w' ⟨rfl,hb1⟩
        rw [HH.out]
        have HB1 := Aside0.mk (HB.out.trans (hb1.mono HB.out.size))
        clear hb1 HB G0 G1 x0 x1 x2 x3
        go_wp2_with (fail)
        go_roundw
        case rel =>
          refine ⟨k + 1,by go_num,by omega,⟨fun j hj => ?_⟩,HB1⟩
          rcases Nat.lt_or_ge j k with c | c
          · exact HN.out j c
          · obtain rfl : j = k := by omega
            exact HH.out
        case measure => simp [intOf];omega
      · have HH := Aside0.mk hb
        clear hb
        go_wp2_with (fail)
        refine (find1_yes a0 a1 (rd_T45 l (k : Int)) g0 g1 _ G0.out G1.out).mono ?_
        rintro e w' ⟨rfl,hb1⟩
        rw [HH.out]
        have HB1 := Aside0.mk (HB.out.trans (hb1.mono HB.out.size))
        clear hb1 HB G0 G1 x0 x1 x2 x3
        go_wp2_with (fail)
        go_ret
        exact ⟨_,rfl,.inr ⟨k,hlt,rfl,HH.out,HN.out⟩,HB1.out⟩
    · obtain rfl : k = l.length := by omega
      go_wp2_with (fail)
      go_ret
      exact ⟨_,rfl,.inl ⟨rfl,HN.out⟩,HB.out⟩
def useOf (o : Option S45) : ByteArray × ByteArray × Int × Int × Bool := match o with
  | some u => (u.f0,u.f1,u.f2,u.f3,true)
  | none => ((⟨#[]⟩ : ByteArray),(⟨#[]⟩ : ByteArray),0,0,false)
def usage_Find.f (a0 : ByteArray) (a1 : ByteArray) (l2 : List (S45)) : Option (ByteArray × ByteArray × Int × Int × Bool) := if l2.length ≤ 1000000 then some (useOf (l2.find? (hitB a0 a1))) else none
theorem rd_get (l : List S45) (j : Nat) (h : j < l.length) : rd_T45 l (j : Int) = l[j] := by
  unfold rd_T45
  rw [Int.toNat_natCast,List.getD_eq_getElem?_getD,List.getElem?_eq_getElem h]
  rfl
theorem found_none {a0 a1 : ByteArray} {l : List S45} (h : ∀ j,j < l.length → hitB a0 a1 (rd_T45 l (j : Int)) = false) : l.find? (hitB a0 a1) = none := by
  rw [List.find?_eq_none]
  intro x hx
  obtain ⟨j,hj,rfl⟩ := List.getElem_of_mem hx
  rw [← rd_get l j hj,h j hj]
  exact Bool.false_ne_true
theorem found_some {a0 a1 : ByteArray} {l : List S45} {j : Nat} (hj : j < l.length) (h : hitB a0 a1 (rd_T45 l (j : Int)) = true) (hn : ∀ i,i < j → hitB a0 a1 (rd_T45 l (i : Int)) = false) : l.find? (hitB a0 a1) = some (rd_T45 l (j : Int)) := by
  rw [rd_get l j hj] at h ⊢
  rw [List.find?_eq_some_iff_getElem]
  refine ⟨h,j,hj,rfl,fun i hi => ?_⟩
  rw [← rd_get l i (by omega),hn i hi]
  rfl
set_option maxHeartbeats 2000000 in
set_option maxRecDepth 100000 in
theorem usage_find (a0 a1 : ByteArray) (A : Option Addr) (c : Nat) (l : List S45) (w : World) (hr : Kd.C k45 w A l.length l) (hc : l.length ≤ c) (hl : l.length ≤ 1000000) :
    Calls Try.prog 55 #[.string a0,.string a1,.slice A l.length c] w fun e w' => e = .returned (.tuple #[.agg #[.string (useOf (l.find? (hitB a0 a1))).1,.string (useOf (l.find? (hitB a0 a1))).2.1,.int .i64 (useOf (l.find? (hitB a0 a1))).2.2.1,.int .i64 (useOf (l.find? (hitB a0 a1))).2.2.2.1],.bool (useOf (l.find? (hitB a0 a1))).2.2.2.2]) ∧ Below w.heap.size w w' := by
  have hu45 := Try.underlying45
  obtain ⟨B,hB⟩ : ∃ B,w.heap.size = B := ⟨_,rfl⟩
  have e0 := blk_alloc (blk_alloc (blk_new w (.cells #[.string a0] 9)) (.cells #[.string a1] 9)) (.cells #[.string (⟨#[]⟩ : ByteArray),.string (⟨#[]⟩ : ByteArray),.int .i64 0,.int .i64 0] 45)
  have e1 := blk_alloc (blk_new (w.alloc (.cells #[.string a0] 9)) (.cells #[.string a1] 9)) (.cells #[.string (⟨#[]⟩ : ByteArray),.string (⟨#[]⟩ : ByteArray),.int .i64 0,.int .i64 0] 45)
  have e2 := blk_new ((w.alloc (.cells #[.string a0] 9)).alloc (.cells #[.string a1] 9)) (.cells #[.string (⟨#[]⟩ : ByteArray),.string (⟨#[]⟩ : ByteArray),.int .i64 0,.int .i64 0] 45)
  have eB : Below B w (((w.alloc (.cells #[.string a0] 9)).alloc (.cells #[.string a1] 9)).alloc (.cells #[.string (⟨#[]⟩ : ByteArray),.string (⟨#[]⟩ : ByteArray),.int .i64 0,.int .i64 0] 45)) := by
    rw [← hB];exact below_alloc (below_alloc (below_alloc (Below.refl _ _) _) _) _
  rw [show (w.alloc (Obj.cells #[.string a0] 9)).heap.size = B + 1 by rw [← hB];simp] at e1
  rw [show ((w.alloc (Obj.cells #[.string a0] 9)).alloc (Obj.cells #[.string a1] 9)).heap.size = B + 1 + 1 by rw [← hB];simp] at e2
  rw [hB] at e0
  have eS : B + 3 ≤ (((w.alloc (.cells #[.string a0] 9)).alloc (.cells #[.string a1] 9)).alloc (.cells #[.string (⟨#[]⟩ : ByteArray),.string (⟨#[]⟩ : ByteArray),.int .i64 0,.int .i64 0] 45)).heap.size := by rw [← hB];simp
  have HR := Aside0.mk (Kd.C_below hr (show Below w.heap.size w _ by rw [hB];exact eB))
  have E0 := Aside0.mk e0
  have E1 := Aside0.mk e1
  have E2 := Aside0.mk e2
  have EB := Aside0.mk eB
  have ES := Aside0.mk eS
  have HB0 := Aside0.mk hB
  have HC := Aside0.mk hc
  clear hr hc e0 e1 e2 eB eS
  go_enter Try.func55,Try.ntmps55
  go_wp2_with (fail)
  clear hB
  change Calls Try.prog 83 _ (((w.alloc (.cells #[.string a0] 9)).alloc (.cells #[.string a1] 9)).alloc (.cells #[.string (⟨#[]⟩ : ByteArray),.string (⟨#[]⟩ : ByteArray),.int .i64 0,.int .i64 0] 45)) _
  generalize ((w.alloc (.cells #[.string a0] 9)).alloc (.cells #[.string a1] 9)).alloc (.cells #[.string (⟨#[]⟩ : ByteArray),.string (⟨#[]⟩ : ByteArray),.int .i64 0,.int .i64 0] 45) = W3 at *
  refine (index_func a0 a1 A c l B (B + 1) W3 E0.out E1.out HR.out HC.out hl).mono ?_
  rintro e w1 ⟨r,rfl,hf,hb⟩
  have E3 := Aside0.mk (blk_below E2.out hb)
  have HR1 := Aside0.mk (Kd.C_below HR.out hb)
  have EB1 := Aside0.mk (EB.out.trans (hb.mono (by have := ES.out;omega)))
  have z0 := blk_frozen E3.out 0
  have z1 := blk_frozen E3.out 1
  have z2 := blk_frozen E3.out 2
  have z3 := blk_frozen E3.out 3
  have c0 := blk_cell E3.out 0
  have c1 := blk_cell E3.out 1
  have c2 := blk_cell E3.out 2
  have c3 := blk_cell E3.out 3
  simp only [List.getElem?_toArray,List.getElem?_cons_zero,List.getElem?_cons_succ] at c0 c1 c2 c3
  rcases hf with ⟨rfl,hn⟩ | ⟨j,hj,rfl,hy,hn⟩
  · have HF := Aside0.mk (found_none hn)
    clear hn hb HR HR1 E0 E1 E2 EB ES
    go_wp2_with (fail)
    refine bodyPost_ret (results_ct rfl _ _ (B + 1 + 1) 45 #[.string (⟨#[]⟩ : ByteArray),.string (⟨#[]⟩ : ByteArray),.int .i64 0,.int .i64 0] (0,0) _ rfl (by (with_reducible repeat (first | refine blk_drewN ?_ _ | refine blk_drew ?_ | refine blk_alloc ?_ _));refine blk_put (cs := #[.string (⟨#[]⟩ : ByteArray),.string (⟨#[]⟩ : ByteArray),.int .i64 0,.int .i64 0]) ?_ 3 _ rfl;refine blk_put (cs := #[.string (⟨#[]⟩ : ByteArray),.string (⟨#[]⟩ : ByteArray),.int .i64 0,.int .i64 0]) ?_ 2 _ rfl;refine blk_put (cs := #[.string (⟨#[]⟩ : ByteArray),.string (⟨#[]⟩ : ByteArray),.int .i64 0,.int .i64 0]) ?_ 1 _ rfl;refine blk_put (cs := #[.string (⟨#[]⟩ : ByteArray),.string (⟨#[]⟩ : ByteArray),.int .i64 0,.int .i64 0]) ?_ 0 _ rfl;exact E3.out) Try.underlying45 rfl (by kernel_rfl)) rfl ?_
    exact ⟨by rw [HF.out];rfl,by rw [HB0.out];exact (((EB1.out.setCell (by show B ≤ B + 1 + 1;omega) _).setCell (by show B ≤ B + 1 + 1;omega) _).setCell (by show B ≤ B + 1 + 1;omega) _).setCell (by show B ≤ B + 1 + 1;omega) _⟩
  · have HF := Aside0.mk (found_some hj hy hn)
    obtain ⟨ad,e,x0,x1,x2,x3⟩ := at_T45 HR1.out (j : Int) (by omega) (by omega)
    cases e
    simp only [Int.toNat_natCast] at x0 x1 x2 x3
    clear hn hb hy HR HR1 E0 E1 E2 EB ES
    generalize rd_T45 l (j : Int) = u at *
    go_wp2_with (fail)
    refine bodyPost_ret (results_ct rfl _ _ (B + 1 + 1) 45 #[.string u.f0,.string u.f1,.int .i64 u.f2,.int .i64 u.f3] (0,0) _ rfl (by refine blk_put (cs := #[.string u.f0,.string u.f1,.int .i64 u.f2,.int .i64 0]) ?_ 3 _ rfl;refine blk_put (cs := #[.string u.f0,.string u.f1,.int .i64 0,.int .i64 0]) ?_ 2 _ rfl;refine blk_put (cs := #[.string u.f0,.string (⟨#[]⟩ : ByteArray),.int .i64 0,.int .i64 0]) ?_ 1 _ rfl;refine blk_put (cs := #[.string (⟨#[]⟩ : ByteArray),.string (⟨#[]⟩ : ByteArray),.int .i64 0,.int .i64 0]) ?_ 0 _ rfl;exact E3.out) Try.underlying45 rfl (by kernel_rfl)) rfl ?_
    exact ⟨by rw [HF.out];rfl,by rw [HB0.out];exact (((EB1.out.setCell (by show B ≤ B + 1 + 1;omega) _).setCell (by show B ≤ B + 1 + 1;omega) _).setCell (by show B ≤ B + 1 + 1;omega) _).setCell (by show B ≤ B + 1 + 1;omega) _⟩
theorem usage_Find.calls (a0 : ByteArray) (a1 : ByteArray) (A2 : Option Addr) (c2 : Nat) (l2 : List (S45)) (r1 : ByteArray) (r2 : ByteArray) (r3 : Int) (r4 : Int) (r5 : Bool) (w : World) (hr2 : Kd.C k45 w A2 l2.length l2) (hc2 : l2.length ≤ c2) (h : usage_Find.f a0 a1 l2 = some (r1,r2,r3,r4,r5)) :
    Calls Try.prog 55 #[.string a0,.string a1,.slice A2 l2.length c2] w fun e w' => e = .returned (.tuple #[.agg #[.string r1,.string r2,.int .i64 r3,.int .i64 r4],.bool r5]) ∧ Below w.heap.size w w' := by
  unfold usage_Find.f at h
  by_cases hl : l2.length ≤ 1000000
  · rw [if_pos hl] at h
    have e := Option.some.inj h
    have := usage_find a0 a1 A2 c2 l2 w hr2 hc2 hl
    rw [e] at this
    exact this
  · rw [if_neg hl] at h
    exact absurd h (by simp)
end Go.Proofs.Ytcenlehfbgnphaa.Z
end
section
namespace Go.Proofs.Ytcenlehfbgnphaa.Z
open Go.RowKit Go.Proofs.YtcenlehfbgnphaaW.PrintWords Go.Proofs.YtcenlehfbgnphaaW.PrintLast Go.Proofs.YtcenlehfbgnphaaW.PrintMore
attribute [local go_sem] max2_int min2_int max_two min_two max_three min_three max_four min_four
set_option linter.unusedVariables false
set_option linter.unusedSimpArgs false
def verdererlaw27_row.f (a0 : ByteArray) (a1 : Int) : Option ((List (S85)) × Int) := some ((([(⟨3,false,0,a0⟩ : S85),(⟨2,false,a1,(⟨#[]⟩ : ByteArray)⟩ : S85)] : List (S85))),1)
set_option maxHeartbeats 8000000 in
set_option maxRecDepth 100000 in
theorem verdererlaw27_row.calls (a0 : ByteArray) (a1 : Int) (r1 : List (S85)) (r2 : Int) (w : World) (h : verdererlaw27_row.f a0 a1 = some (r1,r2)) :
    Calls Try.prog 82 #[.string a0,.int .i64 a1] w fun e w' => ∃ v0_ : Value,e = .returned (.agg #[v0_,.int .i64 r2]) ∧ Kd.R k85 85 w' w.heap.size (fun _ => True) v0_ r1 ∧ Below w.heap.size w w' := by
  have hu83 := Try.underlying83
  have hu85 := Try.underlying85
  have HB := Aside0.mk (Below.refl w.heap.size w)
  have H : (some ((([(⟨3,false,0,a0⟩ : S85),(⟨2,false,a1,(⟨#[]⟩ : ByteArray)⟩ : S85)] : List (S85))),1)) = some (r1,r2) := h
  clear h
  obtain ⟨y476,hy476⟩ : ∃ y_ : List (S85),y_ = (([(⟨3,false,0,a0⟩ : S85),(⟨2,false,a1,(⟨#[]⟩ : ByteArray)⟩ : S85)] : List (S85))) := ⟨_,rfl⟩
  replace H : (some (y476,1)) = some (r1,r2) := by first | (rw [hy476];with_reducible exact H) | (have H2_ := (Option.bind_some _ _).symm.trans H;rw [hy476];with_reducible exact H2_) | (have H2_ := (Option.bind_some _ _).symm.trans H;with_reducible exact H2_) | with_reducible exact H | (rw [hy476];exact H) | exact H
  have Ny476 := Aside0.mk hy476
  clear hy476
  simp only [Option.some.injEq,Prod.mk.injEq] at H
  obtain ⟨rfl,rfl⟩ := H
  go_enter Try.func82,Try.ntmps82
  go_wp2_with (first | ((with_reducible refine gate_dst (N := 4) rfl ?_);refine box_event ?hg (N := 4) ?hd (cs := #[.slice none 0 0,.int .i64 0]) (t := 83) ?hr ?_;(case hd => rfl);(case hg => rfl);(case hr => first | (go_simp;done) | (go_simp;rfl));intro gb475 hg w3 hbox hb;have n0_ := Aside0.mk (below_step (by repeat (first | (with_reducible first | exact HB.out | apply below_alloc | apply pw_below_drewN | apply below_drew1) | exact HB.out)) hb);have n1_ := Aside0.mk (hbox);have n2_ := Aside0.mk ((by rw [hg];exact (below_size (by repeat (first | (with_reducible first | exact HB.out | apply below_alloc | apply pw_below_drewN | apply below_drew1) | exact HB.out))) : w.heap.size ≤ gb475));have n3_ := Aside0.mk ((by rw [hg];exact (below_size (by repeat (first | (with_reducible first | exact HB.out | apply below_alloc | apply pw_below_drewN | apply below_drew1) | exact HB.out))) : w.heap.size ≤ gb475));clear HB;have HB := n0_;have BK475 := n1_;have GW475 := n2_;have GE475 := n3_;clear n0_ n1_ n2_ n3_;clear hb hbox hg) | ((with_reducible refine gate_dst (N := 9) rfl ?_);refine Kd.R_lit k85 _ 85 ?hg (N := 9) ?hd (xs := ([(⟨3,false,0,a0⟩ : S85),(⟨2,false,a1,(⟨#[]⟩ : ByteArray)⟩ : S85)] : List (S85))) (inner := [.int .i64 3,.bool false,.int .i64 0,.string a0,.int .i64 2,.bool false,.int .i64 a1,.string (⟨#[]⟩ : ByteArray)]) (ok := fun _ => True) (okp := fun _ => True) ?hr ?hp (fun _ hk => hk) trivial (Below.refl _ _) (Nat.le_refl _) (by simp) ?_;(case hd => rfl);(case hg => rfl);(case hr => first | (go_simp;done) | (go_simp;rfl));(case hp => exact (Reps.c4 (show Kd.M k85 _ _ _ (⟨3,false,0,a0⟩ : S85) [.int .i64 3,.bool false,.int .i64 0,.string a0] from (k85_mkM _ _ _ (⟨3,false,0,a0⟩ : S85) )) (Reps.c4 (show Kd.M k85 _ _ _ (⟨2,false,a1,(⟨#[]⟩ : ByteArray)⟩ : S85) [.int .i64 2,.bool false,.int .i64 a1,.string (⟨#[]⟩ : ByteArray)] from (k85_mkM _ _ _ (⟨2,false,a1,(⟨#[]⟩ : ByteArray)⟩ : S85) )) (Reps.none _ _))));intro v477 w4 ho5 hb hg_ hnew_;clear hg_ hnew_;(first | rw [← Ny476.out] at ho5 | (simp only [Int.reduceToNat] at ho5;rw [← Ny476.out] at ho5));have n0_ := Aside0.mk (Kd.R_lower ho5 (below_size (by repeat (first | (with_reducible first | exact HB.out | apply below_alloc | apply pw_below_drewN | apply below_drew1 | refine below_set ?_ GE475.out) | exact HB.out))));have n1_ := Aside0.mk (blk_below (g := gb475) (o := .cells #[.slice none 0 0,.int .i64 0] 83 (0,0)) (by (with_reducible repeat (first | refine blk_drewN ?_ _ | refine blk_drew ?_ | refine blk_alloc ?_ _));exact BK475.out) hb);have n2_ := Aside0.mk (below_step (by repeat (first | (with_reducible first | exact HB.out | apply below_alloc | apply pw_below_drewN | apply below_drew1 | refine below_set ?_ GE475.out) | exact HB.out)) hb);clear BK475;clear HB;have HO478 := n0_;have BK475 := n1_;have HB := n2_;clear n0_ n1_ n2_;clear hb ho5;obtain ⟨Ao6,co6,eo6⟩ := Kd.R_slice HO478.out;subst eo6;have hcz7_0 : w4.cell? ⟨gb475,0,none⟩ = some (.slice none 0 0) := (blk_cell BK475.out 0).trans rfl;have hcz7_1 : w4.cell? ⟨gb475,1,none⟩ = some (.int .i64 0) := (blk_cell BK475.out 1).trans rfl;have hfz7_0 := blk_frozen BK475.out 0;have hfz7_1 := blk_frozen BK475.out 1))
  refine bodyPost_ret (results_cell_row rfl _ _ gb475 83 #[.slice Ao6 y476.length co6,.int .i64 1] (0,0) _ rfl (by (with_reducible repeat (first | refine blk_drewN ?_ _ | refine blk_drew ?_ | refine blk_alloc ?_ _));refine blk_put (cs := #[.slice Ao6 y476.length co6,.int .i64 0]) ?_ 1 _ rfl;(with_reducible repeat (first | refine blk_drewN ?_ _ | refine blk_drew ?_ | refine blk_alloc ?_ _));refine blk_put (cs := #[.slice none 0 0,.int .i64 0]) ?_ 0 _ rfl;(with_reducible repeat (first | refine blk_drewN ?_ _ | refine blk_drew ?_ | refine blk_alloc ?_ _));exact BK475.out) Try.underlying83 rfl (by kernel_rfl)) rfl ?_
  exact ⟨_,by first | rfl | (simp [errW_none,errW_some] <;> rfl) | (simp [*,errW_none,errW_some] <;> rfl),by (with_reducible repeat (first | apply Kd.R_alloc | apply Kd.R_drewN | apply Kd.R_drew));exact Kd.R_mono (Kd.R_far (p := ⟨gb475,1,none⟩) (Kd.R_far (p := ⟨gb475,0,none⟩) (Kd.R_types HO478.out BK475.out (by decide)) (fun _ hk => hk.2) (.slice Ao6 y476.length co6)) (fun _ hk => hk.2) (.int .i64 1)) (fun _ hk => trivial),by repeat (first | (with_reducible first | exact HB.out | apply below_alloc | apply pw_below_drewN | apply below_drew1 | refine below_set ?_ GE475.out) | exact HB.out)⟩
end Go.Proofs.Ytcenlehfbgnphaa.Z
end
section
namespace Go.Proofs.Ytcenlehfbgnphaa.Z
set_option linter.unusedVariables false
set_option linter.unusedSimpArgs false
open Go.RowKit Go.Shelf Go.Maps Go.Proofs.YtcenlehfbgnphaaW.PrintWords Go.Proofs.YtcenlehfbgnphaaW.PrintLast Go.Proofs.YtcenlehfbgnphaaW.PrintMore Go.Proofs.Ytcenlehfbgnphaa.Cmp
def sq : Nm := ⟨#[113]⟩
def rowA : List S85 := [⟨3,false,0,sa⟩,⟨2,false,2,emp⟩]
def rowB : List S85 := [⟨3,false,0,sb⟩,⟨2,false,3,emp⟩]
def enK : List En := [⟨rowA,1⟩,⟨rowB,1⟩]
theorem row_A : verdererlaw27_row.f sa 2 = some (rowA,1) := by kernel_rfl
theorem row_B : verdererlaw27_row.f sb 3 = some (rowB,1) := by kernel_rfl
theorem num_K : NumE enK := by
  intro e he x hx
  simp only [enK,List.mem_cons,List.not_mem_nil,or_false] at he
  rcases he with rfl | rfl
  · simp only [rowA,List.mem_cons,List.not_mem_nil,or_false] at hx
    rcases hx with rfl | rfl <;> exact ⟨by decide,by decide⟩
  · simp only [rowB,List.mem_cons,List.not_mem_nil,or_false] at hx
    rcases hx with rfl | rfl <;> exact ⟨by decide,by decide⟩
def usK : List Us := [⟨sq,sa,5,9⟩,⟨sq,sb,3,9⟩]
theorem code_K : ofCode enK [(sa,emp),(sb,sa)] [(sa,emp),(sb,sa)] = 0 := by kernel_rfl
theorem us_K : ([(sa,emp),(sb,sa)] : List Tn).map (useX enK [(sa,emp),(sb,sa)] sq 9) = usK := by kernel_rfl
theorem find_K : usage_Find.f sq sb usK = some (sq,sb,3,9,true) := by kernel_rfl
theorem two_en {w : World} {g : Nat} {A0 A1 : Option Addr} {c0 c1 : Nat} (h : w.heap[g]? = some (.cells #[.slice A0 2 c0,.int .i64 1,.slice A1 2 c1,.int .i64 1] 83 (0,0)))
    (h0 : Kd.C k85 w A0 2 rowA) (k0 : 2 ≤ c0) (h1 : Kd.C k85 w A1 2 rowB) (k1 : 2 ≤ c1) : Kd.C k83 w (some ⟨g,0,none⟩) 2 enK :=
  ⟨rfl,by omega,fun _ => ⟨_,rfl,fun j p hj => by
    match j,hj with
    | 0,hj =>
      simp only [enK,List.getElem?_cons_zero,Option.some.injEq] at hj
      subst hj
      refine ⟨[.slice A0 2 c0,.int .i64 1],rfl,k83_mk w ⟨rowA,1⟩ k0 h0,fun i u hu => ?_⟩
      rw [Addr.add_lit,show 0 + (0 * k83.sz + i) = i by omega]
      match i,hu with
      | 0,hu => rw [blk_cell h 0];exact hu
      | 1,hu => rw [blk_cell h 1];exact hu
    | 1,hj =>
      simp only [enK,List.getElem?_cons_succ,List.getElem?_cons_zero,Option.some.injEq] at hj
      subst hj
      refine ⟨[.slice A1 2 c1,.int .i64 1],rfl,k83_mk w ⟨rowB,1⟩ k1 h1,fun i u hu => ?_⟩
      rw [Addr.add_lit,show 0 + (1 * k83.sz + i) = 2 + i by show 0 + (1 * 2 + i) = 2 + i;omega]
      match i,hu with
      | 0,hu => rw [blk_cell h 2];exact hu
      | 1,hu => rw [blk_cell h 3];exact hu⟩⟩
set_option maxHeartbeats 8000000 in
set_option maxRecDepth 100000 in
theorem known27 (w : World) : Calls Try.prog 54 #[] w fun e w' => e = .returned (.bool true) ∧ Below w.heap.size w w' := by
  have hu := Try.underlying45
  go_enter Try.func54,Try.ntmps54
  go_wp2_with (fail)
  refine (ten_new w).mono ?_
  rintro e w1 ⟨t,b,rfl,hA,hB,ht,hb⟩
  have A1 := Aside0.mk hA
  have N1 := Aside0.mk (NextW.mk hB hB.size)
  have HB := Aside0.mk hb
  clear hA hB
  go_wp2_with (fail)
  refine (ten_add A1.out Ok.nil sa emp (by decide) (by decide)).mono ?_
  rintro e w2 ⟨rfl,hA,hg⟩
  rw [kn1] at hA ⊢
  have A2 := Aside0.mk hA
  have N2 := Aside0.mk (show NextW w.heap.size w w2 from ⟨N1.out.below.grown hg N1.out.le (fun k e => by cases e;exact HB.out),Nat.le_trans N1.out.le hg.size⟩)
  clear hA hg A1 N1
  go_wp2_with (fail)
  refine (ten_add A2.out ok1 sb sa (by decide) (by decide)).mono ?_
  rintro e w3 ⟨rfl,hA,hg⟩
  rw [kn2] at hA ⊢
  have A3 := Aside0.mk hA
  have N3 := Aside0.mk (show NextW w.heap.size w w3 from ⟨N2.out.below.grown hg N2.out.le (fun k e => by cases e;exact HB.out),Nat.le_trans N2.out.le hg.size⟩)
  clear hA hg A2 N2
  go_wp2_with (fail)
  refine (verdererlaw27_row.calls sa 2 rowA 1 w3 row_A).mono ?_
  rintro e w4 ⟨v4,rfl,hR,hb4⟩
  obtain ⟨Aa,ca,rfl⟩ := Kd.R_slice hR
  obtain ⟨_,hca,hCa⟩ := Kd.R_reads' hR
  have CA := Aside0.mk hCa
  have KA := Aside0.mk hca
  have A4 := Aside0.mk (A3.out.below hb4)
  have N4 := Aside0.mk (N3.out.next hb4)
  clear hR hCa hca hb4 A3 N3
  rw [show rowA.length = 2 from rfl] at *
  go_wp2_with (fail)
  refine (verdererlaw27_row.calls sb 3 rowB 1 w4 row_B).mono ?_
  rintro e w5 ⟨v5,rfl,hR,hb5⟩
  obtain ⟨Ab,cb,rfl⟩ := Kd.R_slice hR
  obtain ⟨_,hcb,hCb⟩ := Kd.R_reads' hR
  rw [show rowB.length = 2 from rfl] at *
  have hbx : Below w5.heap.size w5 (w5.alloc (.cells #[.slice Aa 2 ca,.int .i64 1,.slice Ab 2 cb,.int .i64 1] 83)) := below_alloc (Below.refl _ _) _
  have A5 := Aside0.mk ((A4.out.below hb5).below hbx)
  have N5 := Aside0.mk ((N4.out.next hb5).next hbx)
  have CE := Aside0.mk (two_en (blk_new w5 (.cells #[.slice Aa 2 ca,.int .i64 1,.slice Ab 2 cb,.int .i64 1] 83)) (Kd.C_below (Kd.C_below CA.out hb5) hbx) KA.out (Kd.C_below hCb hbx) hcb)
  obtain ⟨g,hg⟩ : ∃ g,w5.heap.size = g := ⟨_,rfl⟩
  clear hR hCb hcb hb5 hbx A4 N4 CA KA
  go_wp2_with (fail)
  rw [hg] at CE
  clear hg
  generalize w5.alloc (.cells #[.slice Aa 2 ca,.int .i64 1,.slice Ab 2 cb,.int .i64 1] 83) = w6 at *
  refine (use_of A5.out ok2 sq 9 (A := some ⟨g,0,none⟩) (c := 2) (l := enK) CE.out (Nat.le_refl 2) num_K).mono ?_
  rintro e w7 ⟨v7,rfl,h0,_,hb7⟩
  have hV := h0 code_K
  rw [us_K] at hV
  rw [code_K]
  obtain ⟨Au,cu,rfl,hcu,hCu⟩ := Kd.N_reads hV
  rw [show usK.length = 2 from rfl] at *
  have CU := Aside0.mk hCu
  have KU := Aside0.mk hcu
  have N7 := Aside0.mk (N5.out.next hb7)
  clear h0 hV hCu hcu hb7 A5 N5 CE
  go_wp2_with (fail)
  refine (use_of0 sq 9 none 0 0 w7).mono ?_
  rintro e w8 ⟨rfl,rfl⟩
  go_wp2_with (fail)
  rename_i w7
  refine (usage_Find.calls sq sb Au cu usK sq sb 3 9 true _ CU.out KU.out find_K).mono ?_
  rintro e w9 ⟨rfl,hb9⟩
  have hbx : Below w9.heap.size w9 (w9.alloc (.cells #[.string sq,.string sb,.int .i64 3,.int .i64 9] 45)) := below_alloc (Below.refl _ _) _
  have N9 := Aside0.mk ((N7.out.next hb9).next hbx)
  obtain ⟨ad,hA,d0,d1,d2,d3⟩ := at_T45 (Kd.C_below (Kd.C_below CU.out hb9) hbx) 0 (by decide) (by decide)
  subst hA
  have BX := Aside0.mk (blk_new w9 (.cells #[.string sq,.string sb,.int .i64 3,.int .i64 9] 45))
  rw [show (0 : Int).toNat * 4 = 0 from rfl] at d0 d1 d2 d3
  rw [show (rd_T45 usK 0).f2 = 5 from rfl] at d2
  rw [show ad.add 0 = ad from by unfold Addr.add;first | rfl | simp] at d2
  have y2 := (blk_cell BX.out 2).trans rfl
  have y3 := (blk_cell BX.out 3).trans rfl
  clear hb9 hbx d0 d1 d3
  go_wp2_with (fail)
  go_ret
  exact ⟨rfl,N9.out.below⟩
end Go.Proofs.Ytcenlehfbgnphaa.Z
end
section
namespace Go.Proofs.Ytcenlehfbgnphaa.Z
open Go.RowKit Go.Proofs.YtcenlehfbgnphaaW.PrintWords Go.Proofs.YtcenlehfbgnphaaW.PrintLast Go.Proofs.YtcenlehfbgnphaaW.PrintMore
attribute [local go_sem] max2_int min2_int max_two min_two max_three min_three max_four min_four
set_option linter.unusedVariables false
set_option linter.unusedSimpArgs false
end Go.Proofs.Ytcenlehfbgnphaa.Z
end
