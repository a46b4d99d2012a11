/-
  verdererlaw06.IndexWhole: for every input the law returns true, and each argument reads behind the call as it read before. No condition.
-/
import Derived.Test.YthmbfcfomcaaaaaMIndexWholea
import Derived.Test.YthmbfcfomcaaaaaMIndexWholeb
import Derived.Test.YthmbfcfomcaaaaaMIndexWholec
import Derived.Test.YthmbfcfomcaaaaaMIndexWholed
import Derived.Test.YthmbfcfomcaaaaaMIndexWholee
import Derived.Test.YthmbfcfomcaaaaaMIndexWholef
import Derived.Test.YthmbfcfomcaaaaaRows
import Derived.WalkKit
import Derived.ProofKit
import Derived.OpenShut
import Derived.ShutString
import Derived.ChangeOld
import Derived.Below
import Derived.Laws.Cover2
section
namespace Go.Proofs.Ythmbfcfomcaaaaa.Z
set_option linter.unusedVariables false
set_option linter.unusedSimpArgs false
open Go.RowKit Go.Shelf Go.Maps Go.Proofs.YthmbfcfomcaaaaaW.PrintWords Go.Proofs.YthmbfcfomcaaaaaW.PrintLast Go.Proofs.YthmbfcfomcaaaaaW.PrintMore Go.Proofs.Ythmbfcfomcaaaaa.Cmp
theorem gs_met {N x m c : Nat} {w : World} {A : Option Addr} {cols : List Int} {M : DataW Unit} {Gs : List Bg} {L : List En} (h : IdxAt N w x m A c cols M Gs L) {ks : List Rw} (k : Met cols L L.length ks) : Gs.length = ks.length := by
  have h1 : (Gs.map Bg.key).length = ks.length := nodup_len h.keys k.nd (fun y => by
    rw [k.mem,List.take_length]
    constructor
    · intro hk
      obtain ⟨g,hg,rfl⟩ := List.mem_map.1 hk
      obtain ⟨_,_,h3,h4⟩ := h.kok g hg
      cases hd : docT g.t with
      | nil => exact absurd hd h4
      | cons e es =>
        have h5 : e ∈ grp cols g.key L := by rw [← h3,hd];exact List.mem_cons_self
        obtain ⟨h6,h7⟩ := List.mem_filter.1 h5
        exact ⟨e,h6,key_eq (h.idl.ok e h6).1 (h.kok g hg).1 (of_decide_eq_true h7)⟩
    · rintro ⟨e,he,rfl⟩
      obtain ⟨g,hg,eg⟩ := h.all e he
      exact List.mem_map.2 ⟨g,hg,eg⟩)
  simpa using h1
theorem row_two {w : World} {g q : Nat} {x y : S66} (h : w.heap[g]? = some (.cells #[.int .i64 x.f0,.bool x.f1,.int .i64 x.f2,.string x.f3,.int .i64 y.f0,.bool y.f1,.int .i64 y.f2,.string y.f3] q (0,0))) : RowC w (some ⟨g,0,none⟩) 2 [x,y] :=
  ⟨Nat.le_refl 2,rfl,by simp,fun _ => ⟨_,rfl,fun j p hj => by
    cases j with
    | zero =>
      simp only [List.getElem?_cons_zero,Option.some.injEq] at hj
      subst hj
      refine ⟨_,rfl,k66_mk w x,fun i u hi => ?_⟩
      rw [Nat.zero_mul,Nat.zero_add,add_plain]
      have h1 := blk_cell h i
      rw [h1,← hi]
      rcases i with _ | _ | _ | _ | i <;> first | rfl | simp at hi
    | succ j =>
      cases j with
      | zero =>
        simp only [List.getElem?_cons_zero,List.getElem?_cons_succ,Option.some.injEq] at hj
        subst hj
        refine ⟨_,rfl,k66_mk w y,fun i u hi => ?_⟩
        have e : (0 + 1) * k66.sz + i = 4 + i := rfl
        rw [e,add_plain]
        have h1 := blk_cell h (4 + i)
        rw [h1,← hi]
        rcases i with _ | _ | _ | _ | i <;> first | rfl | simp at hi
      | succ j => simp at hj⟩⟩
theorem row_snd {w : World} {g q : Nat} {x y : S66} (h : w.heap[g]? = some (.cells #[.int .i64 x.f0,.bool x.f1,.int .i64 x.f2,.string x.f3,.int .i64 y.f0,.bool y.f1,.int .i64 y.f2,.string y.f3] q (0,0))) : RowC w (some ⟨g,4,none⟩) 1 [y] :=
  ⟨Nat.le_refl 1,rfl,by simp,fun _ => ⟨_,rfl,fun j p hj => by
    cases j with
    | succ j => simp at hj
    | zero =>
      simp only [List.getElem?_cons_zero,Option.some.injEq] at hj
      subst hj
      refine ⟨_,rfl,k66_mk w y,fun i u hi => ?_⟩
      rw [Nat.zero_mul,Nat.zero_add]
      have e : (⟨g,4,none⟩ : Addr).add i = ⟨g,4 + i,none⟩ := by first | rfl | simp [Addr.add] | (unfold Addr.add;split <;> first | rfl | omega)
      rw [e]
      have h1 := blk_cell h (4 + i)
      rw [h1,← hi]
      rcases i with _ | _ | _ | _ | i <;> first | rfl | simp at hi⟩⟩
structure Two2 (w : World) (o : Nat → Prop) (g : Nat) (x y : S66) : Prop where
  blk : w.heap[g]? = some (.cells #[.int .i64 x.f0,.bool x.f1,.int .i64 x.f2,.string x.f3,.int .i64 y.f0,.bool y.f1,.int .i64 y.f2,.string y.f3] 66 (0,0))
  off : ¬ o g
theorem Two2.step {w w' : World} {o o' : Nat → Prop} {g : Nat} {x y : S66} (h : Two2 w o g x y) (k : IdxCh w w' o o') : Two2 w' o' g x y :=
  ⟨k.ch.blk h.blk h.off,fun q => (k.own g q).elim h.off (fun e => by have := blk_lt h.blk;omega)⟩
theorem Two2.below {w w' : World} {o : Nat → Prop} {g : Nat} {x y : S66} (h : Two2 w o g x y) (k : Below w.heap.size w w') : Two2 w' o g x y := ⟨(k.block g (blk_lt h.blk)).trans h.blk,h.off⟩
def kI (n : Int) : S66 := ⟨2,false,n,⟨#[]⟩⟩
def kA : S66 := ⟨3,false,0,⟨#[97]⟩⟩
def kL1 : List En := [⟨[kI 1,kA],1⟩]
def kL2 : List En := [⟨[kI 1,kA],1⟩,⟨[kI 2,kA],1⟩]
theorem ik1 : idxAdd [1] [kI 1,kA] 1 [] = (0,kL1) := by kernel_rfl
theorem ik2 : idxAdd [1] [kI 2,kA] 1 kL1 = (0,kL2) := by kernel_rfl
theorem ik3 : (grp [1] [kA] kL2).length = 2 := by kernel_rfl
theorem ik4 : sumM (grp [1] [kA] kL2) = 2 := by kernel_rfl
theorem ik5 : Met [1] kL2 kL2.length [[kA]] := by
  have h0 := Met.zero [1] kL2
  have h1 := h0.new (x := ⟨[kI 1,kA],1⟩) rfl (by simp)
  have e1 : keyR [1] (⟨[kI 1,kA],1⟩ : En).f0 = [kA] := by kernel_rfl
  have e2 : keyR [1] (⟨[kI 2,kA],1⟩ : En).f0 = [kA] := by kernel_rfl
  rw [e1] at h1
  exact h1.old (x := ⟨[kI 2,kA],1⟩) rfl (by rw [e2];simp)
theorem kI_in (n : Int) (h : n = 1 ∨ n = 2) : InR [kI n,kA] := fun v hv => by
  rcases List.mem_cons.1 hv with e | hv
  · rw [e];show -9223372036854775808 ≤ n ∧ n ≤ 9223372036854775807;omega
  · rw [List.mem_singleton.1 hv];show -9223372036854775808 ≤ (0 : Int) ∧ (0 : Int) ≤ 9223372036854775807;omega
theorem kA_in : InR [kA] := fun v hv => by
  rw [List.mem_singleton.1 hv];show -9223372036854775808 ≤ (0 : Int) ∧ (0 : Int) ≤ 9223372036854775807;omega
theorem C_one {w : World} {g q : Nat} {v : Int} (h : w.heap[g]? = some (.cells #[.int .i64 v] q (0,0))) : Kd.C (Kd.int .i64) w (some ⟨g,0,none⟩) 1 [v] :=
  ⟨rfl,by simp,fun _ => ⟨_,rfl,fun j p hj => by
    cases j with
    | succ j => simp at hj
    | zero =>
      simp only [List.getElem?_cons_zero,Option.some.injEq] at hj
      subst hj
      refine ⟨[.int .i64 v],rfl,rfl,fun i u hi => ?_⟩
      rw [Nat.zero_mul,Nat.zero_add,add_plain]
      have h1 := blk_cell h i
      rw [h1,← hi]
      simp⟩⟩
set_option maxHeartbeats 8000000 in
set_option maxRecDepth 100000 in
theorem known06 (w : World) : Calls Try.prog 37 #[] w fun e w' => e = .returned (.bool true) ∧ Below w.heap.size w w' := by
  have HB := Aside0.mk (below_alloc (Below.refl w.heap.size w) (Obj.cells #[.int .i64 1] 3))
  have NW := Aside0.mk (idx_new (some ⟨w.heap.size,0,none⟩) 1 [1] (w.alloc (Obj.cells #[.int .i64 1] 3)) (C_one (blk_new w _)) (by simp) (by simp))
  go_enter Try.func37,Try.ntmps37
  go_wp2_with (fail)
  refine NW.out.mono ?_
  rintro e w1 ⟨hb,hh⟩
  rcases hh with ⟨hbad,_⟩ | ⟨_,x,m,A,c,rfl,hI⟩
  · exact absurd hbad (by decide)
  have B1 := Aside0.mk (HB.out.trans (hb.mono HB.out.size))
  have I1 := Aside0.mk hI
  have SZ := Aside0.mk (HB.out.size)
  obtain ⟨N,hN⟩ : ∃ N,(w.alloc (Obj.cells #[.int .i64 1] 3)).heap.size = N := ⟨_,rfl⟩
  rw [hN] at I1 SZ
  have NL1 := Aside0.mk (show N ≤ w1.heap.size by rw [← hN];exact hb.size)
  clear hb hI NW HB hN
  go_upto_region 6 with (fail)
  have BA := below_alloc (Below.refl w1.heap.size w1) (Obj.cells #[.int .i64 2,.bool false,.int .i64 1,.string ⟨#[]⟩,.int .i64 3,.bool false,.int .i64 0,.string ⟨#[97]⟩] 66)
  have I2 := Aside0.mk (I1.out.below BA)
  have TA2 := Aside0.mk (show Two2 (w1.alloc (Obj.cells #[.int .i64 2,.bool false,.int .i64 1,.string ⟨#[]⟩,.int .i64 3,.bool false,.int .i64 0,.string ⟨#[97]⟩] 66)) (IdxOwn x m A [1] []) w1.heap.size (kI 1) kA from ⟨blk_new w1 _,fun ho => absurd (I1.out.lt _ ho) (Nat.lt_irrefl _)⟩)
  have E2 : (w1.alloc (Obj.cells #[.int .i64 2,.bool false,.int .i64 1,.string ⟨#[]⟩,.int .i64 3,.bool false,.int .i64 0,.string ⟨#[97]⟩] 66)).heap.size = w1.heap.size + 1 := Array.size_push _
  have B2 := Aside0.mk (B1.out.trans (BA.mono B1.out.size))
  have NL2 := Aside0.mk (show N ≤ (w1.alloc (Obj.cells #[.int .i64 2,.bool false,.int .i64 1,.string ⟨#[]⟩,.int .i64 3,.bool false,.int .i64 0,.string ⟨#[97]⟩] 66)).heap.size from Nat.le_trans NL1.out BA.size)
  obtain ⟨ga,hga⟩ : ∃ ga,w1.heap.size = ga := ⟨_,rfl⟩
  rw [hga] at TA2 E2 ⊢
  clear hga I1 BA B1 NL1
  generalize w1.alloc (Obj.cells #[.int .i64 2,.bool false,.int .i64 1,.string ⟨#[]⟩,.int .i64 3,.bool false,.int .i64 0,.string ⟨#[97]⟩] 66) = w2 at *
  have BB := below_alloc (Below.refl w2.heap.size w2) (Obj.cells #[.int .i64 2,.bool false,.int .i64 2,.string ⟨#[]⟩,.int .i64 3,.bool false,.int .i64 0,.string ⟨#[97]⟩] 66)
  have I3 := Aside0.mk (I2.out.below BB)
  have TB3 := Aside0.mk (show Two2 (w2.alloc (Obj.cells #[.int .i64 2,.bool false,.int .i64 2,.string ⟨#[]⟩,.int .i64 3,.bool false,.int .i64 0,.string ⟨#[97]⟩] 66)) (IdxOwn x m A [1] []) w2.heap.size (kI 2) kA from ⟨blk_new w2 _,fun ho => absurd (I2.out.lt _ ho) (Nat.lt_irrefl _)⟩)
  have TA3 := Aside0.mk (TA2.out.below BB)
  have B3 := Aside0.mk (B2.out.trans (BB.mono B2.out.size))
  have NL3 := Aside0.mk (Nat.le_trans NL2.out BB.size)
  rw [← E2]
  obtain ⟨gb,hgb⟩ : ∃ gb,w2.heap.size = gb := ⟨_,rfl⟩
  rw [hgb] at TB3 ⊢
  clear hgb E2 I2 TA2 B2 NL2 BB
  generalize w2.alloc (Obj.cells #[.int .i64 2,.bool false,.int .i64 2,.string ⟨#[]⟩,.int .i64 3,.bool false,.int .i64 0,.string ⟨#[97]⟩] 66) = w3 at *
  go_wp2_with (fail)
  have AD := Aside0.mk (idx_add I3.out NL3.out (some ⟨ga,0,none⟩) 2 [kI 1,kA] 1 (row_two TA3.out.blk) (kI_in 1 (.inl rfl)) (by simp) (by simp))
  rw [ik1] at AD
  refine AD.out.mono ?_
  rintro e w4 ⟨M4,G4,rfl,hI,hC⟩
  have I4 := Aside0.mk hI
  have TA4 := Aside0.mk (TA3.out.step hC)
  have TB4 := Aside0.mk (TB3.out.step hC)
  have B4 := Aside0.mk (show Below w.heap.size w w4 from B3.out.trans (hC.ch.toBelow B3.out.size (fun k hk => Nat.le_trans SZ.out (I3.out.own k hk))))
  have NL4 := Aside0.mk (Nat.le_trans NL3.out hC.ch.size)
  clear hI hC AD I3 TA3 TB3 B3 NL3
  go_wp2_with (fail)
  have AD := Aside0.mk (idx_add I4.out NL4.out (some ⟨gb,0,none⟩) 2 [kI 2,kA] 1 (row_two TB4.out.blk) (kI_in 2 (.inr rfl)) (by simp) (by simp [kL1]))
  rw [ik2] at AD
  refine AD.out.mono ?_
  rintro e w5 ⟨M5,G5,rfl,hI,hC⟩
  have I5 := Aside0.mk hI
  have TA5 := Aside0.mk (TA4.out.step hC)
  have B5 := Aside0.mk (show Below w.heap.size w w5 from B4.out.trans (hC.ch.toBelow B4.out.size (fun k hk => Nat.le_trans SZ.out (I4.out.own k hk))))
  clear hI hC AD I4 TA4 TB4 B4 NL4
  have FN := Aside0.mk (idx_find I5.out (some ⟨ga,4,none⟩) 1 [kA] (row_snd TA5.out.blk) kA_in (by simp) (by simp [kL2]))
  go_wp2_with (fail)
  refine FN.out.mono ?_
  rintro e w6 ⟨v6,rfl,hv,hb⟩
  obtain ⟨A6,c6,e6⟩ := Kd.R_slice hv
  subst e6
  rw [ik3]
  have I6 := Aside0.mk (I5.out.below hb)
  have TA6 := Aside0.mk (TA5.out.below hb)
  have B6 := Aside0.mk (B5.out.trans (hb.mono B5.out.size))
  clear hv hb FN I5 TA5 B5
  have HS := Aside0.mk (idx_has I6.out (some ⟨ga,4,none⟩) 1 [kA] (row_snd TA6.out.blk) kA_in (by simp) (by simp [kL2]))
  rw [ik4] at HS
  go_wp2_with (fail)
  refine HS.out.mono ?_
  rintro e w7 ⟨rfl,hb⟩
  have I7 := Aside0.mk (I6.out.below hb)
  have B7 := Aside0.mk (B6.out.trans (hb.mono B6.out.size))
  clear hb HS I6 TA6 B6
  have KE := Aside0.mk (idx_keys I7.out)
  rw [gs_met I7.out ik5] at KE
  go_wp2_with (fail)
  refine KE.out.mono ?_
  rintro e w8 ⟨rfl,ew⟩
  subst ew
  go_wp2_with (fail)
  refine (idx_len I7.out).mono ?_
  rintro e w9 ⟨rfl,ew⟩
  subst ew
  go_wp2_with (fail)
  go_ret
  exact ⟨rfl,B7.out⟩
end Go.Proofs.Ythmbfcfomcaaaaa.Z
end
section
namespace Go.Proofs.Ythmbfcfomcaaaaa.Z
set_option linter.unusedVariables false
set_option linter.unusedSimpArgs false
open Go.RowKit Go.Shelf Go.Maps Go.Proofs.YthmbfcfomcaaaaaW.PrintWords Go.Proofs.YthmbfcfomcaaaaaW.PrintLast Go.Proofs.YthmbfcfomcaaaaaW.PrintMore Go.Proofs.Ythmbfcfomcaaaaa.Cmp
end Go.Proofs.Ythmbfcfomcaaaaa.Z
end
section
namespace Go.Proofs.Ythmbfcfomcaaaaa.Z
set_option linter.unusedVariables false
set_option linter.unusedSimpArgs false
open Go.RowKit Go.Proofs.YthmbfcfomcaaaaaW.PrintWords Go.Proofs.YthmbfcfomcaaaaaW.PrintLast Go.Proofs.YthmbfcfomcaaaaaW.PrintMore Go.Proofs.Ythmbfcfomcaaaaa.Cmp
end Go.Proofs.Ythmbfcfomcaaaaa.Z
end
section
namespace Go.Proofs.Ythmbfcfomcaaaaa.Z
set_option linter.unusedVariables false
set_option linter.unusedSimpArgs false
open Go.RowKit Go.Proofs.YthmbfcfomcaaaaaW.PrintWords Go.Proofs.YthmbfcfomcaaaaaW.PrintLast Go.Proofs.YthmbfcfomcaaaaaW.PrintMore Go.Proofs.Ythmbfcfomcaaaaa.Cmp
end Go.Proofs.Ythmbfcfomcaaaaa.Z
end
section
namespace Go.Proofs.Ythmbfcfomcaaaaa.Z
set_option linter.unusedVariables false
set_option linter.unusedSimpArgs false
open Go.RowKit Go.Proofs.YthmbfcfomcaaaaaW.PrintWords Go.Proofs.YthmbfcfomcaaaaaW.PrintLast Go.Proofs.YthmbfcfomcaaaaaW.PrintMore Go.Proofs.Ythmbfcfomcaaaaa.Cmp
structure OneR (N : Nat) (w : World) (g : Nat) (A : Option Addr) (c : Nat) (L : List En) (E : Nat → Prop) : Prop where
  ref : RefV w g A c L E
  g_le : N ≤ g
  e_le : ∀ k,E k → N ≤ k
theorem OneR.below {N : Nat} {w w1 : World} {g : Nat} {A : Option Addr} {c : Nat} {L : List En} {E : Nat → Prop} (h : OneR N w g A c L E) (hb : Below w.heap.size w w1) : OneR N w1 g A c L E := ⟨h.ref.below hb,h.g_le,h.e_le⟩
theorem ref_box {N : Nat} (w : World) (hN : N ≤ w.heap.size) : OneR N (w.alloc (Obj.cells #[.slice none 0 0] 30)) w.heap.size none 0 [] (fun _ => False) :=
  ⟨⟨blk_new w _,Nat.le_refl 0,Kd.F_nil _ _ _,fun q => q,fun _ q => q.elim⟩,hN,fun _ q => q.elim⟩
end Go.Proofs.Ythmbfcfomcaaaaa.Z
end
section
namespace Go.Proofs.Ythmbfcfomcaaaaa.Z
set_option linter.unusedVariables false
set_option linter.unusedSimpArgs false
open Go.RowKit Go.Shelf Go.Maps Go.Proofs.YthmbfcfomcaaaaaW.PrintWords Go.Proofs.YthmbfcfomcaaaaaW.PrintLast Go.Proofs.YthmbfcfomcaaaaaW.PrintMore Go.Proofs.Ythmbfcfomcaaaaa.Cmp
structure IB (N : Nat) (w : World) (x m : Nat) (A : Option Addr) (c : Nat) (cols : List Int) (M : DataW Unit) (Gs : List Bg) (L : List En) (g : Nat) (Ar : Option Addr) (cr : Nat) (L2 : List En) (E : Nat → Prop) : Prop where
  idx : IdxAt N w x m A c cols M Gs L
  ref : RefV w g Ar cr L2 E
  off : ∀ k,IdxOwn x m A cols Gs k → k ≠ g ∧ ¬ E k
  g_le : N ≤ g
  e_le : ∀ k,E k → N ≤ k
section
variable {N x m c g cr : Nat} {w W : World} {A Ar : Option Addr} {cols : List Int} {M : DataW Unit} {Gs : List Bg} {L L2 : List En} {E : Nat → Prop}
theorem IB.below (h : IB N w x m A c cols M Gs L g Ar cr L2 E) (hb : Below w.heap.size w W) : IB N W x m A c cols M Gs L g Ar cr L2 E := ⟨h.idx.below hb,h.ref.below hb,h.off,h.g_le,h.e_le⟩
theorem ib_add (h : IB N w x m A c cols M Gs L g Ar cr L2 E) (w0 : World) (hN : NextW N w0 w) (e : SameW w W) (Aq : Option Addr) (cq : Nat) (r : Rw) (mm : Int) (hr : RowC W Aq cq r) (hi : InR r) (hl : cols.length ≤ 1048576) (hL : L.length ≤ 100000) (q : Int) (L' : List En) (ha : idxAdd cols r mm L = (q,L')) :
    Calls Try.prog 38 #[.pointer (some ⟨x,0,none⟩),.slice Aq r.length cq,.int .i64 mm] W fun e w' => ∃ M' Gs',e = .returned (.int .i64 q) ∧ IB N w' x m A c cols M' Gs' L' g Ar cr L2 E ∧ NextW N w0 w' ∧ Below N W w' := by
  have hN' : N ≤ W.heap.size := by rw [e.heap];exact hN.le
  have h' := h.below (e.below _)
  refine (idx_add h'.idx hN' Aq cq r mm hr hi hl hL).mono ?_
  rintro e1 w1 ⟨M',Gs',rfl,h1,h2⟩
  rw [ha] at h1 ⊢
  have hb : Below N W w1 := h2.ch.toBelow hN' (fun k hk => h.idx.own k hk)
  refine ⟨M',Gs',rfl,⟨h1,h'.ref.keep h2.ch (fun s => (h.off g s).1 rfl) (fun k hk s => (h.off k s).2 hk),fun k hk => ?_,h.g_le,h.e_le⟩,hN.nextN hb e,hb⟩
  rcases h2.own k hk with q | q
  · exact h.off k q
  · have h3 := h'.ref.g_lt
    exact ⟨fun e => by omega,fun e => by have := h'.ref.lt k e;omega⟩
theorem ib_radd (h : IB N w x m A c cols M Gs L g Ar cr L2 E) (w0 : World) (hN : NextW N w0 w) (e : SameW w W) (Aq : Option Addr) (cq : Nat) (r : Rw) (mm : Int) (hr : RowC W Aq cq r) (h1 : SrtD L2) (h2 : OkD L2) (hL : L2.length ≤ 1000000) (q : Int) (L' : List En) (ha : addD r mm L2 = (q,L')) :
    Calls Try.prog 17 #[.pointer (some ⟨g,0,none⟩),.slice Aq r.length cq,.int .i64 mm] W fun e w' => ∃ A' c' E',e = .returned (.int .i64 q) ∧ IB N w' x m A c cols M Gs L g A' c' L' E' ∧ NextW N w0 w' ∧ Below N W w' := by
  have hN' : N ≤ W.heap.size := by rw [e.heap];exact hN.le
  have h' := h.below (e.below _)
  refine (ref_add g Ar cr L2 Aq cq r mm W h'.ref h1 h2 hr hL).mono ?_
  rintro e1 w1 ⟨A',c',E',rfl,h3,h4⟩
  rw [ha] at h3 ⊢
  have hb : Below N W w1 := h4.ch.toBelow hN' (fun k hk => by subst hk;exact h.g_le)
  refine ⟨A',c',E',rfl,⟨h'.idx.keep h4.ch (fun k s o => (h.off k o).1 s),h3,fun k hk => ⟨(h.off k hk).1,fun e => ?_⟩,h.g_le,fun k hk => (h4.dat k hk).elim (h.e_le k) (fun q => by omega)⟩,hN.nextN hb e,hb⟩
  rcases h4.dat k e with q | q
  · exact (h.off k hk).2 q
  · have := h'.idx.lt k hk;omega
end
theorem idxAdd_bad {cols : List Int} {r : Rw} {m : Int} {L : List En} (h : (idxAdd cols r m L).1 ≠ 0) : (idxAdd cols r m L).2 = L := by
  unfold idxAdd at h ⊢
  split
  · rename_i hc
    rw [if_pos hc] at h
    exact addD_same h
  · rfl
theorem idxAdd_ok {cols : List Int} {r : Rw} {m : Int} {L : List En} (h : (idxAdd cols r m L).1 = 0) : idxAdd cols r m L = addD r m L := by
  unfold idxAdd at h ⊢
  split
  · rfl
  · rename_i hc
    rw [if_neg hc] at h
    cases h
theorem idxAdd_le (cols : List Int) (r : Rw) (m : Int) {L : List En} (h : SrtD L) : (idxAdd cols r m L).2.length ≤ L.length + 1 := by
  unfold idxAdd
  split
  · exact addD_le r m h
  · simp
end Go.Proofs.Ythmbfcfomcaaaaa.Z
end
section
namespace Go.Proofs.Ythmbfcfomcaaaaa.Z
set_option linter.unusedVariables false
set_option linter.unusedSimpArgs false
open Go.RowKit Go.Shelf Go.Maps Go.Proofs.YthmbfcfomcaaaaaW.PrintWords Go.Proofs.YthmbfcfomcaaaaaW.PrintLast Go.Proofs.YthmbfcfomcaaaaaW.PrintMore Go.Proofs.Ythmbfcfomcaaaaa.Cmp
theorem sumG_le (cols : List Int) (L : List En) : ∀ ks : List Rw,sumG cols L ks ≤ ks.length * L.length
  | [] => Nat.zero_le _
  | k :: ks => by
    show (grp cols k L).length + sumG cols L ks ≤ (ks.length + 1) * L.length
    have h1 := sumG_le cols L ks
    have h2 := grp_len cols k L
    rw [Nat.add_mul]
    omega
theorem Met.len {cols : List Int} {L : List En} {i : Nat} {ks : List Rw} (h : Met cols L i ks) : ks.length ≤ i := by
  have h1 := nodup_le (B := (L.take i).map fun e => keyR cols e.f0) h.nd (fun k hk => by
    obtain ⟨e,he,q⟩ := (h.mem k).1 hk
    exact List.mem_map.2 ⟨e,he,q⟩)
  rw [List.length_map] at h1
  exact Nat.le_trans h1 (List.length_take_le _ _)
theorem Met.bound {cols : List Int} {L : List En} {i : Nat} {ks : List Rw} (h : Met cols L i ks) (hi : i ≤ 100) (hL : L.length ≤ 100) : ks.length ≤ 100 ∧ sumG cols L ks ≤ 10000 := by
  have h1 := h.len
  have h2 := sumG_le cols L ks
  have h3 : ks.length * L.length ≤ 100 * 100 := Nat.mul_le_mul (by omega) hL
  omega
theorem addr_zero (a : Addr) : a.add 0 = a := by first | rfl | (unfold Addr.add;simp;done) | (cases a;unfold Addr.add;split <;> rfl)
theorem known06_end (w : World) (N : Nat) (w0 : World) (h : NextW N w0 w) : Calls Try.prog 37 #[] w fun e w' => e = .returned (.bool true) ∧ Below N w0 w' := by
  refine (known06 w).mono ?_
  rintro e w1 ⟨rfl,hb⟩
  exact ⟨rfl,(h.next hb).at_⟩
set_option maxHeartbeats 16000000 in
set_option maxRecDepth 100000 in
theorem index_whole (A0 : Option Addr) (n c0 : Nat) (l : List En) (w : World) (hl : Kd.C k34 w A0 n l) (hc : n ≤ c0) (hin : ∀ x ∈ l,InR x.f0) : Calls Try.prog 8 #[.slice A0 n c0] w fun e w' => e = .returned (.bool true) ∧ Below w.heap.size w w' := by
  have HL := Aside0.mk hl
  have HI := Aside0.mk hin
  have LN := Aside0.mk (show l.length = n from hl.1)
  have I0 := Aside0.mk (NextW.refl w)
  have B0 := below_alloc (Below.refl w.heap.size w) (Obj.cells #[.int .i64 0] 3)
  have NW := Aside0.mk (idx_new (some ⟨w.heap.size,0,none⟩) 1 [0] (w.alloc (Obj.cells #[.int .i64 0] 3)) (C_one (blk_new w _)) (by simp) (by simp))
  have I1 := Aside0.mk (I0.out.next B0)
  have NS := Aside0.mk B0.size
  obtain ⟨N,hN⟩ : ∃ N,w.heap.size = N := ⟨_,rfl⟩
  have HN := Aside0.mk hN
  rw [hN] at I1 NW NS ⊢
  clear hl hc hin hN B0 I0
  go_enter Try.func8,Try.ntmps8
  go_wp2_with (fail)
  rw [HN.out]
  generalize w.alloc (Obj.cells #[.int .i64 0] 3) = w1 at *
  refine NW.out.mono ?_
  rintro e w2 ⟨hb,hh⟩
  rcases hh with ⟨hbad,_⟩ | ⟨_,x,m,A,c,rfl,hI⟩
  · exact absurd hbad (by decide)
  have I2 := Aside0.mk (I1.out.next hb)
  have X2 := Aside0.mk (show IdxAt N w2 x m A c [0] (.map []) [] [] from { hI with own := fun k hk => Nat.le_trans NS.out (hI.own k hk) })
  clear hb hI NW I1 NS
  go_upto_region 3 with (fail)
  have BB := below_alloc (Below.refl w2.heap.size w2) (Obj.cells #[.slice none 0 0] 30)
  have T3 := Aside0.mk (show IB N (w2.alloc (Obj.cells #[.slice none 0 0] 30)) x m A c [0] (.map []) [] [] w2.heap.size none 0 [] (fun _ => False) from
    ⟨X2.out.below BB,(ref_box w2 I2.out.le).ref,fun k hk => ⟨fun e => by have := X2.out.lt k hk;omega,fun e => e⟩,I2.out.le,fun k hk => hk.elim⟩)
  have I3 := Aside0.mk (I2.out.next BB)
  obtain ⟨g,hg⟩ : ∃ g,w2.heap.size = g := ⟨_,rfl⟩
  rw [hg] at T3 ⊢
  clear X2 I2 BB hg
  generalize w2.alloc (Obj.cells #[.slice none 0 0] 30) = w3 at *
  by_cases hn : n ≤ 100
  · have q0 : decide ((100 : Int) < (n : Int)) = false := decide_eq_false (by omega)
    have q0' : decide ((n : Int) > 100) = false := decide_eq_false (by omega)
    have q0'' : decide (100 < n) = false := decide_eq_false (by omega)
    go_wp2_with (fail)
    go_loopw [6] (fun iv wr => ∃ i : Nat,iv = .int .i64 (i : Int) ∧ i ≤ n ∧ Aside0 (∃ M Gs Ar cr L E,L.length ≤ i ∧ IB N wr x m A c [0] M Gs L g Ar cr L E) ∧ Aside0 (NextW N w wr)) (fun iv _ => n - (intOf iv).toNat)
    case atStart => exact ⟨0,rfl,Nat.zero_le _,⟨⟨_,_,_,_,[],_,Nat.le_refl 0,T3.out⟩⟩,I3⟩
    case round =>
      clear T3 I3
      obtain ⟨i,rfl,hi,TT,I4⟩ := hrel
      obtain ⟨M,Gs,Ar,cr,L,E,hlen,hT⟩ := TT.out
      have LL := Aside0.mk hlen
      have T4 := Aside0.mk hT
      clear TT hlen hT
      by_cases hin : i < n
      · have k0 : decide ((i : Int) < (n : Int)) = true := decide_eq_true (by omega)
        have k0' : decide (i < n) = true := decide_eq_true hin
        have p0 : (0 : Int) ≤ (i : Int) := by omega
        have p1 : (i : Int) < (n : Int) := by omega
        obtain ⟨y,hy⟩ : ∃ y,l[i]? = some y := ⟨l[i]'(by have := LN.out;omega),List.getElem?_eq_getElem _⟩
        obtain ⟨ad,Ax,cx,e1,x0,x1,hxc⟩ := ent_get HL.out hin hy
        subst e1
        have XC := Aside0.mk hxc
        have XI := Aside0.mk (HI.out y (List.mem_of_getElem? hy))
        have X0 := Aside0.mk (And.intro x0 x1)
        replace x0 := (I4.out.below.cell (HN.out ▸ World.block_lt_of_cell? w _ x0)).trans x0
        replace x1 := (I4.out.below.cell (HN.out ▸ World.block_lt_of_cell? w _ x1)).trans x1
        have XB := Aside0.mk (fun W (hb : Below N w W) => show RowC W Ax cx y.f0 from XC.out.below (HN.out ▸ hb))
        obtain ⟨⟨q,L1⟩,hq⟩ : ∃ q,idxAdd [0] y.f0 y.f1 L = q := ⟨_,rfl⟩
        have AD := Aside0.mk hq
        have LL1 := Aside0.mk (show L1.length ≤ i + 1 by have := idxAdd_le [0] y.f0 y.f1 T4.out.idx.idl.srt;rw [hq] at this;have := LL.out;simp only at *;omega)
        have B1 := Aside0.mk (show L.length ≤ 100000 by have := LL.out;omega)
        clear hy hxc hq
        obtain ⟨xr,xm⟩ := y
        simp only at *
        obtain ⟨rn,hrn⟩ : ∃ rn,xr.length = rn := ⟨_,rfl⟩
        have LR := Aside0.mk hrn
        rw [hrn] at x0 X0
        clear hrn
        by_cases h50 : rn ≤ 50
        · have q5 : decide ((50 : Int) < (rn : Int)) = false := decide_eq_false (by omega)
          have q5' : decide ((rn : Int) > 50) = false := decide_eq_false (by omega)
          have q5'' : decide (50 < rn) = false := decide_eq_false (by omega)
          have ADC := Aside0.mk (fun W (e : SameW wr W) => by have := ib_add T4.out w I4.out e Ax cx xr xm (XB.out W (I4.out.at_ e)) XI.out (by simp) B1.out q L1 AD.out;rw [LR.out] at this;exact this)
          by_cases hq0 : q = 0
          · subst hq0
            have ADL := Aside0.mk (show addD xr xm L = (0,L1) by rw [← idxAdd_ok (cols := [0]) (by rw [AD.out]),AD.out])
            have SR := Aside0.mk (show SrtD L from T4.out.idx.idl.srt)
            have OK := Aside0.mk (show OkD L from T4.out.idx.idl.ok)
            go_wp2_with (fail)
            go_region_held3 (fun w' => w'.cell? (ad.add (i * 2)) = some (.slice Ax rn cx) ∧ w'.cell? ⟨(ad.add (i * 2)).block,(ad.add (i * 2)).off + 1,none⟩ = some (.int .i64 xm)) (first | go_keep | exact ⟨by assumption,by assumption⟩) (first
              | (go_at_call 38;(with_reducible refine (ADC.out _ ?_).mono ?_);exact ⟨rfl,rfl,rfl,rfl⟩;rintro e w5 ⟨M5,G5,rfl,h5,i5,b5⟩;replace x0 := (b5.cell (HN.out ▸ World.block_lt_of_cell? w _ X0.out.1)).trans x0;replace x1 := (b5.cell (HN.out ▸ World.block_lt_of_cell? w _ X0.out.2)).trans x1;have T5 := Aside0.mk h5;have I5 := Aside0.mk i5;clear h5 i5 b5))
            go_wp2_with (fail)
            have RAD := Aside0.mk (fun W (e : SameW w5 W) => by have := ib_radd T5.out w I5.out e Ax cx xr xm (XB.out W (I5.out.at_ e)) SR.out OK.out (by have := B1.out;omega) 0 L1 ADL.out;rw [LR.out] at this;exact this)
            go_region_held3 (fun w' => w'.cell? (ad.add (i * 2)) = some (.slice Ax rn cx) ∧ w'.cell? ⟨(ad.add (i * 2)).block,(ad.add (i * 2)).off + 1,none⟩ = some (.int .i64 xm)) (first | go_keep | exact ⟨by assumption,by assumption⟩) (first
              | (go_at_call 17;(with_reducible refine (RAD.out _ ?_).mono ?_);exact ⟨rfl,rfl,rfl,rfl⟩;rintro e w6 ⟨A6,c6,E6,rfl,h6,i6,b6⟩;replace x0 := (b6.cell (HN.out ▸ World.block_lt_of_cell? w _ X0.out.1)).trans x0;replace x1 := (b6.cell (HN.out ▸ World.block_lt_of_cell? w _ X0.out.2)).trans x1;have T6 := Aside0.mk h6;have I6 := Aside0.mk i6;clear h6 i6 b6))
            go_wp2_with (fail)
            go_roundw
            case rel => exact ⟨i + 1,by go_num,hin,⟨⟨_,_,_,_,_,_,LL1.out,T6.out⟩⟩,I6⟩
            case measure => simp [intOf];omega
          · have LE := Aside0.mk (show L1 = L by have := idxAdd_bad (cols := [0]) (r := xr) (m := xm) (L := L) (by rw [AD.out];exact hq0);rw [AD.out] at this;exact this)
            have q6 : (q == 0) = false := by rw [beq_eq_false_iff_ne];exact hq0
            have q6' : decide (q = 0) = false := decide_eq_false hq0
            go_wp2_with (fail)
            go_region_held3 (fun w' => w'.cell? (ad.add (i * 2)) = some (.slice Ax rn cx) ∧ w'.cell? ⟨(ad.add (i * 2)).block,(ad.add (i * 2)).off + 1,none⟩ = some (.int .i64 xm)) (first | go_keep | exact ⟨by assumption,by assumption⟩) (first
              | (go_at_call 38;(with_reducible refine (ADC.out _ ?_).mono ?_);exact ⟨rfl,rfl,rfl,rfl⟩;rintro e w5 ⟨M5,G5,rfl,h5,i5,b5⟩;replace x0 := (b5.cell (HN.out ▸ World.block_lt_of_cell? w _ X0.out.1)).trans x0;replace x1 := (b5.cell (HN.out ▸ World.block_lt_of_cell? w _ X0.out.2)).trans x1;have T5 := Aside0.mk h5;have I5 := Aside0.mk i5;clear h5 i5 b5))
            go_wp2_with (fail)
            rw [LE.out] at T5 LL1
            go_roundw
            case rel => exact ⟨i + 1,by go_num,hin,⟨⟨_,_,_,_,_,_,LL1.out,T5.out⟩⟩,I5⟩
            case measure => simp [intOf];omega
        · have q5 : decide ((50 : Int) < (rn : Int)) = true := decide_eq_true (by omega)
          have q5' : decide ((rn : Int) > 50) = true := decide_eq_true (by omega)
          have q5'' : decide (50 < rn) = true := decide_eq_true (by omega)
          go_wp2_with (fail)
          refine (known06_end wr N w I4.out).mono ?_
          rintro e w5 ⟨rfl,hb⟩
          have B5 := Aside0.mk hb
          clear hb
          go_wp2_with (fail)
          go_ret
          exact ⟨rfl,B5.out⟩
      · have k0 : decide ((i : Int) < (n : Int)) = false := decide_eq_false (by omega)
        have k0' : decide (i < n) = false := decide_eq_false hin
        obtain ⟨wz,rfl⟩ : ∃ wz,wz = wr := ⟨_,rfl⟩
        obtain ⟨p,hp⟩ : ∃ p,L.length = p := ⟨_,rfl⟩
        have LP := Aside0.mk hp
        have PB := Aside0.mk (show p ≤ 100 by rw [← hp];have := LL.out;omega)
        have hp100 : p ≤ 100 := PB.out
        clear hp
        go_wp2_with (fail)
        go_loopw [7,8,9] (fun nv kv jv wr => ∃ (j : Nat) (ks : List Rw),jv = .int .i64 (j : Int) ∧ j ≤ p ∧ nv = .int .i64 (sumG [0] L ks : Int) ∧ kv = .int .i64 (ks.length : Int) ∧ Aside0 (Met [0] L j ks) ∧ Aside0 (Below wz.heap.size wz wr)) (fun _ _ jv _ => p - (intOf jv).toNat)
        case atStart => exact ⟨0,[],rfl,Nat.zero_le _,rfl,rfl,⟨Met.zero _ _⟩,⟨Below.refl _ _⟩⟩
        case round =>
          obtain ⟨j,ks,rfl,hj,rfl,rfl,MT,BQ⟩ := hrel
          have TQ := Aside0.mk (T4.out.below BQ.out)
          have gq : wr.cell? ⟨g,0,none⟩ = some (.slice Ar p cr) := by have := (blk_cell TQ.out.ref.blk 0).trans rfl;rw [LP.out] at this;exact this
          by_cases hjp : j < p
          · have j0 : decide ((j : Int) < (p : Int)) = true := decide_eq_true (by omega)
            have j0' : decide (j < p) = true := decide_eq_true hjp
            have j1 : (0 : Int) ≤ (j : Int) := by omega
            have j2 : (j : Int) < (p : Int) := by omega
            obtain ⟨y,hy⟩ : ∃ y,L[j]? = some y := ⟨L[j]'(by have := LP.out;omega),List.getElem?_eq_getElem _⟩
            obtain ⟨ad,A0,c0,e1,y0,y1,hyc,_,_⟩ := TQ.out.ref.get (by have := LP.out;omega) hy
            subst e1
            have K0 := Aside0.mk (key0 (T4.out.idx.idl.pick y (List.mem_of_getElem? hy)))
            have YE := Aside0.mk hy
            have YC := Aside0.mk hyc
            have K1 := Aside0.mk (show (keyR [0] y.f0).length = 1 by rw [K0.out.2.1];rfl)
            clear hy hyc
            obtain ⟨yr,ym⟩ := y
            simp only at *
            obtain ⟨yn,hyn⟩ : ∃ yn,yr.length = yn := ⟨_,rfl⟩
            have LY := Aside0.mk hyn
            have yn0 : 0 < yn := by rw [← hyn];exact K0.out.1
            have yn1 : (1 : Int) ≤ (yn : Int) := by omega
            have yc1 : 1 ≤ c0 := by have := YC.out.1;omega
            rw [hyn] at y0
            clear hyn
            rcases Nat.eq_zero_or_pos j with hj0 | hj0
            · have NEWK := Aside0.mk (show ∀ e ∈ L.take j,rcmp (keyR [0] e.f0) (keyR [0] yr) ≠ 0 from fun e he => by rw [hj0] at he;simp at he)
              have gd : decide ((j : Int) > 0) = false := decide_eq_false (by omega)
              have gd' : decide ((0 : Int) < (j : Int)) = false := decide_eq_false (by omega)
              have gd'' : decide (0 < j) = false := decide_eq_false (by omega)
              clear hj0
              go_wp2_with (fail)
              go_quiet (fail)
              have FN := Aside0.mk (fun W (e : SameW wr W) => idx_find (TQ.out.below (e.below _)).idx A0 c0 (keyR [0] yr) (RowC.below (by rw [K0.out.2.2];exact ⟨by have := YC.out.1;rw [List.length_take];omega,Kd.C_take YC.out.2 (by have := K0.out.1;omega)⟩) (e.below _)) (keyR_in (T4.out.idx.idl.inr _ (List.mem_of_getElem? YE.out))) (by simp) (by have := LP.out;have := PB.out;omega))
              rw [K1.out] at FN
              go_wp2_with (fail)
              refine (FN.out _ (SameW.drewN wr _)).mono ?_
              rintro e w5 ⟨v5,rfl,hv,hb0⟩
              have hb : Below wr.heap.size wr w5 := ((SameW.drewN wr _).below _).trans hb0
              obtain ⟨Af,cf,ef⟩ := Kd.R_slice hv
              subst ef
              obtain ⟨TT,hTT⟩ := grp_first YE.out NEWK.out
              have RV := Aside0.mk (Kd.R_reads' hv).2.2
              obtain ⟨fl,hfl⟩ : ∃ fl,(grp [0] (keyR [0] yr) L).length = fl := ⟨_,rfl⟩
              have fpos : 0 < fl := by rw [← hfl];have : grp [0] (keyR [0] yr) L = ⟨yr,ym⟩ :: TT := hTT;rw [this];simp
              have fle : fl ≤ 100 := by rw [← hfl];have := grp_len [0] (keyR [0] yr) L;have := LP.out;have := PB.out;omega
              have SG := Aside0.mk (show sumG [0] L (ks ++ [keyR [0] yr]) = sumG [0] L ks + fl by rw [sumG_app,hfl])
              have KN := Aside0.mk (show (ks ++ [keyR [0] yr]).length = ks.length + 1 by simp)
              have MN := Aside0.mk (MT.out.new YE.out (fun hm => by
                obtain ⟨e,he,q⟩ := (MT.out.mem _).1 hm
                exact NEWK.out e he (by rw [q];exact rcmp_law.self _)))
              rw [hfl] at RV ⊢
              obtain ⟨af,Axf,cxf,eaf,xf0,xf1,_⟩ := ent_get (i := 0) RV.out fpos (show (grp [0] (keyR [0] yr) L)[0]? = some ⟨yr,ym⟩ by have : grp [0] (keyR [0] yr) L = ⟨yr,ym⟩ :: TT := hTT;rw [this];rfl)
              subst eaf
              have HVA := Aside0.mk hv
              have TQ5 := Aside0.mk (TQ.out.below hb)
              have B5 := Aside0.mk (BQ.out.trans (hb.mono BQ.out.size))
              replace y0 := (hb.cell (World.block_lt_of_cell? _ _ y0)).trans y0
              replace y1 := (hb.cell (World.block_lt_of_cell? _ _ y1)).trans y1
              replace gq := (hb.cell (World.block_lt_of_cell? _ _ gq)).trans gq
              obtain ⟨sn,hsn⟩ : ∃ sn,sumG [0] L ks = sn := ⟨_,rfl⟩
              have KB := MT.out.bound (by omega) (by have := LP.out;omega)
              rw [hsn] at KB
              rw [hsn] at SG ⊢
              have f0 : (0 : Int) < (fl : Int) := by omega
              have f1 : ((fl : Int) == 0) = false := by rw [beq_eq_false_iff_ne];omega
              have f2 : decide ((fl : Int) = 0) = false := decide_eq_false (by omega)
              have f3 : decide (fl = 0) = false := decide_eq_false (by omega)
              have f4 : (ym != ym) = false := by simp
              obtain ⟨gf,egf⟩ := Kd.R_head HVA.out
              subst egf
              have xf2 : w5.cell? ⟨gf,1,none⟩ = some (.int .i64 ym) := by have h := xf1;rw [Addr.add_lit] at h;exact h
              have xf3 : w5.cell? ⟨((⟨gf,0,none⟩ : Addr).add 0).block,((⟨gf,0,none⟩ : Addr).add 0).off + 1,none⟩ = some (.int .i64 ym) := xf1
              clear hv hb hb0 hTT hfl hsn FN HVA
              go_wp2_with (fail)
              go_quiet (fail)
              go_wp2_with (fail)
              go_roundw
              case rel => exact ⟨j + 1,ks ++ [keyR [0] yr],by go_num,hjp,by rw [SG.out];go_num,by rw [KN.out];exact congrArg (Value.int .i64) (by rw [wrap_id (by omega) (by omega)];omega),MN,⟨B5.out.trans (((SameW.drewN w5 _).below _).mono B5.out.size)⟩⟩
              case measure => simp [intOf];omega
            · obtain ⟨j',hj'⟩ : ∃ j',j' + 1 = j := ⟨j - 1,by omega⟩
              obtain ⟨z,hz⟩ : ∃ z,L[j']? = some z := ⟨L[j']'(by have := LP.out;omega),List.getElem?_eq_getElem _⟩
              obtain ⟨adz,B0z,d0,ez,z0,z1,hzc,_,_⟩ := TQ.out.ref.get (by have := LP.out;omega) hz
              injection ez with ez
              subst ez
              have KZ := Aside0.mk (key0 (T4.out.idx.idl.pick z (List.mem_of_getElem? hz)))
              have ZE := Aside0.mk hz
              have ZC := Aside0.mk hzc
              have RY := Aside0.mk (T4.out.idx.idl.ok _ (List.mem_of_getElem? YE.out)).1
              have RZ := Aside0.mk (T4.out.idx.idl.ok _ (List.mem_of_getElem? hz)).1
              clear hz hzc
              obtain ⟨zr,zm⟩ := z
              simp only at *
              obtain ⟨zn,hzn⟩ : ∃ zn,zr.length = zn := ⟨_,rfl⟩
              have LZ := Aside0.mk hzn
              have zn0 : 0 < zn := by rw [← hzn];exact KZ.out.1
              rw [hzn] at z0
              clear hzn
              obtain ⟨a0,e0,u0,u1,u2,u3⟩ := cell_val (i := 0) YC.out.2 (by have := LY.out;omega) (show yr[0]? = some (rd_T66 yr 0) by
                have := rdV_get (L := yr) (i := 0) (by have := LY.out;omega)
                rw [show ((0 : Nat) : Int) = 0 from rfl] at this
                rw [this];exact List.getElem?_eq_getElem _)
              obtain ⟨b0,f0,v0,v1,v2,v3⟩ := cell_val (i := 0) ZC.out.2 (by have := LZ.out;omega) (show zr[0]? = some (rd_T66 zr 0) by
                have := rdV_get (L := zr) (i := 0) (by have := LZ.out;omega)
                rw [show ((0 : Nat) : Int) = 0 from rfl] at this
                rw [this];exact List.getElem?_eq_getElem _)
              subst e0
              subst f0
              have KYE := Aside0.mk K0.out.2.1
              have KZE := Aside0.mk KZ.out.2.1
              obtain ⟨⟨c0_,c1_,c2_,c3_⟩,hcy⟩ : ∃ cy,rd_T66 yr 0 = cy := ⟨_,rfl⟩
              obtain ⟨⟨d0_,d1_,d2_,d3_⟩,hcz⟩ : ∃ cz,rd_T66 zr 0 = cz := ⟨_,rfl⟩
              rw [hcy] at KYE u0 u1 u2 u3
              rw [hcz] at KZE v0 v1 v2 v3
              clear hcy hcz
              simp only at u0 u1 u2 u3 v0 v1 v2 v3
              replace u0 : wr.cell? a0 = some (.int .i64 c0_) := by have h := u0;simp only [Nat.zero_mul,addr_zero] at h;exact h
              replace u1 : wr.cell? ⟨a0.block,a0.off + 1,none⟩ = some (.bool c1_) := by have h := u1;simp only [Nat.zero_mul,addr_zero] at h;exact h
              replace u2 : wr.cell? ⟨a0.block,a0.off + 2,none⟩ = some (.int .i64 c2_) := by have h := u2;simp only [Nat.zero_mul,addr_zero] at h;exact h
              replace u3 : wr.cell? ⟨a0.block,a0.off + 3,none⟩ = some (.string c3_) := by have h := u3;simp only [Nat.zero_mul,addr_zero] at h;exact h
              replace v0 : wr.cell? b0 = some (.int .i64 d0_) := by have h := v0;simp only [Nat.zero_mul,addr_zero] at h;exact h
              replace v1 : wr.cell? ⟨b0.block,b0.off + 1,none⟩ = some (.bool d1_) := by have h := v1;simp only [Nat.zero_mul,addr_zero] at h;exact h
              replace v2 : wr.cell? ⟨b0.block,b0.off + 2,none⟩ = some (.int .i64 d2_) := by have h := v2;simp only [Nat.zero_mul,addr_zero] at h;exact h
              replace v3 : wr.cell? ⟨b0.block,b0.off + 3,none⟩ = some (.string d3_) := by have h := v3;simp only [Nat.zero_mul,addr_zero] at h;exact h
              have gd : decide ((j : Int) > 0) = true := decide_eq_true (by omega)
              have gd' : decide ((0 : Int) < (j : Int)) = true := decide_eq_true (by omega)
              have gd'' : decide (0 < j) = true := decide_eq_true (by omega)
              have ew : wrap64 ((j : Int) - 1) = (j' : Int) := by rw [wrap_id (by omega) (by omega)];omega
              have ew2 : IntKind.i64.wrap ((j : Int) - 1) = (j' : Int) := by rw [i64_w];exact ew
              have z2 : (0 : Int) ≤ (j' : Int) := by omega
              have z3 : (j' : Int) < (p : Int) := by omega
              have HJ := Aside0.mk hj'
              clear hj' hj0
              obtain ⟨eqc,heq⟩ : ∃ eqc,(c0_ == d0_ && (c1_ == d1_ && (c2_ == d2_ && c3_.toList == d3_.toList))) = eqc := ⟨_,rfl⟩
              have EQ := Aside0.mk heq
              have hu_ := Try.underlying66
              have hite : ∀ W : World,(if c0_ = d0_ then if c1_ = d1_ then if c2_ = d2_ then if c3_.toList = d3_.toList then (Result.ok (Value.bool true) W : Result Value) else Result.ok (Value.bool false) W else Result.ok (Value.bool false) W else Result.ok (Value.bool false) W else Result.ok (Value.bool false) W) = Result.ok (Value.bool eqc) W := fun W => by
                rw [← heq]
                by_cases e0 : c0_ = d0_
                · by_cases e1 : c1_ = d1_
                  · by_cases e2 : c2_ = d2_
                    · by_cases e3 : c3_.toList = d3_.toList
                      · simp [e0,e1,e2,e3]
                      · simp [e0,e1,e2,e3]
                    · simp [e0,e1,e2]
                  · simp [e0,e1]
                · simp [e0]
              clear heq
              have ZT := Aside0.mk (show (⟨zr,zm⟩ : En) ∈ L.take j from List.mem_of_getElem? (i := j') (by rw [List.getElem?_take_of_lt (by have := HJ.out;omega)];exact ZE.out))
              cases eqc with
              | true =>
                have MO := Aside0.mk (MT.out.old YE.out (by
                  rw [MT.out.mem]
                  refine ⟨_,ZT.out,?_⟩
                  have h := EQ.out
                  simp only [Bool.and_eq_true,beq_iff_eq] at h
                  obtain ⟨h0,h1,h2,h3⟩ := h
                  rw [KYE.out,KZE.out,h0,h1,h2,bytes_inj h3]))
                clear EQ
                go_wp2_with (fail)
                go_quiet (fail)
                go_wp2_with (fail)
                go_roundw
                case rel => exact ⟨j + 1,ks,by go_num,hjp,rfl,rfl,MO,⟨BQ.out.trans (((SameW.drewN wr _).below _).mono BQ.out.size)⟩⟩
                case measure => simp [intOf];omega
              | false =>
                have NEWK := Aside0.mk (show ∀ e ∈ L.take j,rcmp (keyR [0] e.f0) (keyR [0] yr) ≠ 0 by
                  have h := new_key T4.out.idx.idl (i := j') (x := ⟨yr,ym⟩) (y := ⟨zr,zm⟩) (by rw [HJ.out];exact YE.out) ZE.out (fun q => by
                    have h1 := key_eq RZ.out (keyR_all RY.out) q
                    rw [KYE.out,KZE.out] at h1
                    have h2 := EQ.out
                    simp only [List.cons.injEq,and_true,S66.mk.injEq] at h1
                    obtain ⟨h3,h4,h5,h6⟩ := h1
                    rw [h3,h4,h5,h6] at h2
                    simp at h2)
                  rw [HJ.out] at h
                  exact h)
                clear EQ
                go_wp2_with (fail)
                go_quiet (fail)
                have FN := Aside0.mk (fun W (e : SameW wr W) => idx_find (TQ.out.below (e.below _)).idx (some a0) c0 (keyR [0] yr) (RowC.below (by rw [K0.out.2.2];exact ⟨by have := YC.out.1;rw [List.length_take];omega,Kd.C_take YC.out.2 (by have := K0.out.1;omega)⟩) (e.below _)) (keyR_in (T4.out.idx.idl.inr _ (List.mem_of_getElem? YE.out))) (by simp) (by have := LP.out;have := PB.out;omega))
                rw [K1.out] at FN
                go_wp2_with (fail)
                refine (FN.out _ (SameW.drewN wr _)).mono ?_
                rintro e w5 ⟨v5,rfl,hv,hb0⟩
                have hb : Below wr.heap.size wr w5 := ((SameW.drewN wr _).below _).trans hb0
                obtain ⟨Af,cf,ef⟩ := Kd.R_slice hv
                subst ef
                obtain ⟨TT,hTT⟩ := grp_first YE.out NEWK.out
                have RV := Aside0.mk (Kd.R_reads' hv).2.2
                obtain ⟨fl,hfl⟩ : ∃ fl,(grp [0] (keyR [0] yr) L).length = fl := ⟨_,rfl⟩
                have fpos : 0 < fl := by rw [← hfl];have : grp [0] (keyR [0] yr) L = ⟨yr,ym⟩ :: TT := hTT;rw [this];simp
                have fle : fl ≤ 100 := by rw [← hfl];have := grp_len [0] (keyR [0] yr) L;have := LP.out;have := PB.out;omega
                have SG := Aside0.mk (show sumG [0] L (ks ++ [keyR [0] yr]) = sumG [0] L ks + fl by rw [sumG_app,hfl])
                have KN := Aside0.mk (show (ks ++ [keyR [0] yr]).length = ks.length + 1 by simp)
                have MN := Aside0.mk (MT.out.new YE.out (fun hm => by
                  obtain ⟨e,he,q⟩ := (MT.out.mem _).1 hm
                  exact NEWK.out e he (by rw [q];exact rcmp_law.self _)))
                rw [hfl] at RV ⊢
                obtain ⟨af,Axf,cxf,eaf,xf0,xf1,_⟩ := ent_get (i := 0) RV.out fpos (show (grp [0] (keyR [0] yr) L)[0]? = some ⟨yr,ym⟩ by have : grp [0] (keyR [0] yr) L = ⟨yr,ym⟩ :: TT := hTT;rw [this];rfl)
                subst eaf
                have HVA := Aside0.mk hv
                have TQ5 := Aside0.mk (TQ.out.below hb)
                have B5 := Aside0.mk (BQ.out.trans (hb.mono BQ.out.size))
                replace y0 := (hb.cell (World.block_lt_of_cell? _ _ y0)).trans y0
                replace y1 := (hb.cell (World.block_lt_of_cell? _ _ y1)).trans y1
                replace gq := (hb.cell (World.block_lt_of_cell? _ _ gq)).trans gq
                obtain ⟨sn,hsn⟩ : ∃ sn,sumG [0] L ks = sn := ⟨_,rfl⟩
                have KB := MT.out.bound (by omega) (by have := LP.out;omega)
                rw [hsn] at KB
                rw [hsn] at SG ⊢
                have f0 : (0 : Int) < (fl : Int) := by omega
                have f1 : ((fl : Int) == 0) = false := by rw [beq_eq_false_iff_ne];omega
                have f2 : decide ((fl : Int) = 0) = false := decide_eq_false (by omega)
                have f3 : decide (fl = 0) = false := decide_eq_false (by omega)
                have f4 : (ym != ym) = false := by simp
                obtain ⟨gf,egf⟩ := Kd.R_head HVA.out
                subst egf
                have xf2 : w5.cell? ⟨gf,1,none⟩ = some (.int .i64 ym) := by have h := xf1;rw [Addr.add_lit] at h;exact h
                have xf3 : w5.cell? ⟨((⟨gf,0,none⟩ : Addr).add 0).block,((⟨gf,0,none⟩ : Addr).add 0).off + 1,none⟩ = some (.int .i64 ym) := xf1
                clear hv hb hb0 hTT hfl hsn FN HVA
                go_wp2_with (fail)
                go_quiet (fail)
                go_wp2_with (fail)
                go_roundw
                case rel => exact ⟨j + 1,ks ++ [keyR [0] yr],by go_num,hjp,by rw [SG.out];go_num,by rw [KN.out];exact congrArg (Value.int .i64) (by rw [wrap_id (by omega) (by omega)];omega),MN,⟨B5.out.trans (((SameW.drewN w5 _).below _).mono B5.out.size)⟩⟩
                case measure => simp [intOf];omega
          · have j0 : decide ((j : Int) < (p : Int)) = false := decide_eq_false (by omega)
            have j0' : decide (j < p) = false := decide_eq_false hjp
            have ej : j = p := by omega
            have SA := Aside0.mk (show sumG [0] L ks = p by
              rw [sumG_all [0] ks MT.out.nd (fun k hk => by
                obtain ⟨e,he,q⟩ := (MT.out.mem k).1 hk
                rw [← q]
                exact keyR_all (T4.out.idx.idl.ok e (List.mem_of_mem_take he)).1) L T4.out.idx.idl.ok (fun e he => (MT.out.mem _).2 ⟨e,by rw [ej,List.take_of_length_le (by have := LP.out;omega)];exact he,rfl⟩)]
              exact LP.out)
            have KG := Aside0.mk (gs_met T4.out.idx (ks := ks) (by rw [LP.out,← ej];exact MT.out))
            have KS := Aside0.mk (idx_keys TQ.out.idx)
            have LS := Aside0.mk (idx_len TQ.out.idx)
            rw [KG.out] at KS
            rw [LP.out] at LS
            rw [SA.out]
            clear ej
            go_wp2_with (fail)
            refine LS.out.mono ?_
            rintro e w6 ⟨rfl,ew⟩
            subst ew
            go_wp2_with (fail)
            refine KS.out.mono ?_
            rintro e w6 ⟨rfl,ew⟩
            subst ew
            go_wp2_with (fail)
            refine (known06_end wr N w ⟨I4.out.below.trans (BQ.out.mono I4.out.le),Nat.le_trans I4.out.le BQ.out.size⟩).mono ?_
            rintro e w7 ⟨rfl,hb⟩
            have B7 := Aside0.mk hb
            clear hb
            go_wp2_with (fail)
            go_ret
            exact ⟨rfl,B7.out⟩
  · have q0 : decide ((100 : Int) < (n : Int)) = true := decide_eq_true (by omega)
    have q0' : decide ((n : Int) > 100) = true := decide_eq_true (by omega)
    have q0'' : decide (100 < n) = true := decide_eq_true (by omega)
    go_wp2_with (fail)
    refine (known06_end w3 N w I3.out).mono ?_
    rintro e w5 ⟨rfl,hb⟩
    have B5 := Aside0.mk hb
    clear hb
    go_wp2_with (fail)
    go_ret
    exact ⟨rfl,B5.out⟩
end Go.Proofs.Ythmbfcfomcaaaaa.Z
end
section
namespace Go.Proofs.Ythmbfcfomcaaaaa.Z
set_option linter.unusedVariables false
open Go.RowKit Go.Proofs.YthmbfcfomcaaaaaW.PrintWords Go.Proofs.YthmbfcfomcaaaaaW.PrintLast Go.Proofs.YthmbfcfomcaaaaaW.PrintMore
def smallE (l : List (S34)) : Bool := l.all fun e => e.f0.all fun v => decide (-9223372036854775808 ≤ v.f2) && decide (v.f2 ≤ 9223372036854775807)
theorem smallE_in {l : List (S34)} (h : smallE l = true) : ∀ x ∈ l,InR x.f0 := fun x hx v hv => by
  unfold smallE at h
  have h1 := List.all_eq_true.1 (List.all_eq_true.1 h x hx) v hv
  simpa using h1
def verdererlaw06_IndexWhole.f (l0 : List (S34)) : Option (Bool) := if smallE l0 = true then some true else none
theorem verdererlaw06_IndexWhole.calls (A0 : Option Addr) (c0 : Nat) (l0 : List (S34)) (r : Bool) (w : World) (hr0 : Kd.C k34 w A0 l0.length l0) (hc0 : l0.length ≤ c0) (h : verdererlaw06_IndexWhole.f l0 = some r) :
    Calls Try.prog 8 #[.slice A0 l0.length c0] w fun e w' => e = .returned (.bool r) ∧ Below w.heap.size w w' := by
  unfold verdererlaw06_IndexWhole.f at h
  by_cases hs : smallE l0 = true
  · rw [if_pos hs] at h
    obtain rfl := Option.some.inj h
    exact index_whole A0 l0.length c0 l0 w hr0 hc0 (smallE_in hs)
  · rw [if_neg hs] at h
    cases h
end Go.Proofs.Ythmbfcfomcaaaaa.Z
end
section
namespace Go.Proofs.Ythmbfcfomcaaaaa.Z
open Go.RowKit Go.Proofs.YthmbfcfomcaaaaaW.PrintWords Go.Proofs.YthmbfcfomcaaaaaW.PrintLast Go.Proofs.YthmbfcfomcaaaaaW.PrintMore
theorem wf_in {a : Int} (h : (Go.Lit.int .i64 a).wf = true) : -9223372036854775808 ≤ a ∧ a ≤ 9223372036854775807 := by
  simp [Go.Lit.wf,IntKind.min,IntKind.max,IntKind.signed,IntKind.bits] at h
  omega
theorem indexWhole_pure : ∀ (l0 : (List S34)),(l0.length ≤ maxLen ∧ ∀ x ∈ l0,G34 x) → verdererlaw06_IndexWhole.f l0 = some true := by
  intro l0 h
  unfold verdererlaw06_IndexWhole.f
  rw [if_pos]
  unfold smallE
  refine List.all_eq_true.2 (fun x hx => List.all_eq_true.2 (fun v hv => ?_))
  have h1 := ((h.2 x hx).1.2 v hv).2.2.1
  have h2 : -9223372036854775808 ≤ v.f2 ∧ v.f2 ≤ 9223372036854775807 := wf_in h1
  rw [decide_eq_true h2.1,decide_eq_true h2.2]
  rfl
end Go.Proofs.Ythmbfcfomcaaaaa.Z
end
namespace Go.Proofs.Ythmbfcfomcaaaaa.indexWhole
open Go.ChangeShapes Go.WideShapes Go.ChangeAt Go.RowKit Go.Proofs.YthmbfcfomcaaaaaW.PrintWords
open Go.ChangeMaps (open_string shut_string)
set_option linter.unusedVariables false
theorem own : ownKnob Try.prog.godebug = none := by kernel_rfl
theorem laidOut : laidOutB Try.prog = true := by kernel_rfl
set_option maxRecDepth 100000 in
theorem lifted (os : Os) (started : os.Started) (H : Type) (enc : TypeId × Value → H) :
    ReturnsInHanded {} Try.checked os 8 .any (Rows.indexWholeSpec.pre6 enc Try.prog Try.f8 Rows.indexWholeRow.domain false) (Rows.indexWholeSpec.post enc Try.prog Try.f8 false true false false) := by
  refine returnsInHanded_of_change (C := Try.checked) own started (by kernel_rfl) Try.func8
    (ChangeSpec.witness6 (enc := enc) (C := Try.checked) false ⟨#[],#[.slice none 0 0],[]⟩ 8 (by kernel_rfl) (by kernel_rfl) (by kernel_rfl) (by kernel_rfl)) ?_
  intro W base args ds gs before hval0 hW hcnd _
  have hval : ∀ (j : Nat) t v,Try.f8.params[j]? = some t → args[j]? = some v → Value.okWide Try.prog W .any base t v := hval0
  have hW' := hW
  obtain ⟨p,q,hA0,hV,rfl,hfz,hnd⟩ := hW
  have hA : DataW.TrodAll enc Try.prog W 0 (fun _ => true) true Try.f8.params.toList args.toList ds p := hA0
  rw [Try.params8] at hA hval
  obtain ⟨v0,vs0,d0,ds0,p0,q0,hargs,rfl,rfl,h0,r0⟩ := trodAll_cons hA
  obtain ⟨rfl,rfl,rfl⟩ := trodAll_nil r0
  obtain rfl : args = #[v0] := by cases args;simp_all
  obtain ⟨rfl,rfl⟩ := trodVars_none hV
  obtain ⟨a0,len0,cap0,rfl⟩ := okWide_slice Try.underlying22 (hval 0 22 v0 rfl rfl)
  have k0 := h0
  have lt0 : ∀ x ∈ p0,x.block < W.heap.size := by obtain ⟨m,hm⟩ := k0;exact DataW.trod_lt m _ _ _ hm
  obtain ⟨l0,hK0,hG0⟩ : ∃ l,((Kd.slice 34 Z.k34) : Kd (List Z.S34)).K W l [.slice a0 len0 cap0] ∧ (l.length ≤ maxLen ∧ ∀ x ∈ l,Z.G34 x) := by obtain ⟨fuel,hf⟩ := h0;exact (show OfTrod Try.prog 22 (Kd.slice 34 Z.k34) _ from (ofTrod_slice Try.underlying22 (by kernel_rfl) Z.of34)) _ _ _ _ _ _ _ _ _ hf
  obtain ⟨A0,c0,he0,hl0,hC0⟩ := hK0
  simp only [List.cons.injEq,Value.slice.injEq,and_true] at he0
  obtain ⟨rfl,rfl,rfl⟩ := he0
  clear hA0 hval0
  have h := Z.indexWhole_pure l0 hG0
  refine (Z.verdererlaw06_IndexWhole.calls _ _ l0 true W hC0 hl0 h).mono fun e W' ⟨he,bel⟩ => ?_
  subst he
  exact ⟨_,rfl,_,_,_,[],_,[],hW',trodAll_mk1 (shut_bool Try.underlying4 _),(trodAll_cons_mk (Below.trod laidOut (by kernel_rfl) (of_decide_eq_true (by kernel_rfl)) k0 bel lt0) trodAll_mk0),rfl,bel.frame _,fun h => by cases h⟩
theorem over : Rows.indexWholeRow.holds Try.pinned (OpenSpec.ofChange Rows.indexWholeSpec) :=
  OpenClaim.holds_of_wide 8 Try.f8 rfl rfl rfl rfl rfl rfl rfl ⟨rfl,rfl,rfl,rfl,rfl⟩ rfl rfl rfl rfl rfl (by kernel_rfl) Try.func8 (by kernel_rfl)
    (of_decide_eq_true (by kernel_rfl)) (by unfold Func.isWrapper;first | (rw [if_pos (by decide +kernel)];kernel_rfl) | (rw [if_neg (by decide +kernel)];exact ⟨rfl,rfl⟩))
    (fun os started H enc _ => lifted os started H enc)
theorem proved : Rows.IndexWholeSaid := over
#print axioms proved
end Go.Proofs.Ythmbfcfomcaaaaa.indexWhole
namespace Go.Proofs.Ythmbfcfomcaaaaa
theorem indexWhole_holds : Rows.IndexWholeSaid := indexWhole.proved
end Go.Proofs.Ythmbfcfomcaaaaa
