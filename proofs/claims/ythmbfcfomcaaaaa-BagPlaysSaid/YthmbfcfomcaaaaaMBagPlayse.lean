/-
  verdererlaw05.BagPlays: for every input the law returns true, and each argument reads behind the call as it read before. No condition.
-/
import Derived.Test.YthmbfcfomcaaaaaMBagPlaysa
import Derived.Test.YthmbfcfomcaaaaaMBagPlaysb
import Derived.Test.YthmbfcfomcaaaaaMBagPlaysc
import Derived.Test.YthmbfcfomcaaaaaMBagPlaysd
import Derived.Deep.Cut
import Derived.Deep.RegionHeld3
import Derived.Test.YthmbfcfomcaaaaaRows
import Derived.WalkKit
import Derived.ProofKit
import Derived.OpenShut
import Derived.ShutString
import Derived.ChangeOld
import Derived.Below
import Derived.Laws.Cover2
section
namespace Go.Proofs.Ythmbfcfomcaaaaa.Z
set_option linter.unusedVariables false
set_option linter.unusedSimpArgs false
open Go.RowKit Go.Proofs.YthmbfcfomcaaaaaW.PrintWords Go.Proofs.YthmbfcfomcaaaaaW.PrintLast Go.Proofs.YthmbfcfomcaaaaaW.PrintMore Go.Proofs.Ythmbfcfomcaaaaa.Cmp
structure RefCh (w w' : World) (g : Nat) (D D' : Nat → Prop) : Prop where
  ch : Ch (fun k => k = g) w w'
  dat : ∀ k,D' k → D k ∨ w.heap.size ≤ k
theorem ch_grown {w w1 : World} {S : Nat → Prop} {row : Option Nat} (hg : w.grownBy w1 row) (hr : ∀ k,row = some k → S k) : Ch S w w1 := ⟨hg.os,hg.tape,hg.output,hg.size,fun k hk hn => hg.block k hk (fun e => hn (hr k e.symm))⟩
theorem own_new {v1 : Value} {N : Nat} (h : v1.ownBlock = (Value.slice none 0 0).ownBlock ∨ ∃ b,v1.ownBlock = some b ∧ N ≤ b) : ∀ k,v1.ownBlock = some k → N ≤ k := fun k e => by
  rcases h with h | ⟨b,h,hb⟩
  · rw [h] at e;simp [Value.ownBlock] at e
  · rw [h] at e;injection e with e;omega
theorem own_new2 {v1 v2 : Value} {N M : Nat} (h1 : ∀ k,v1.ownBlock = some k → N ≤ k) (hm : N ≤ M) (h : v2.ownBlock = v1.ownBlock ∨ ∃ b,v2.ownBlock = some b ∧ M ≤ b) : ∀ k,v2.ownBlock = some k → N ≤ k := fun k e => by
  rcases h with h | ⟨b,h,hb⟩
  · rw [h] at e;exact h1 k e
  · rw [h] at e;injection e with e;omega
theorem RefCh.same {w w' : World} {g : Nat} {D : Nat → Prop} (h : Below w.heap.size w w') : RefCh w w' g D D := ⟨Ch.of_below h,fun _ h => .inl h⟩
theorem rright_at (A : Option Addr) (c : Nat) (r : Rw) (w : World) (hr : RowC w A c r) : Calls Try.prog 65 #[.slice A r.length c] w fun e w' => e = .returned (.bool (rright r)) ∧ Below w.heap.size w w' :=
  verdererref02_Right.calls 41 A c r (rright r) w hr.row hr.cap (rright_ref r 41 (by omega))
theorem rfew_calls (n : Int) (w : World) : Calls Try.prog 66 #[.int .i64 n] w fun e w' => e = .returned (.bool (few n)) ∧ Drawn0 w w' := by
  refine verdererref05_few.calls n (few n) w ?_
  unfold verdererref05_few.f few
  by_cases h : n ≥ -1073741824
  · rw [if_pos h,decide_eq_true (show -1073741824 ≤ n from h)];rfl
  · rw [if_neg h,decide_eq_false (show ¬ -1073741824 ≤ n from h)];rfl
theorem take_lo {r : Rw} {L : List En} (h : SrtD L) : L.take (loD r L).length = loD r L := by
  have h1 : (loD r L ++ (eqD r L ++ hiD r L)).take (loD r L).length = loD r L := List.take_left
  rwa [← List.append_assoc,← (srt_split r h).1] at h1
theorem drop_lo {r : Rw} {L : List En} (h : SrtD L) : L.drop (loD r L).length = (fndD r L).toList ++ hiD r L := by
  have h1 : (loD r L ++ (eqD r L ++ hiD r L)).drop (loD r L).length = eqD r L ++ hiD r L := List.drop_left
  rwa [← List.append_assoc,← (srt_split r h).1,(srt_split r h).2] at h1
set_option maxHeartbeats 4000000 in
set_option maxRecDepth 100000 in
theorem ref_addR {D : Nat → Prop} (g : Nat) (A1 : Option Addr) (c1 : Nat) (L : List En) (A : Option Addr) (c : Nat) (r : Rw) (m : Int) (w : World) (h : RefV w g A1 c1 L D) (hr : RowC w A c r) (hrt : rright r = false) :
    Calls Try.prog 17 #[.pointer (some ⟨g,0,none⟩),.slice A r.length c,.int .i64 m] w fun e w' => ∃ A' c' D',e = .returned (.int .i64 2) ∧ RefV w' g A' c' L D' ∧ RefCh w w' g D D' := by
  have HV := Aside0.mk h
  have RT := Aside0.mk (rright_at A c r w hr)
  rw [hrt] at RT
  clear h hr hrt
  go_enter Try.func17,Try.ntmps17
  go_wp2_with (fail)
  refine RT.out.mono ?_
  rintro e w1 ⟨rfl,hb⟩
  have HB1 := Aside0.mk hb
  have HV1 := Aside0.mk (HV.out.below hb)
  clear hb RT
  go_wp2_with (fail)
  go_ret
  first
    | exact ⟨_,_,_,rfl,HV1.out,RefCh.same HB1.out⟩
    | exact ⟨rfl,_,_,_,HV1.out,RefCh.same HB1.out⟩
set_option maxHeartbeats 4000000 in
set_option maxRecDepth 100000 in
theorem ref_addX {D : Nat → Prop} (g : Nat) (A1 : Option Addr) (c1 : Nat) (L : List En) (A : Option Addr) (c : Nat) (r : Rw) (m : Int) (w : World) (h : RefV w g A1 c1 L D) (hs : SrtD L) (hk : OkD L) (hr : RowC w A c r) (hl : L.length ≤ 1000000) (hrt : rright r = true) (hok : okAdd r m L = false) :
    Calls Try.prog 17 #[.pointer (some ⟨g,0,none⟩),.slice A r.length c,.int .i64 m] w fun e w' => ∃ A' c' D',e = .returned (.int .i64 10) ∧ RefV w' g A' c' L D' ∧ RefCh w w' g D D' := by
  have HV := Aside0.mk h
  have HS := Aside0.mk hs
  have HK := Aside0.mk hk
  have HR := Aside0.mk hr
  have RT := Aside0.mk (rright_at A c r w hr)
  have HL := Aside0.mk hl
  rw [hrt] at RT
  obtain ⟨k,hk0⟩ : ∃ k,manyD r L = k := ⟨_,rfl⟩
  have MK := Aside0.mk hk0
  obtain ⟨m0,m1⟩ := many_bd (r := r) hk
  rw [hk0] at m0 m1
  unfold okAdd at hok
  rw [hk0] at hok
  by_cases h1 : m < -2147483648
  · have q1 : decide (m < -2147483648) = true := decide_eq_true h1
    clear h hs hk hr hl hrt hok hk0
    go_enter Try.func17,Try.ntmps17
    go_wp2_with (fail)
    refine RT.out.mono ?_
    rintro e w1 ⟨rfl,hb⟩
    have HB1 := Aside0.mk hb
    have HV1 := Aside0.mk (HV.out.below hb)
    have HR1 := Aside0.mk (HR.out.below hb)
    clear hb RT
    go_wp2_with (fail)
    have MN := Aside0.mk (ref_many g A1 c1 L A c r w1 HV1.out HS.out HK.out HR1.out HL.out)
    rw [MK.out] at MN
    refine MN.out.mono ?_
    rintro e w2 ⟨rfl,hb⟩
    have HB2 := Aside0.mk (HB1.out.trans (hb.mono HB1.out.size))
    have HV2 := Aside0.mk (HV1.out.below hb)
    clear hb HB1 HV1 HR1 MN
    go_wp2_with (fail)
    go_ret
    first
      | exact ⟨_,_,_,rfl,HV2.out,RefCh.same HB2.out⟩
      | exact ⟨rfl,_,_,_,HV2.out,RefCh.same HB2.out⟩
  · have q1 : decide (m < -2147483648) = false := decide_eq_false h1
    by_cases h2 : 2147483648 < m
    · have q2 : decide (2147483648 < m) = true := decide_eq_true h2
      clear h hs hk hr hl hrt hok hk0
      go_enter Try.func17,Try.ntmps17
      go_wp2_with (fail)
      refine RT.out.mono ?_
      rintro e w1 ⟨rfl,hb⟩
      have HB1 := Aside0.mk hb
      have HV1 := Aside0.mk (HV.out.below hb)
      have HR1 := Aside0.mk (HR.out.below hb)
      clear hb RT
      go_wp2_with (fail)
      have MN := Aside0.mk (ref_many g A1 c1 L A c r w1 HV1.out HS.out HK.out HR1.out HL.out)
      rw [MK.out] at MN
      refine MN.out.mono ?_
      rintro e w2 ⟨rfl,hb⟩
      have HB2 := Aside0.mk (HB1.out.trans (hb.mono HB1.out.size))
      have HV2 := Aside0.mk (HV1.out.below hb)
      clear hb HB1 HV1 HR1 MN
      go_wp2_with (fail)
      go_ret
      first
        | exact ⟨_,_,_,rfl,HV2.out,RefCh.same HB2.out⟩
        | exact ⟨rfl,_,_,_,HV2.out,RefCh.same HB2.out⟩
    · have q2 : decide (2147483648 < m) = false := decide_eq_false h2
      have b0 : -2147483648 ≤ m := by omega
      have b1 : m ≤ 2147483648 := by omega
      rw [decide_eq_true b0,decide_eq_true b1] at hok
      simp only [Bool.true_and] at hok
      have FEW := Aside0.mk (fun W => rfew_calls (k + m) W)
      rw [hok] at FEW
      clear h hs hk hr hl hrt hok hk0
      go_enter Try.func17,Try.ntmps17
      go_wp2_with (fail)
      refine RT.out.mono ?_
      rintro e w1 ⟨rfl,hb⟩
      have HB1 := Aside0.mk hb
      have HV1 := Aside0.mk (HV.out.below hb)
      have HR1 := Aside0.mk (HR.out.below hb)
      clear hb RT
      go_wp2_with (fail)
      have MN := Aside0.mk (ref_many g A1 c1 L A c r w1 HV1.out HS.out HK.out HR1.out HL.out)
      rw [MK.out] at MN
      refine MN.out.mono ?_
      rintro e w2 ⟨rfl,hb⟩
      have HB2 := Aside0.mk (HB1.out.trans (hb.mono HB1.out.size))
      have HV2 := Aside0.mk (HV1.out.below hb)
      clear hb HB1 HV1 HR1 MN
      go_wp2_with (fail)
      refine (FEW.out w2).mono ?_
      rintro e w3 ⟨rfl,hd⟩
      have hb := hd.below
      have HB3 := Aside0.mk (HB2.out.trans (hb.mono HB2.out.size))
      have HV3 := Aside0.mk (HV2.out.below hb)
      clear hb hd HB2 HV2 FEW
      go_wp2_with (fail)
      go_ret
      first
        | exact ⟨_,_,_,rfl,HV3.out,RefCh.same HB3.out⟩
        | exact ⟨rfl,_,_,_,HV3.out,RefCh.same HB3.out⟩
set_option maxHeartbeats 4000000 in
set_option maxRecDepth 100000 in
theorem ref_addNN {D : Nat → Prop} (g : Nat) (A1 : Option Addr) (c1 : Nat) (L : List En) (A : Option Addr) (c : Nat) (r : Rw) (m n : Int) (w : World) (h : RefV w g A1 c1 L D) (hs : SrtD L) (hk : OkD L) (hr : RowC w A c r) (hl : L.length ≤ 1000000)
    (hrt : rright r = true) (hn : manyD r L + m = n) (hok : okAdd r m L = true) (hz : n ≠ 0) (hf : fndD r L = none) :
    Calls Try.prog 17 #[.pointer (some ⟨g,0,none⟩),.slice A r.length c,.int .i64 m] w fun e w' => ∃ A' c' D',e = .returned (.int .i64 0) ∧ RefV w' g A' c' (putD r n L) D' ∧ RefCh w w' g D D' := by
  have HV := Aside0.mk h
  have HS := Aside0.mk hs
  have HK := Aside0.mk hk
  have HR := Aside0.mk hr
  have HF := Aside0.mk hf
  have HN := Aside0.mk hn
  have RL := Aside0.mk (right_len hrt)
  have RT := Aside0.mk (rright_at A c r w hr)
  rw [hrt] at RT
  obtain ⟨k,hk0⟩ : ∃ k,manyD r L = k := ⟨_,rfl⟩
  have MK := Aside0.mk hk0
  obtain ⟨m0,m1⟩ := many_bd (r := r) hk
  rw [hk0] at m0 m1 hn
  have hok' := hok
  unfold okAdd at hok'
  rw [Bool.and_eq_true,Bool.and_eq_true,decide_eq_true_eq,decide_eq_true_eq,hk0,hn] at hok'
  obtain ⟨⟨b0,b1⟩,hfew⟩ := hok'
  have HFEW := Aside0.mk hfew
  have f0 := (few_iff.1 hfew).1
  have f1 := (few_iff.1 hfew).2
  have q1 : decide (m < -2147483648) = false := decide_eq_false (by omega)
  have q2 : decide (2147483648 < m) = false := decide_eq_false (by omega)
  have FEW := Aside0.mk (fun W => rfew_calls (k + m) W)
  rw [hn,hfew] at FEW
  have HN2 := Aside0.mk hn
  have q3 : (n != 0) = true := by simp [hz]
  have HZ := Aside0.mk hz
  obtain ⟨len,hlen⟩ : ∃ len,L.length = len := ⟨_,rfl⟩
  obtain ⟨at_,hat⟩ : ∃ at_,(loD r L).length = at_ := ⟨_,rfl⟩
  have HLEN := Aside0.mk hlen
  have HAT := Aside0.mk hat
  have al : at_ ≤ len := by have := lo_len r hs;omega
  have aB : at_ ≤ 1000000 := by omega
  have TK := Aside0.mk (take_lo (r := r) hs)
  have DP := Aside0.mk (drop_lo (r := r) hs)
  rw [hat] at TK DP
  rw [hf] at DP
  have DPH := Aside0.mk (show L.drop at_ = hiD r L from DP.out)
  obtain ⟨i0,hi0,hsz0⟩ : ∃ i0,Try.prog.info? 34 = some i0 ∧ i0.size = 2 := by
    obtain ⟨i0,hi,hz⟩ := Option.map_eq_some_iff.1 info34
    simp only [Prod.mk.injEq] at hz
    exact ⟨i0,hi,hz.2.1⟩
  have CT := Aside0.mk (cut_to 22 34 .i64 Try.underlying22 hi0 A1 len c1 (at_ : Int) (by omega) (by omega) (by have := h.cap;omega))
  have CF := Aside0.mk (cut_from 22 34 .i64 Try.underlying22 hi0 2 hsz0 A1 len c1 (at_ : Int) (by omega) (by omega))
  simp only [Int.toNat_natCast] at CT
  rw [show ((at_ : Int) : Int).toNat = at_ by omega] at CF
  obtain ⟨A2,hA2⟩ : ∃ A2,(if c1 = at_ then A1 else A1.map (·.add ((at_) * 2))) = A2 := ⟨_,rfl⟩
  have HA2 := Aside0.mk hA2
  rw [hA2] at CF
  have hct := CT.out
  have hcf := CF.out
  clear CT CF
  have g0 := (blk_cell h.blk 0).trans rfl
  rw [hlen] at g0
  have WLT := Aside0.mk (blk_lt h.blk)
  clear h hs hk hr hf hn hk0 hrt hok hfew hz hlen hat hi0 hsz0 hA2
  go_enter Try.func17,Try.ntmps17
  go_wp2_with (fail)
  refine RT.out.mono ?_
  rintro e w1 ⟨rfl,hb⟩
  have HB1 := Aside0.mk hb
  have HV1 := Aside0.mk (HV.out.below hb)
  have HR1 := Aside0.mk (HR.out.below hb)
  clear hb RT
  go_wp2_with (fail)
  have MN := Aside0.mk (ref_many g A1 c1 L A c r w1 HV1.out HS.out HK.out HR1.out (by have := HLEN.out;omega))
  rw [MK.out] at MN
  refine MN.out.mono ?_
  rintro e w2 ⟨rfl,hb⟩
  have HB2 := Aside0.mk (HB1.out.trans (hb.mono HB1.out.size))
  have HV2 := Aside0.mk (HV1.out.below hb)
  have HR2 := Aside0.mk (HR1.out.below hb)
  clear hb HB1 HV1 HR1 MN
  go_wp2_with (fail)
  rw [HN2.out]
  refine (FEW.out w2).mono ?_
  rintro e w3 ⟨rfl,hd⟩
  have hb := hd.below
  have HB3 := Aside0.mk (HB2.out.trans (hb.mono HB2.out.size))
  have HV3 := Aside0.mk (HV2.out.below hb)
  have HR3 := Aside0.mk (HR2.out.below hb)
  clear hb hd HB2 HV2 HR2 FEW
  go_wp2_with (fail)
  have FN := Aside0.mk (ref_find g A1 c1 L A c r w3 HV3.out HS.out HK.out HR3.out (by have := HLEN.out;omega))
  rw [HAT.out,HF.out] at FN
  simp only [Option.isSome_none] at FN
  refine FN.out.mono ?_
  rintro e w4 ⟨rfl,hb⟩
  have HB4 := Aside0.mk (HB3.out.trans (hb.mono HB3.out.size))
  have HV4 := Aside0.mk (HV3.out.below hb)
  have HR4 := Aside0.mk (HR3.out.below hb)
  replace g0 := (blk_cell HV4.out.blk 0).trans rfl
  rw [HLEN.out] at g0
  clear hb HB3 HV3 HR3 FN
  go_upto_region 8 with (fail)
  rw [HN2.out]
  have BX5 := Aside0.mk (blk_new w4 (Obj.cells #[.slice none 0 0,.int .i64 n] 34))
  have HB5 := Aside0.mk (below_alloc HB4.out (Obj.cells #[.slice none 0 0,.int .i64 n] 34))
  have HV5 := Aside0.mk (HV4.out.below (below_alloc (Below.refl w4.heap.size w4) (Obj.cells #[.slice none 0 0,.int .i64 n] 34)))
  have HR5 := Aside0.mk (HR4.out.below (below_alloc (Below.refl w4.heap.size w4) (Obj.cells #[.slice none 0 0,.int .i64 n] 34)))
  have GE := Aside0.mk HB4.out.size
  obtain ⟨bx,hbx⟩ : ∃ bx,w4.heap.size = bx := ⟨_,rfl⟩
  rw [hbx] at BX5 GE ⊢
  clear hbx HB4 HV4 HR4 g0
  generalize w4.alloc (Obj.cells #[.slice none 0 0,.int .i64 n] 34) = w5 at *
  have z0 := blk_frozen BX5.out 0
  have y0 := (blk_cell BX5.out 0).trans rfl
  have y1 := (blk_cell BX5.out 1).trans rfl
  go_upto_region 9 with (((with_reducible refine gate_builtin (b := .append) (xs := #[.tmp 42,.tmp 43]) rfl ?_);at_builtin;refine Kd.R_append_rows k66 (w0 := w) w.heap.size rfl (.tmp 42) (.tmp 43) 23 66 (.agg #[(.int .i64 0),(.bool false),(.int .i64 0),(.string ⟨#[]⟩)]) 40 rfl Try.underlying23 info66 rfl (by decide) (by omega) (.slice none 0 0) [] r A r.length c (fun k => k ≠ bx) (fun _ => False) rfl rfl (Kd.R_nil _ _ _ _ _) HR5.out.row (fun x cs h => by rw [k66_open h];exact k66_mkM _ _ _ _) (fun _ h => h.elim) (fun k hk => by have := blk_lt BX5.out;omega) HB5.out HB5.out.size (by have := RL.out;rw [List.length_nil];omega) ?_;intro v1 w6 hv hb3 hg hat;have HV1 := Aside0.mk hv;have HB6 := Aside0.mk hb3;have HV6 := Aside0.mk (HV5.out.keep (ch_grown (S := fun _ => False) hg (fun k e => by cases e)) (fun s => s) (fun _ _ s => s));have BX6 := Aside0.mk (blk_grown BX5.out hg (by simp [Value.ownBlock]));have z6 := blk_frozen BX6.out 0;have y6 := (blk_cell BX6.out 0).trans rfl;obtain ⟨Ar,cr,er⟩ := Kd.R_slice hv;clear hv hb3 hg hat z0 y0 y1;subst er))
  have cb6 : Ch (fun k => k = bx) w6 (w6.setCell ⟨bx,0,none⟩ (.slice Ar r.length cr)) := (Ch.refl (fun k => k = bx) w6).setCell (p := ⟨bx,0,none⟩) (.inl rfl) _
  have BX7 := Aside0.mk (show (w6.setCell ⟨bx,0,none⟩ (.slice Ar r.length cr)).heap[bx]? = some (.cells #[.slice Ar r.length cr,.int .i64 n] 34 (0,0)) from blk_put BX6.out 0 _ rfl)
  have HV7 := Aside0.mk (HV6.out.keep cb6 (fun e => by have := WLT.out;have := GE.out;omega) (fun k hk e => by have := HV.out.lt k hk;have := GE.out;omega))
  have HB7 := Aside0.mk (HB6.out.setCell (p := ⟨bx,0,none⟩) GE.out (.slice Ar r.length cr))
  have HR7 := Aside0.mk (Kd.R_far (p := ⟨bx,0,none⟩) HV1.out (fun k hk => hk) (.slice Ar r.length cr))
  clear cb6 z6 y6 HV1
  generalize w6.setCell ⟨bx,0,none⟩ (.slice Ar r.length cr) = w9 at *
  have RR := Aside0.mk (show ∃ NR : Nat → Prop,(∀ k,NR k → w.heap.size ≤ k ∧ k < w9.heap.size ∧ k ≠ bx) ∧ Kd.F k66 w9 NR Ar r.length r ∧ r.length ≤ cr from ⟨fun k => k ≠ bx ∧ w.heap.size ≤ k ∧ k < w9.heap.size,fun k hk => ⟨hk.2.1,hk.2.2,hk.1⟩,Kd.F_mono (Kd.R_F (Kd.R_bound HR7.out)) (fun k hk => ⟨hk.1,hk.2.1,hk.2.2.1⟩),(Kd.R_reads' HR7.out).2.1⟩)
  obtain ⟨NR,hNR,hFR,hcr⟩ := RR.out
  have NR1 := Aside0.mk hNR
  have FR1 := Aside0.mk hFR
  have CR1 := Aside0.mk hcr
  clear hNR hFR hcr RR HR7
  have HV9 := HV7
  have HB9 := HB7
  have BX9 := BX7
  have FR9 := Aside0.mk (Kd.F_mono (ok' := fun k => D k ∨ NR k) FR1.out (fun k hk => .inr hk))
  have NR9 := NR1
  have CR9 := CR1
  clear HV7 HB7 BX7 FR1 NR1 CR1
  have OKD := Aside0.mk (fun k (hk : D k) => show (D k ∨ NR k ∨ w9.heap.size ≤ k) ∧ k < w9.heap.size from ⟨.inl hk,Nat.lt_of_lt_of_le (HV.out.lt k hk) HB9.out.size⟩)
  have FT := Aside0.mk (show Kd.F k34 w9 D A1 at_ (loD r L) by
    have h1 := Kd.F_take (m := at_) HV9.out.row (by have := HLEN.out;omega)
    rw [TK.out,HAT.out] at h1
    exact h1)
  have g9 := (blk_cell HV9.out.blk 0).trans rfl
  rw [HLEN.out] at g9
  go_upto_region 13 with (((with_reducible refine gate_builtin (b := .append) (xs := #[.tmp 56,.tmp 62]) rfl ?_);at_builtin;refine Kd.N_append_rows k34 (w0 := w) w.heap.size rfl (.tmp 56) (.tmp 62) 22 34 (.agg #[(.slice none 0 0),(.int .i64 0)]) 32 rfl Try.underlying22 info34 rfl (by decide) (by omega) (.slice none 0 0) [] (loD r L) A1 at_ c1 (fun k => D k ∨ NR k ∨ w9.heap.size ≤ k) D rfl rfl (Kd.N_nil _ _ _ _ _) FT.out (fun k hk => ⟨.inl hk,by simp [Value.ownBlock]⟩) (fun k hk => .inr (.inr hk)) HB9.out HB9.out.size (by have := HLEN.out;rw [List.length_nil];omega) ?_;intro v1 w10 hv hb3 hg hat;rw [List.nil_append] at hv;have N10 := Aside0.mk hv;have HB10 := Aside0.mk hb3;have AT10 := Aside0.mk (own_new hat);have N10S := Aside0.mk hg.size;have HV10 := Aside0.mk (HV9.out.keep (ch_grown (S := fun _ => False) hg (fun k e => by cases e)) (fun s => s) (fun _ _ s => s));have BX10 := Aside0.mk (blk_grown BX9.out hg (by simp [Value.ownBlock]));have FR10 := Aside0.mk (Kd.F_grown FR9.out hg (fun k hk => by simp [Value.ownBlock]));have y10 := (blk_cell BX10.out 0).trans rfl;have y11 := (blk_cell BX10.out 1).trans rfl;obtain ⟨Al,cl,el⟩ := Kd.N_slice hv;clear hv hb3 hg hat g9;subst el))
  have OKE := Aside0.mk (fun k (hk : D k ∨ NR k) => show (D k ∨ NR k ∨ w9.heap.size ≤ k) ∧ some k ≠ (Value.slice Al (loD r L).length cl).ownBlock from ⟨hk.imp id .inl,fun e => by have := AT10.out k e.symm;have : k < w9.heap.size := hk.elim (fun q => (OKD.out k q).2) (fun q => (NR9.out k q).2.1);omega⟩)
  go_upto_region 15 with (((with_reducible refine gate_builtin (b := .append) (xs := #[.tmp 67,.tmp 69]) rfl ?_);at_builtin;refine Kd.N_append k34 (w0 := w) w.heap.size rfl (.tmp 67) (.tmp 69) 22 34 (.agg #[(.slice none 0 0),(.int .i64 0)]) 32 rfl Try.underlying22 info34 rfl (by decide) (by omega) (.slice Al (loD r L).length cl) (loD r L) (⟨r,n⟩ : En) [.slice Ar r.length cr,.int .i64 n] (fun k => D k ∨ NR k ∨ w9.heap.size ≤ k) (fun k => D k ∨ NR k) rfl rfl (k34_mkF _ _ (⟨r,n⟩ : En) CR9.out FR10.out) OKE.out (fun k hk => .inr (.inr (by have h1 := HB10.out.size;have h2 := HB9.out.size;have h3 := N10S.out;omega))) N10.out HB10.out HB10.out.size (by have := HLEN.out;have := HAT.out;omega) ?_;intro v2 w11 hv hb3 hg hat;obtain ⟨L2,hL2⟩ : ∃ L2,loD r L ++ [(⟨r,n⟩ : En)] = L2 := ⟨_,rfl⟩;rw [hL2] at hv;have HL2 := Aside0.mk hL2;clear hL2;have N12 := Aside0.mk hv;have HB12 := Aside0.mk hb3;have N12S := Aside0.mk (Nat.le_trans N10S.out hg.size);have AT12 := Aside0.mk (own_new2 AT10.out N10S.out hat);have HV12 := Aside0.mk (HV10.out.keep (ch_grown (S := fun k => w9.heap.size ≤ k) hg (fun k e => AT10.out k e)) (fun s => by have := WLT.out;have := HB9.out.size;omega) (fun k hk s => by have := (OKD.out k hk).2;omega));obtain ⟨Al2,cl2,el⟩ := Kd.N_slice hv;clear hv hb3 hg hat y10 y11;subst el))
  have g12 := (blk_cell HV12.out.blk 0).trans rfl
  rw [HLEN.out] at g12
  clear N10 HB10 HV10 AT10 FR10
  have FT2 := Aside0.mk (show Kd.F k34 w11 D A2 (len - at_) (hiD r L) by
    have h1 := Kd.F_cut (c := c1) (m := at_) HV12.out.row (by have := HLEN.out;omega) HV12.out.cap
    rw [DPH.out] at h1
    have h2 : (hiD r L).length = len - at_ := by rw [← DPH.out,List.length_drop,HLEN.out]
    rw [h2] at h1
    rw [← HA2.out]
    exact h1)
  have zg := blk_frozen HV12.out.blk 0
  go_wp2_with (((with_reducible refine gate_builtin (b := .append) (xs := #[.tmp 75,.tmp 81]) rfl ?_);at_builtin;refine Kd.N_append_rows k34 (w0 := w) w.heap.size rfl (.tmp 75) (.tmp 81) 22 34 (.agg #[(.slice none 0 0),(.int .i64 0)]) 32 rfl Try.underlying22 info34 rfl (by decide) (by omega) (.slice Al2 L2.length cl2) L2 (hiD r L) A2 (len - at_) (c1 - at_) (fun k => D k ∨ NR k ∨ w9.heap.size ≤ k) D rfl rfl N12.out FT2.out (fun k hk => ⟨.inl hk,fun e => by have := AT12.out k e.symm;have := (OKD.out k hk).2;omega⟩) (fun k hk => .inr (.inr (by have h1 := HB12.out.size;have h3 := N12S.out;omega))) HB12.out HB12.out.size (by have := HLEN.out;have := HAT.out;have hL2 := congrArg List.length HL2.out;rw [List.length_append] at hL2;simp at hL2;omega) ?_;intro v3 w12 hv hb3 hg hat;obtain ⟨L3,hL3⟩ : ∃ L3,L2 ++ hiD r L = L3 := ⟨_,rfl⟩;rw [hL3] at hv;have HL3 := Aside0.mk hL3;clear hL3;have N13 := Aside0.mk hv;have HB13 := Aside0.mk hb3;have HV13 := Aside0.mk (HV12.out.keep (ch_grown (S := fun k => w9.heap.size ≤ k) hg (fun k e => AT12.out k e)) (fun s => by have := WLT.out;have := HB9.out.size;omega) (fun k hk s => by have := (OKD.out k hk).2;omega));have zg2 := blk_frozen HV13.out.blk 0;have yg2 := (blk_cell HV13.out.blk 0).trans rfl;obtain ⟨Al3,cl3,el⟩ := Kd.N_slice hv;clear hv hb3 hg hat g12 zg;subst el))
  go_ret
  have hL : L3 = putD r n L := by
    rw [← HL3.out]
    rw [← HL2.out];unfold putD;rw [if_neg HZ.out]
  rw [← hL]
  have s9 := HB9.out.size
  have wl := WLT.out
  have cg : Ch (fun k => k = g) w12 (w12.setCell ⟨g,0,none⟩ (.slice Al3 L3.length cl3)) := (Ch.refl (fun k => k = g) w12).setCell (p := ⟨g,0,none⟩) (.inl rfl) _
  have dn : ∀ k,((D k ∨ NR k ∨ w9.heap.size ≤ k) ∧ k < w12.heap.size) → k ≠ g := fun k hk e => by
    rcases hk.1 with q | q | q
    · exact HV.out.g_not (e ▸ q)
    · have := (NR9.out k q).1;omega
    · omega
  have R1 : RefV (w12.setCell ⟨g,0,none⟩ (.slice Al3 L3.length cl3)) g Al3 cl3 L3 (fun k => (D k ∨ NR k ∨ w9.heap.size ≤ k) ∧ k < w12.heap.size) :=
    ⟨blk_put HV13.out.blk 0 _ rfl,(Kd.N_reads' N13.out).2.1,Kd.F_step (Kd.F_bound (Kd.N_F N13.out)) (fun k hk hlt => cg.block k hlt (dn k hk)),fun hk => dn g hk rfl,fun k hk => Nat.lt_of_lt_of_le hk.2 cg.size⟩
  have R2 : RefCh w (w12.setCell ⟨g,0,none⟩ (.slice Al3 L3.length cl3)) g D (fun k => (D k ∨ NR k ∨ w9.heap.size ≤ k) ∧ k < w12.heap.size) :=
    ⟨(Ch.of_below (S := fun k => k = g) HB13.out).then_ cg (fun k hk => .inl hk),fun k hk => hk.1.imp id (fun q => q.elim (fun q => (NR9.out k q).1) (fun q => by omega))⟩
  first
    | exact ⟨_,_,_,rfl,R1,R2⟩
    | exact ⟨rfl,_,_,_,R1,R2⟩
    | exact ⟨rfl,_,_,R1,R2⟩
set_option maxHeartbeats 4000000 in
set_option maxRecDepth 100000 in
theorem ref_addNZ {D : Nat → Prop} (g : Nat) (A1 : Option Addr) (c1 : Nat) (L : List En) (A : Option Addr) (c : Nat) (r : Rw) (m n : Int) (w : World) (h : RefV w g A1 c1 L D) (hs : SrtD L) (hk : OkD L) (hr : RowC w A c r) (hl : L.length ≤ 1000000)
    (hrt : rright r = true) (hn : manyD r L + m = n) (hok : okAdd r m L = true) (hz : n = 0) (hf : fndD r L = none) :
    Calls Try.prog 17 #[.pointer (some ⟨g,0,none⟩),.slice A r.length c,.int .i64 m] w fun e w' => ∃ A' c' D',e = .returned (.int .i64 0) ∧ RefV w' g A' c' (putD r n L) D' ∧ RefCh w w' g D D' := by
  have HV := Aside0.mk h
  have HS := Aside0.mk hs
  have HK := Aside0.mk hk
  have HR := Aside0.mk hr
  have HF := Aside0.mk hf
  have HN := Aside0.mk hn
  have RL := Aside0.mk (right_len hrt)
  have RT := Aside0.mk (rright_at A c r w hr)
  rw [hrt] at RT
  obtain ⟨k,hk0⟩ : ∃ k,manyD r L = k := ⟨_,rfl⟩
  have MK := Aside0.mk hk0
  obtain ⟨m0,m1⟩ := many_bd (r := r) hk
  rw [hk0] at m0 m1 hn
  have hok' := hok
  unfold okAdd at hok'
  rw [Bool.and_eq_true,Bool.and_eq_true,decide_eq_true_eq,decide_eq_true_eq,hk0,hn] at hok'
  obtain ⟨⟨b0,b1⟩,hfew⟩ := hok'
  have HFEW := Aside0.mk hfew
  have f0 := (few_iff.1 hfew).1
  have f1 := (few_iff.1 hfew).2
  have q1 : decide (m < -2147483648) = false := decide_eq_false (by omega)
  have q2 : decide (2147483648 < m) = false := decide_eq_false (by omega)
  have FEW := Aside0.mk (fun W => rfew_calls (k + m) W)
  rw [hn,hfew] at FEW
  have HN2 := Aside0.mk hn
  have q3 : (n != 0) = false := by simp [hz]
  have HZ := Aside0.mk hz
  obtain ⟨len,hlen⟩ : ∃ len,L.length = len := ⟨_,rfl⟩
  obtain ⟨at_,hat⟩ : ∃ at_,(loD r L).length = at_ := ⟨_,rfl⟩
  have HLEN := Aside0.mk hlen
  have HAT := Aside0.mk hat
  have al : at_ ≤ len := by have := lo_len r hs;omega
  have aB : at_ ≤ 1000000 := by omega
  have TK := Aside0.mk (take_lo (r := r) hs)
  have DP := Aside0.mk (drop_lo (r := r) hs)
  rw [hat] at TK DP
  rw [hf] at DP
  have DPH := Aside0.mk (show L.drop at_ = hiD r L from DP.out)
  obtain ⟨i0,hi0,hsz0⟩ : ∃ i0,Try.prog.info? 34 = some i0 ∧ i0.size = 2 := by
    obtain ⟨i0,hi,hz⟩ := Option.map_eq_some_iff.1 info34
    simp only [Prod.mk.injEq] at hz
    exact ⟨i0,hi,hz.2.1⟩
  have CT := Aside0.mk (cut_to 22 34 .i64 Try.underlying22 hi0 A1 len c1 (at_ : Int) (by omega) (by omega) (by have := h.cap;omega))
  have CF := Aside0.mk (cut_from 22 34 .i64 Try.underlying22 hi0 2 hsz0 A1 len c1 (at_ : Int) (by omega) (by omega))
  simp only [Int.toNat_natCast] at CT
  rw [show ((at_ : Int) : Int).toNat = at_ by omega] at CF
  obtain ⟨A2,hA2⟩ : ∃ A2,(if c1 = at_ then A1 else A1.map (·.add ((at_) * 2))) = A2 := ⟨_,rfl⟩
  have HA2 := Aside0.mk hA2
  rw [hA2] at CF
  have hct := CT.out
  have hcf := CF.out
  clear CT CF
  have g0 := (blk_cell h.blk 0).trans rfl
  rw [hlen] at g0
  have WLT := Aside0.mk (blk_lt h.blk)
  clear h hs hk hr hf hn hk0 hrt hok hfew hz hlen hat hi0 hsz0 hA2
  go_enter Try.func17,Try.ntmps17
  go_wp2_with (fail)
  refine RT.out.mono ?_
  rintro e w1 ⟨rfl,hb⟩
  have HB1 := Aside0.mk hb
  have HV1 := Aside0.mk (HV.out.below hb)
  have HR1 := Aside0.mk (HR.out.below hb)
  clear hb RT
  go_wp2_with (fail)
  have MN := Aside0.mk (ref_many g A1 c1 L A c r w1 HV1.out HS.out HK.out HR1.out (by have := HLEN.out;omega))
  rw [MK.out] at MN
  refine MN.out.mono ?_
  rintro e w2 ⟨rfl,hb⟩
  have HB2 := Aside0.mk (HB1.out.trans (hb.mono HB1.out.size))
  have HV2 := Aside0.mk (HV1.out.below hb)
  have HR2 := Aside0.mk (HR1.out.below hb)
  clear hb HB1 HV1 HR1 MN
  go_wp2_with (fail)
  rw [HN2.out]
  refine (FEW.out w2).mono ?_
  rintro e w3 ⟨rfl,hd⟩
  have hb := hd.below
  have HB3 := Aside0.mk (HB2.out.trans (hb.mono HB2.out.size))
  have HV3 := Aside0.mk (HV2.out.below hb)
  have HR3 := Aside0.mk (HR2.out.below hb)
  clear hb hd HB2 HV2 HR2 FEW
  go_wp2_with (fail)
  have FN := Aside0.mk (ref_find g A1 c1 L A c r w3 HV3.out HS.out HK.out HR3.out (by have := HLEN.out;omega))
  rw [HAT.out,HF.out] at FN
  simp only [Option.isSome_none] at FN
  refine FN.out.mono ?_
  rintro e w4 ⟨rfl,hb⟩
  have HB4 := Aside0.mk (HB3.out.trans (hb.mono HB3.out.size))
  have HV4 := Aside0.mk (HV3.out.below hb)
  have HR4 := Aside0.mk (HR3.out.below hb)
  replace g0 := (blk_cell HV4.out.blk 0).trans rfl
  rw [HLEN.out] at g0
  clear hb HB3 HV3 HR3 FN
  go_upto_region 8 with (fail)
  rw [HN2.out]
  have BX5 := Aside0.mk (blk_new w4 (Obj.cells #[.slice none 0 0,.int .i64 n] 34))
  have HB5 := Aside0.mk (below_alloc HB4.out (Obj.cells #[.slice none 0 0,.int .i64 n] 34))
  have HV5 := Aside0.mk (HV4.out.below (below_alloc (Below.refl w4.heap.size w4) (Obj.cells #[.slice none 0 0,.int .i64 n] 34)))
  have HR5 := Aside0.mk (HR4.out.below (below_alloc (Below.refl w4.heap.size w4) (Obj.cells #[.slice none 0 0,.int .i64 n] 34)))
  have GE := Aside0.mk HB4.out.size
  obtain ⟨bx,hbx⟩ : ∃ bx,w4.heap.size = bx := ⟨_,rfl⟩
  rw [hbx] at BX5 GE ⊢
  clear hbx HB4 HV4 HR4 g0
  generalize w4.alloc (Obj.cells #[.slice none 0 0,.int .i64 n] 34) = w5 at *
  have z0 := blk_frozen BX5.out 0
  have y0 := (blk_cell BX5.out 0).trans rfl
  have y1 := (blk_cell BX5.out 1).trans rfl
  go_upto_region 9 with (((with_reducible refine gate_builtin (b := .append) (xs := #[.tmp 42,.tmp 43]) rfl ?_);at_builtin;refine Kd.R_append_rows k66 (w0 := w) w.heap.size rfl (.tmp 42) (.tmp 43) 23 66 (.agg #[(.int .i64 0),(.bool false),(.int .i64 0),(.string ⟨#[]⟩)]) 40 rfl Try.underlying23 info66 rfl (by decide) (by omega) (.slice none 0 0) [] r A r.length c (fun k => k ≠ bx) (fun _ => False) rfl rfl (Kd.R_nil _ _ _ _ _) HR5.out.row (fun x cs h => by rw [k66_open h];exact k66_mkM _ _ _ _) (fun _ h => h.elim) (fun k hk => by have := blk_lt BX5.out;omega) HB5.out HB5.out.size (by have := RL.out;rw [List.length_nil];omega) ?_;intro v1 w6 hv hb3 hg hat;have HV1 := Aside0.mk hv;have HB6 := Aside0.mk hb3;have HV6 := Aside0.mk (HV5.out.keep (ch_grown (S := fun _ => False) hg (fun k e => by cases e)) (fun s => s) (fun _ _ s => s));have BX6 := Aside0.mk (blk_grown BX5.out hg (by simp [Value.ownBlock]));have z6 := blk_frozen BX6.out 0;have y6 := (blk_cell BX6.out 0).trans rfl;obtain ⟨Ar,cr,er⟩ := Kd.R_slice hv;clear hv hb3 hg hat z0 y0 y1;subst er))
  have cb6 : Ch (fun k => k = bx) w6 (w6.setCell ⟨bx,0,none⟩ (.slice Ar r.length cr)) := (Ch.refl (fun k => k = bx) w6).setCell (p := ⟨bx,0,none⟩) (.inl rfl) _
  have BX7 := Aside0.mk (show (w6.setCell ⟨bx,0,none⟩ (.slice Ar r.length cr)).heap[bx]? = some (.cells #[.slice Ar r.length cr,.int .i64 n] 34 (0,0)) from blk_put BX6.out 0 _ rfl)
  have HV7 := Aside0.mk (HV6.out.keep cb6 (fun e => by have := WLT.out;have := GE.out;omega) (fun k hk e => by have := HV.out.lt k hk;have := GE.out;omega))
  have HB7 := Aside0.mk (HB6.out.setCell (p := ⟨bx,0,none⟩) GE.out (.slice Ar r.length cr))
  have HR7 := Aside0.mk (Kd.R_far (p := ⟨bx,0,none⟩) HV1.out (fun k hk => hk) (.slice Ar r.length cr))
  clear cb6 z6 y6 HV1
  generalize w6.setCell ⟨bx,0,none⟩ (.slice Ar r.length cr) = w9 at *
  have RR := Aside0.mk (show ∃ NR : Nat → Prop,(∀ k,NR k → w.heap.size ≤ k ∧ k < w9.heap.size ∧ k ≠ bx) ∧ Kd.F k66 w9 NR Ar r.length r ∧ r.length ≤ cr from ⟨fun k => k ≠ bx ∧ w.heap.size ≤ k ∧ k < w9.heap.size,fun k hk => ⟨hk.2.1,hk.2.2,hk.1⟩,Kd.F_mono (Kd.R_F (Kd.R_bound HR7.out)) (fun k hk => ⟨hk.1,hk.2.1,hk.2.2.1⟩),(Kd.R_reads' HR7.out).2.1⟩)
  obtain ⟨NR,hNR,hFR,hcr⟩ := RR.out
  have NR1 := Aside0.mk hNR
  have FR1 := Aside0.mk hFR
  have CR1 := Aside0.mk hcr
  clear hNR hFR hcr RR HR7
  have HV9 := HV7
  have HB9 := HB7
  have BX9 := BX7
  have FR9 := Aside0.mk (Kd.F_mono (ok' := fun k => D k ∨ NR k) FR1.out (fun k hk => .inr hk))
  have NR9 := NR1
  have CR9 := CR1
  clear HV7 HB7 BX7 FR1 NR1 CR1
  have OKD := Aside0.mk (fun k (hk : D k) => show (D k ∨ NR k ∨ w9.heap.size ≤ k) ∧ k < w9.heap.size from ⟨.inl hk,Nat.lt_of_lt_of_le (HV.out.lt k hk) HB9.out.size⟩)
  have FT := Aside0.mk (show Kd.F k34 w9 D A1 at_ (loD r L) by
    have h1 := Kd.F_take (m := at_) HV9.out.row (by have := HLEN.out;omega)
    rw [TK.out,HAT.out] at h1
    exact h1)
  have g9 := (blk_cell HV9.out.blk 0).trans rfl
  rw [HLEN.out] at g9
  go_upto_region 13 with (((with_reducible refine gate_builtin (b := .append) (xs := #[.tmp 56,.tmp 62]) rfl ?_);at_builtin;refine Kd.N_append_rows k34 (w0 := w) w.heap.size rfl (.tmp 56) (.tmp 62) 22 34 (.agg #[(.slice none 0 0),(.int .i64 0)]) 32 rfl Try.underlying22 info34 rfl (by decide) (by omega) (.slice none 0 0) [] (loD r L) A1 at_ c1 (fun k => D k ∨ NR k ∨ w9.heap.size ≤ k) D rfl rfl (Kd.N_nil _ _ _ _ _) FT.out (fun k hk => ⟨.inl hk,by simp [Value.ownBlock]⟩) (fun k hk => .inr (.inr hk)) HB9.out HB9.out.size (by have := HLEN.out;rw [List.length_nil];omega) ?_;intro v1 w10 hv hb3 hg hat;rw [List.nil_append] at hv;have N10 := Aside0.mk hv;have HB10 := Aside0.mk hb3;have AT10 := Aside0.mk (own_new hat);have N10S := Aside0.mk hg.size;have HV10 := Aside0.mk (HV9.out.keep (ch_grown (S := fun _ => False) hg (fun k e => by cases e)) (fun s => s) (fun _ _ s => s));have BX10 := Aside0.mk (blk_grown BX9.out hg (by simp [Value.ownBlock]));have FR10 := Aside0.mk (Kd.F_grown FR9.out hg (fun k hk => by simp [Value.ownBlock]));have y10 := (blk_cell BX10.out 0).trans rfl;have y11 := (blk_cell BX10.out 1).trans rfl;obtain ⟨Al,cl,el⟩ := Kd.N_slice hv;clear hv hb3 hg hat g9;subst el))
  have N12 := N10
  have HB12 := HB10
  have HV12 := HV10
  have AT12 := AT10
  have N12S := N10S
  have g12 := (blk_cell HV12.out.blk 0).trans rfl
  rw [HLEN.out] at g12
  clear N10 HB10 HV10 AT10 FR10
  have FT2 := Aside0.mk (show Kd.F k34 w10 D A2 (len - at_) (hiD r L) by
    have h1 := Kd.F_cut (c := c1) (m := at_) HV12.out.row (by have := HLEN.out;omega) HV12.out.cap
    rw [DPH.out] at h1
    have h2 : (hiD r L).length = len - at_ := by rw [← DPH.out,List.length_drop,HLEN.out]
    rw [h2] at h1
    rw [← HA2.out]
    exact h1)
  have zg := blk_frozen HV12.out.blk 0
  go_wp2_with (((with_reducible refine gate_builtin (b := .append) (xs := #[.tmp 75,.tmp 81]) rfl ?_);at_builtin;refine Kd.N_append_rows k34 (w0 := w) w.heap.size rfl (.tmp 75) (.tmp 81) 22 34 (.agg #[(.slice none 0 0),(.int .i64 0)]) 32 rfl Try.underlying22 info34 rfl (by decide) (by omega) (.slice Al (loD r L).length cl) (loD r L) (hiD r L) A2 (len - at_) (c1 - at_) (fun k => D k ∨ NR k ∨ w9.heap.size ≤ k) D rfl rfl N12.out FT2.out (fun k hk => ⟨.inl hk,fun e => by have := AT12.out k e.symm;have := (OKD.out k hk).2;omega⟩) (fun k hk => .inr (.inr (by have h1 := HB12.out.size;have h3 := N12S.out;omega))) HB12.out HB12.out.size (by have := HLEN.out;have := HAT.out;omega) ?_;intro v3 w12 hv hb3 hg hat;obtain ⟨L3,hL3⟩ : ∃ L3,(loD r L) ++ hiD r L = L3 := ⟨_,rfl⟩;rw [hL3] at hv;have HL3 := Aside0.mk hL3;clear hL3;have N13 := Aside0.mk hv;have HB13 := Aside0.mk hb3;have HV13 := Aside0.mk (HV12.out.keep (ch_grown (S := fun k => w9.heap.size ≤ k) hg (fun k e => AT12.out k e)) (fun s => by have := WLT.out;have := HB9.out.size;omega) (fun k hk s => by have := (OKD.out k hk).2;omega));have zg2 := blk_frozen HV13.out.blk 0;have yg2 := (blk_cell HV13.out.blk 0).trans rfl;obtain ⟨Al3,cl3,el⟩ := Kd.N_slice hv;clear hv hb3 hg hat g12 zg;subst el))
  go_ret
  have hL : L3 = putD r n L := by
    rw [← HL3.out]
    unfold putD;rw [if_pos HZ.out,List.append_nil]
  rw [← hL]
  have s9 := HB9.out.size
  have wl := WLT.out
  have cg : Ch (fun k => k = g) w12 (w12.setCell ⟨g,0,none⟩ (.slice Al3 L3.length cl3)) := (Ch.refl (fun k => k = g) w12).setCell (p := ⟨g,0,none⟩) (.inl rfl) _
  have dn : ∀ k,((D k ∨ NR k ∨ w9.heap.size ≤ k) ∧ k < w12.heap.size) → k ≠ g := fun k hk e => by
    rcases hk.1 with q | q | q
    · exact HV.out.g_not (e ▸ q)
    · have := (NR9.out k q).1;omega
    · omega
  have R1 : RefV (w12.setCell ⟨g,0,none⟩ (.slice Al3 L3.length cl3)) g Al3 cl3 L3 (fun k => (D k ∨ NR k ∨ w9.heap.size ≤ k) ∧ k < w12.heap.size) :=
    ⟨blk_put HV13.out.blk 0 _ rfl,(Kd.N_reads' N13.out).2.1,Kd.F_step (Kd.F_bound (Kd.N_F N13.out)) (fun k hk hlt => cg.block k hlt (dn k hk)),fun hk => dn g hk rfl,fun k hk => Nat.lt_of_lt_of_le hk.2 cg.size⟩
  have R2 : RefCh w (w12.setCell ⟨g,0,none⟩ (.slice Al3 L3.length cl3)) g D (fun k => (D k ∨ NR k ∨ w9.heap.size ≤ k) ∧ k < w12.heap.size) :=
    ⟨(Ch.of_below (S := fun k => k = g) HB13.out).then_ cg (fun k hk => .inl hk),fun k hk => hk.1.imp id (fun q => q.elim (fun q => (NR9.out k q).1) (fun q => by omega))⟩
  first
    | exact ⟨_,_,_,rfl,R1,R2⟩
    | exact ⟨rfl,_,_,_,R1,R2⟩
    | exact ⟨rfl,_,_,R1,R2⟩
set_option maxHeartbeats 4000000 in
set_option maxRecDepth 100000 in
theorem ref_addSN {D : Nat → Prop} (g : Nat) (A1 : Option Addr) (c1 : Nat) (L : List En) (A : Option Addr) (c : Nat) (r : Rw) (m n : Int) (y : En) (w : World) (h : RefV w g A1 c1 L D) (hs : SrtD L) (hk : OkD L) (hr : RowC w A c r) (hl : L.length ≤ 1000000)
    (hrt : rright r = true) (hn : manyD r L + m = n) (hok : okAdd r m L = true) (hz : n ≠ 0) (hf : fndD r L = some y) :
    Calls Try.prog 17 #[.pointer (some ⟨g,0,none⟩),.slice A r.length c,.int .i64 m] w fun e w' => ∃ A' c' D',e = .returned (.int .i64 0) ∧ RefV w' g A' c' (putD r n L) D' ∧ RefCh w w' g D D' := by
  have HV := Aside0.mk h
  have HS := Aside0.mk hs
  have HK := Aside0.mk hk
  have HR := Aside0.mk hr
  have HF := Aside0.mk hf
  have HN := Aside0.mk hn
  have RL := Aside0.mk (right_len hrt)
  have RT := Aside0.mk (rright_at A c r w hr)
  rw [hrt] at RT
  obtain ⟨k,hk0⟩ : ∃ k,manyD r L = k := ⟨_,rfl⟩
  have MK := Aside0.mk hk0
  obtain ⟨m0,m1⟩ := many_bd (r := r) hk
  rw [hk0] at m0 m1 hn
  have hok' := hok
  unfold okAdd at hok'
  rw [Bool.and_eq_true,Bool.and_eq_true,decide_eq_true_eq,decide_eq_true_eq,hk0,hn] at hok'
  obtain ⟨⟨b0,b1⟩,hfew⟩ := hok'
  have HFEW := Aside0.mk hfew
  have f0 := (few_iff.1 hfew).1
  have f1 := (few_iff.1 hfew).2
  have q1 : decide (m < -2147483648) = false := decide_eq_false (by omega)
  have q2 : decide (2147483648 < m) = false := decide_eq_false (by omega)
  have FEW := Aside0.mk (fun W => rfew_calls (k + m) W)
  rw [hn,hfew] at FEW
  have HN2 := Aside0.mk hn
  have q3 : (n != 0) = true := by simp [hz]
  have HZ := Aside0.mk hz
  obtain ⟨len,hlen⟩ : ∃ len,L.length = len := ⟨_,rfl⟩
  obtain ⟨at_,hat⟩ : ∃ at_,(loD r L).length = at_ := ⟨_,rfl⟩
  have HLEN := Aside0.mk hlen
  have HAT := Aside0.mk hat
  have al : at_ ≤ len := by have := lo_len r hs;omega
  have aB : at_ ≤ 1000000 := by omega
  have TK := Aside0.mk (take_lo (r := r) hs)
  have DP := Aside0.mk (drop_lo (r := r) hs)
  rw [hat] at TK DP
  rw [hf] at DP
  have aln : at_ < len := by
    rcases Nat.lt_or_ge at_ len with q | q
    · exact q
    · rw [fnd_end hs (by omega)] at hf;cases hf
  have hy : L[at_]? = some y := by
    have h1 := List.getElem?_eq_getElem (show at_ < L.length by omega)
    rcases (fnd_at (r := r) hs (x := L[at_]) (by rw [hat];exact h1)).2 with q | q
    · rw [hf] at q;rw [h1,q]
    · rw [hf] at q;cases q
  have HY := Aside0.mk hy
  have hyr : y.f0 = r := by
    have h1 := List.find?_some (show L.find? (fun x => decide (rcmp r x.f0 = 0)) = some y from hf)
    exact (rright_eq hrt (hk y (List.mem_of_find?_eq_some hf)).1 (of_decide_eq_true h1)).symm
  have HYR := Aside0.mk hyr
  have p0 : (0 : Int) ≤ (at_ : Int) := by omega
  have p1 : (at_ : Int) < (len : Int) := by omega
  have DPH := Aside0.mk (show L.drop (at_ + 1) = hiD r L by
    rw [← List.drop_drop,DP.out];rfl)
  obtain ⟨i0,hi0,hsz0⟩ : ∃ i0,Try.prog.info? 34 = some i0 ∧ i0.size = 2 := by
    obtain ⟨i0,hi,hz⟩ := Option.map_eq_some_iff.1 info34
    simp only [Prod.mk.injEq] at hz
    exact ⟨i0,hi,hz.2.1⟩
  have CT := Aside0.mk (cut_to 22 34 .i64 Try.underlying22 hi0 A1 len c1 (at_ : Int) (by omega) (by omega) (by have := h.cap;omega))
  have CF := Aside0.mk (cut_from 22 34 .i64 Try.underlying22 hi0 2 hsz0 A1 len c1 ((at_ : Int) + 1) (by omega) (by omega))
  simp only [Int.toNat_natCast] at CT
  rw [show (((at_ : Int) + 1) : Int).toNat = at_ + 1 by omega] at CF
  obtain ⟨A2,hA2⟩ : ∃ A2,(if c1 = at_ + 1 then A1 else A1.map (·.add ((at_ + 1) * 2))) = A2 := ⟨_,rfl⟩
  have HA2 := Aside0.mk hA2
  rw [hA2] at CF
  have hct := CT.out
  have hcf := CF.out
  clear CT CF
  have g0 := (blk_cell h.blk 0).trans rfl
  rw [hlen] at g0
  have WLT := Aside0.mk (blk_lt h.blk)
  clear h hs hk hr hf hn hk0 hrt hok hfew hz hlen hat hi0 hsz0 hA2 hyr hy
  go_enter Try.func17,Try.ntmps17
  go_wp2_with (fail)
  refine RT.out.mono ?_
  rintro e w1 ⟨rfl,hb⟩
  have HB1 := Aside0.mk hb
  have HV1 := Aside0.mk (HV.out.below hb)
  have HR1 := Aside0.mk (HR.out.below hb)
  clear hb RT
  go_wp2_with (fail)
  have MN := Aside0.mk (ref_many g A1 c1 L A c r w1 HV1.out HS.out HK.out HR1.out (by have := HLEN.out;omega))
  rw [MK.out] at MN
  refine MN.out.mono ?_
  rintro e w2 ⟨rfl,hb⟩
  have HB2 := Aside0.mk (HB1.out.trans (hb.mono HB1.out.size))
  have HV2 := Aside0.mk (HV1.out.below hb)
  have HR2 := Aside0.mk (HR1.out.below hb)
  clear hb HB1 HV1 HR1 MN
  go_wp2_with (fail)
  rw [HN2.out]
  refine (FEW.out w2).mono ?_
  rintro e w3 ⟨rfl,hd⟩
  have hb := hd.below
  have HB3 := Aside0.mk (HB2.out.trans (hb.mono HB2.out.size))
  have HV3 := Aside0.mk (HV2.out.below hb)
  have HR3 := Aside0.mk (HR2.out.below hb)
  clear hb hd HB2 HV2 HR2 FEW
  go_wp2_with (fail)
  have FN := Aside0.mk (ref_find g A1 c1 L A c r w3 HV3.out HS.out HK.out HR3.out (by have := HLEN.out;omega))
  rw [HAT.out,HF.out] at FN
  simp only [Option.isSome_some] at FN
  refine FN.out.mono ?_
  rintro e w4 ⟨rfl,hb⟩
  have HB4 := Aside0.mk (HB3.out.trans (hb.mono HB3.out.size))
  have HV4 := Aside0.mk (HV3.out.below hb)
  have HR4 := Aside0.mk (HR3.out.below hb)
  replace g0 := (blk_cell HV4.out.blk 0).trans rfl
  rw [HLEN.out] at g0
  clear hb HB3 HV3 HR3 FN
  go_upto_region 8 with (fail)
  rw [HN2.out]
  have BX5 := Aside0.mk (blk_new w4 (Obj.cells #[.slice none 0 0,.int .i64 n] 34))
  have HB5 := Aside0.mk (below_alloc HB4.out (Obj.cells #[.slice none 0 0,.int .i64 n] 34))
  have HV5 := Aside0.mk (HV4.out.below (below_alloc (Below.refl w4.heap.size w4) (Obj.cells #[.slice none 0 0,.int .i64 n] 34)))
  have HR5 := Aside0.mk (HR4.out.below (below_alloc (Below.refl w4.heap.size w4) (Obj.cells #[.slice none 0 0,.int .i64 n] 34)))
  have GE := Aside0.mk HB4.out.size
  obtain ⟨bx,hbx⟩ : ∃ bx,w4.heap.size = bx := ⟨_,rfl⟩
  rw [hbx] at BX5 GE ⊢
  clear hbx HB4 HV4 HR4 g0
  generalize w4.alloc (Obj.cells #[.slice none 0 0,.int .i64 n] 34) = w5 at *
  have z0 := blk_frozen BX5.out 0
  have y0 := (blk_cell BX5.out 0).trans rfl
  have y1 := (blk_cell BX5.out 1).trans rfl
  go_upto_region 9 with (((with_reducible refine gate_builtin (b := .append) (xs := #[.tmp 42,.tmp 43]) rfl ?_);at_builtin;refine Kd.R_append_rows k66 (w0 := w) w.heap.size rfl (.tmp 42) (.tmp 43) 23 66 (.agg #[(.int .i64 0),(.bool false),(.int .i64 0),(.string ⟨#[]⟩)]) 40 rfl Try.underlying23 info66 rfl (by decide) (by omega) (.slice none 0 0) [] r A r.length c (fun k => k ≠ bx) (fun _ => False) rfl rfl (Kd.R_nil _ _ _ _ _) HR5.out.row (fun x cs h => by rw [k66_open h];exact k66_mkM _ _ _ _) (fun _ h => h.elim) (fun k hk => by have := blk_lt BX5.out;omega) HB5.out HB5.out.size (by have := RL.out;rw [List.length_nil];omega) ?_;intro v1 w6 hv hb3 hg hat;have HV1 := Aside0.mk hv;have HB6 := Aside0.mk hb3;have HV6 := Aside0.mk (HV5.out.keep (ch_grown (S := fun _ => False) hg (fun k e => by cases e)) (fun s => s) (fun _ _ s => s));have BX6 := Aside0.mk (blk_grown BX5.out hg (by simp [Value.ownBlock]));have z6 := blk_frozen BX6.out 0;have y6 := (blk_cell BX6.out 0).trans rfl;obtain ⟨Ar,cr,er⟩ := Kd.R_slice hv;clear hv hb3 hg hat z0 y0 y1;subst er))
  have cb6 : Ch (fun k => k = bx) w6 (w6.setCell ⟨bx,0,none⟩ (.slice Ar r.length cr)) := (Ch.refl (fun k => k = bx) w6).setCell (p := ⟨bx,0,none⟩) (.inl rfl) _
  have BX7 := Aside0.mk (show (w6.setCell ⟨bx,0,none⟩ (.slice Ar r.length cr)).heap[bx]? = some (.cells #[.slice Ar r.length cr,.int .i64 n] 34 (0,0)) from blk_put BX6.out 0 _ rfl)
  have HV7 := Aside0.mk (HV6.out.keep cb6 (fun e => by have := WLT.out;have := GE.out;omega) (fun k hk e => by have := HV.out.lt k hk;have := GE.out;omega))
  have HB7 := Aside0.mk (HB6.out.setCell (p := ⟨bx,0,none⟩) GE.out (.slice Ar r.length cr))
  have HR7 := Aside0.mk (Kd.R_far (p := ⟨bx,0,none⟩) HV1.out (fun k hk => hk) (.slice Ar r.length cr))
  clear cb6 z6 y6 HV1
  generalize w6.setCell ⟨bx,0,none⟩ (.slice Ar r.length cr) = w7 at *
  have RR := Aside0.mk (show ∃ NR : Nat → Prop,(∀ k,NR k → w.heap.size ≤ k ∧ k < w7.heap.size ∧ k ≠ bx) ∧ Kd.F k66 w7 NR Ar r.length r ∧ r.length ≤ cr from ⟨fun k => k ≠ bx ∧ w.heap.size ≤ k ∧ k < w7.heap.size,fun k hk => ⟨hk.2.1,hk.2.2,hk.1⟩,Kd.F_mono (Kd.R_F (Kd.R_bound HR7.out)) (fun k hk => ⟨hk.1,hk.2.1,hk.2.2.1⟩),(Kd.R_reads' HR7.out).2.1⟩)
  obtain ⟨NR,hNR,hFR,hcr⟩ := RR.out
  have NR1 := Aside0.mk hNR
  have FR1 := Aside0.mk hFR
  have CR1 := Aside0.mk hcr
  clear hNR hFR hcr RR HR7
  have g7 := (blk_cell HV7.out.blk 0).trans rfl
  rw [HLEN.out] at g7
  obtain ⟨ad,A0,c0,e1,x0,x1,_,hc0,hF0⟩ := HV7.out.get (by have := HLEN.out;omega) HY.out
  subst e1
  rw [HYR.out] at x0 hc0 hF0
  have FR2 := Aside0.mk hF0
  have CR2 := Aside0.mk hc0
  have z7 := blk_frozen BX7.out 0
  have y7 := (blk_cell BX7.out 0).trans rfl
  clear hc0 hF0 x1
  go_upto_region 11 with (fail)
  have cb7 : Ch (fun k => k = bx) w7 (w7.setCell ⟨bx,0,none⟩ (.slice A0 r.length c0)) := (Ch.refl (fun k => k = bx) w7).setCell (p := ⟨bx,0,none⟩) (.inl rfl) _
  have BX9 := Aside0.mk (show (w7.setCell ⟨bx,0,none⟩ (.slice A0 r.length c0)).heap[bx]? = some (.cells #[.slice A0 r.length c0,.int .i64 n] 34 (0,0)) from blk_put BX7.out 0 _ rfl)
  have HV9 := Aside0.mk (HV7.out.keep cb7 (fun e => by have := WLT.out;have := GE.out;omega) (fun k hk e => by have := HV.out.lt k hk;have := GE.out;omega))
  have HB9 := Aside0.mk (HB7.out.setCell (p := ⟨bx,0,none⟩) GE.out (.slice A0 r.length c0))
  have FR9 := Aside0.mk (Kd.F_mono (ok' := fun k => D k ∨ NR k) (Kd.F_step FR2.out (W1 := w7.setCell ⟨bx,0,none⟩ (.slice A0 r.length c0)) (fun k hk hlt => cb7.block k hlt (fun e => by have := HV.out.lt k hk;have := GE.out;omega))) (fun k hk => .inl hk))
  have NR9 := Aside0.mk (show ∀ k,NR k → w.heap.size ≤ k ∧ k < (w7.setCell ⟨bx,0,none⟩ (.slice A0 r.length c0)).heap.size ∧ k ≠ bx from fun k hk => ⟨(NR1.out k hk).1,Nat.lt_of_lt_of_le (NR1.out k hk).2.1 cb7.size,(NR1.out k hk).2.2⟩)
  have CR9 := CR2
  clear cb7 z7 y7 x0 g7 FR1 FR2 NR1 CR1 CR2 BX7 HV7 HB7
  generalize w7.setCell ⟨bx,0,none⟩ (.slice A0 r.length c0) = w9 at *
  have OKD := Aside0.mk (fun k (hk : D k) => show (D k ∨ NR k ∨ w9.heap.size ≤ k) ∧ k < w9.heap.size from ⟨.inl hk,Nat.lt_of_lt_of_le (HV.out.lt k hk) HB9.out.size⟩)
  have FT := Aside0.mk (show Kd.F k34 w9 D (some ad) at_ (loD r L) by
    have h1 := Kd.F_take (m := at_) HV9.out.row (by have := HLEN.out;omega)
    rw [TK.out,HAT.out] at h1
    exact h1)
  have g9 := (blk_cell HV9.out.blk 0).trans rfl
  rw [HLEN.out] at g9
  go_upto_region 13 with (((with_reducible refine gate_builtin (b := .append) (xs := #[.tmp 56,.tmp 62]) rfl ?_);at_builtin;refine Kd.N_append_rows k34 (w0 := w) w.heap.size rfl (.tmp 56) (.tmp 62) 22 34 (.agg #[(.slice none 0 0),(.int .i64 0)]) 32 rfl Try.underlying22 info34 rfl (by decide) (by omega) (.slice none 0 0) [] (loD r L) (some ad) at_ c1 (fun k => D k ∨ NR k ∨ w9.heap.size ≤ k) D rfl rfl (Kd.N_nil _ _ _ _ _) FT.out (fun k hk => ⟨.inl hk,by simp [Value.ownBlock]⟩) (fun k hk => .inr (.inr hk)) HB9.out HB9.out.size (by have := HLEN.out;rw [List.length_nil];omega) ?_;intro v1 w10 hv hb3 hg hat;rw [List.nil_append] at hv;have N10 := Aside0.mk hv;have HB10 := Aside0.mk hb3;have AT10 := Aside0.mk (own_new hat);have N10S := Aside0.mk hg.size;have HV10 := Aside0.mk (HV9.out.keep (ch_grown (S := fun _ => False) hg (fun k e => by cases e)) (fun s => s) (fun _ _ s => s));have BX10 := Aside0.mk (blk_grown BX9.out hg (by simp [Value.ownBlock]));have FR10 := Aside0.mk (Kd.F_grown FR9.out hg (fun k hk => by simp [Value.ownBlock]));have y10 := (blk_cell BX10.out 0).trans rfl;have y11 := (blk_cell BX10.out 1).trans rfl;obtain ⟨Al,cl,el⟩ := Kd.N_slice hv;clear hv hb3 hg hat g9;subst el))
  have OKE := Aside0.mk (fun k (hk : D k ∨ NR k) => show (D k ∨ NR k ∨ w9.heap.size ≤ k) ∧ some k ≠ (Value.slice Al (loD r L).length cl).ownBlock from ⟨hk.imp id .inl,fun e => by have := AT10.out k e.symm;have : k < w9.heap.size := hk.elim (fun q => (OKD.out k q).2) (fun q => (NR9.out k q).2.1);omega⟩)
  go_upto_region 15 with (((with_reducible refine gate_builtin (b := .append) (xs := #[.tmp 67,.tmp 69]) rfl ?_);at_builtin;refine Kd.N_append k34 (w0 := w) w.heap.size rfl (.tmp 67) (.tmp 69) 22 34 (.agg #[(.slice none 0 0),(.int .i64 0)]) 32 rfl Try.underlying22 info34 rfl (by decide) (by omega) (.slice Al (loD r L).length cl) (loD r L) (⟨r,n⟩ : En) [.slice A0 r.length c0,.int .i64 n] (fun k => D k ∨ NR k ∨ w9.heap.size ≤ k) (fun k => D k ∨ NR k) rfl rfl (k34_mkF _ _ (⟨r,n⟩ : En) CR9.out FR10.out) OKE.out (fun k hk => .inr (.inr (by have h1 := HB10.out.size;have h2 := HB9.out.size;have h3 := N10S.out;omega))) N10.out HB10.out HB10.out.size (by have := HLEN.out;have := HAT.out;omega) ?_;intro v2 w11 hv hb3 hg hat;obtain ⟨L2,hL2⟩ : ∃ L2,loD r L ++ [(⟨r,n⟩ : En)] = L2 := ⟨_,rfl⟩;rw [hL2] at hv;have HL2 := Aside0.mk hL2;clear hL2;have N12 := Aside0.mk hv;have HB12 := Aside0.mk hb3;have N12S := Aside0.mk (Nat.le_trans N10S.out hg.size);have AT12 := Aside0.mk (own_new2 AT10.out N10S.out hat);have HV12 := Aside0.mk (HV10.out.keep (ch_grown (S := fun k => w9.heap.size ≤ k) hg (fun k e => AT10.out k e)) (fun s => by have := WLT.out;have := HB9.out.size;omega) (fun k hk s => by have := (OKD.out k hk).2;omega));obtain ⟨Al2,cl2,el⟩ := Kd.N_slice hv;clear hv hb3 hg hat y10 y11;subst el))
  have g12 := (blk_cell HV12.out.blk 0).trans rfl
  rw [HLEN.out] at g12
  clear N10 HB10 HV10 AT10 FR10
  have FT2 := Aside0.mk (show Kd.F k34 w11 D A2 (len - (at_ + 1)) (hiD r L) by
    have h1 := Kd.F_cut (c := c1) (m := (at_ + 1)) HV12.out.row (by have := HLEN.out;omega) HV12.out.cap
    rw [DPH.out] at h1
    have h2 : (hiD r L).length = len - (at_ + 1) := by rw [← DPH.out,List.length_drop,HLEN.out]
    rw [h2] at h1
    rw [← HA2.out]
    exact h1)
  have zg := blk_frozen HV12.out.blk 0
  go_wp2_with (((with_reducible refine gate_builtin (b := .append) (xs := #[.tmp 75,.tmp 81]) rfl ?_);at_builtin;refine Kd.N_append_rows k34 (w0 := w) w.heap.size rfl (.tmp 75) (.tmp 81) 22 34 (.agg #[(.slice none 0 0),(.int .i64 0)]) 32 rfl Try.underlying22 info34 rfl (by decide) (by omega) (.slice Al2 L2.length cl2) L2 (hiD r L) A2 (len - (at_ + 1)) (c1 - (at_ + 1)) (fun k => D k ∨ NR k ∨ w9.heap.size ≤ k) D rfl rfl N12.out FT2.out (fun k hk => ⟨.inl hk,fun e => by have := AT12.out k e.symm;have := (OKD.out k hk).2;omega⟩) (fun k hk => .inr (.inr (by have h1 := HB12.out.size;have h3 := N12S.out;omega))) HB12.out HB12.out.size (by have := HLEN.out;have := HAT.out;have hL2 := congrArg List.length HL2.out;rw [List.length_append] at hL2;simp at hL2;omega) ?_;intro v3 w12 hv hb3 hg hat;obtain ⟨L3,hL3⟩ : ∃ L3,L2 ++ hiD r L = L3 := ⟨_,rfl⟩;rw [hL3] at hv;have HL3 := Aside0.mk hL3;clear hL3;have N13 := Aside0.mk hv;have HB13 := Aside0.mk hb3;have HV13 := Aside0.mk (HV12.out.keep (ch_grown (S := fun k => w9.heap.size ≤ k) hg (fun k e => AT12.out k e)) (fun s => by have := WLT.out;have := HB9.out.size;omega) (fun k hk s => by have := (OKD.out k hk).2;omega));have zg2 := blk_frozen HV13.out.blk 0;have yg2 := (blk_cell HV13.out.blk 0).trans rfl;obtain ⟨Al3,cl3,el⟩ := Kd.N_slice hv;clear hv hb3 hg hat g12 zg;subst el))
  go_ret
  have hL : L3 = putD r n L := by
    rw [← HL3.out]
    rw [← HL2.out];unfold putD;rw [if_neg HZ.out]
  rw [← hL]
  have s9 := HB9.out.size
  have wl := WLT.out
  have cg : Ch (fun k => k = g) w12 (w12.setCell ⟨g,0,none⟩ (.slice Al3 L3.length cl3)) := (Ch.refl (fun k => k = g) w12).setCell (p := ⟨g,0,none⟩) (.inl rfl) _
  have dn : ∀ k,((D k ∨ NR k ∨ w9.heap.size ≤ k) ∧ k < w12.heap.size) → k ≠ g := fun k hk e => by
    rcases hk.1 with q | q | q
    · exact HV.out.g_not (e ▸ q)
    · have := (NR9.out k q).1;omega
    · omega
  have R1 : RefV (w12.setCell ⟨g,0,none⟩ (.slice Al3 L3.length cl3)) g Al3 cl3 L3 (fun k => (D k ∨ NR k ∨ w9.heap.size ≤ k) ∧ k < w12.heap.size) :=
    ⟨blk_put HV13.out.blk 0 _ rfl,(Kd.N_reads' N13.out).2.1,Kd.F_step (Kd.F_bound (Kd.N_F N13.out)) (fun k hk hlt => cg.block k hlt (dn k hk)),fun hk => dn g hk rfl,fun k hk => Nat.lt_of_lt_of_le hk.2 cg.size⟩
  have R2 : RefCh w (w12.setCell ⟨g,0,none⟩ (.slice Al3 L3.length cl3)) g D (fun k => (D k ∨ NR k ∨ w9.heap.size ≤ k) ∧ k < w12.heap.size) :=
    ⟨(Ch.of_below (S := fun k => k = g) HB13.out).then_ cg (fun k hk => .inl hk),fun k hk => hk.1.imp id (fun q => q.elim (fun q => (NR9.out k q).1) (fun q => by omega))⟩
  first
    | exact ⟨_,_,_,rfl,R1,R2⟩
    | exact ⟨rfl,_,_,_,R1,R2⟩
    | exact ⟨rfl,_,_,R1,R2⟩
set_option maxHeartbeats 4000000 in
set_option maxRecDepth 100000 in
theorem ref_addSZ {D : Nat → Prop} (g : Nat) (A1 : Option Addr) (c1 : Nat) (L : List En) (A : Option Addr) (c : Nat) (r : Rw) (m n : Int) (y : En) (w : World) (h : RefV w g A1 c1 L D) (hs : SrtD L) (hk : OkD L) (hr : RowC w A c r) (hl : L.length ≤ 1000000)
    (hrt : rright r = true) (hn : manyD r L + m = n) (hok : okAdd r m L = true) (hz : n = 0) (hf : fndD r L = some y) :
    Calls Try.prog 17 #[.pointer (some ⟨g,0,none⟩),.slice A r.length c,.int .i64 m] w fun e w' => ∃ A' c' D',e = .returned (.int .i64 0) ∧ RefV w' g A' c' (putD r n L) D' ∧ RefCh w w' g D D' := by
  have HV := Aside0.mk h
  have HS := Aside0.mk hs
  have HK := Aside0.mk hk
  have HR := Aside0.mk hr
  have HF := Aside0.mk hf
  have HN := Aside0.mk hn
  have RL := Aside0.mk (right_len hrt)
  have RT := Aside0.mk (rright_at A c r w hr)
  rw [hrt] at RT
  obtain ⟨k,hk0⟩ : ∃ k,manyD r L = k := ⟨_,rfl⟩
  have MK := Aside0.mk hk0
  obtain ⟨m0,m1⟩ := many_bd (r := r) hk
  rw [hk0] at m0 m1 hn
  have hok' := hok
  unfold okAdd at hok'
  rw [Bool.and_eq_true,Bool.and_eq_true,decide_eq_true_eq,decide_eq_true_eq,hk0,hn] at hok'
  obtain ⟨⟨b0,b1⟩,hfew⟩ := hok'
  have HFEW := Aside0.mk hfew
  have f0 := (few_iff.1 hfew).1
  have f1 := (few_iff.1 hfew).2
  have q1 : decide (m < -2147483648) = false := decide_eq_false (by omega)
  have q2 : decide (2147483648 < m) = false := decide_eq_false (by omega)
  have FEW := Aside0.mk (fun W => rfew_calls (k + m) W)
  rw [hn,hfew] at FEW
  have HN2 := Aside0.mk hn
  have q3 : (n != 0) = false := by simp [hz]
  have HZ := Aside0.mk hz
  obtain ⟨len,hlen⟩ : ∃ len,L.length = len := ⟨_,rfl⟩
  obtain ⟨at_,hat⟩ : ∃ at_,(loD r L).length = at_ := ⟨_,rfl⟩
  have HLEN := Aside0.mk hlen
  have HAT := Aside0.mk hat
  have al : at_ ≤ len := by have := lo_len r hs;omega
  have aB : at_ ≤ 1000000 := by omega
  have TK := Aside0.mk (take_lo (r := r) hs)
  have DP := Aside0.mk (drop_lo (r := r) hs)
  rw [hat] at TK DP
  rw [hf] at DP
  have aln : at_ < len := by
    rcases Nat.lt_or_ge at_ len with q | q
    · exact q
    · rw [fnd_end hs (by omega)] at hf;cases hf
  have hy : L[at_]? = some y := by
    have h1 := List.getElem?_eq_getElem (show at_ < L.length by omega)
    rcases (fnd_at (r := r) hs (x := L[at_]) (by rw [hat];exact h1)).2 with q | q
    · rw [hf] at q;rw [h1,q]
    · rw [hf] at q;cases q
  have HY := Aside0.mk hy
  have hyr : y.f0 = r := by
    have h1 := List.find?_some (show L.find? (fun x => decide (rcmp r x.f0 = 0)) = some y from hf)
    exact (rright_eq hrt (hk y (List.mem_of_find?_eq_some hf)).1 (of_decide_eq_true h1)).symm
  have HYR := Aside0.mk hyr
  have p0 : (0 : Int) ≤ (at_ : Int) := by omega
  have p1 : (at_ : Int) < (len : Int) := by omega
  have DPH := Aside0.mk (show L.drop (at_ + 1) = hiD r L by
    rw [← List.drop_drop,DP.out];rfl)
  obtain ⟨i0,hi0,hsz0⟩ : ∃ i0,Try.prog.info? 34 = some i0 ∧ i0.size = 2 := by
    obtain ⟨i0,hi,hz⟩ := Option.map_eq_some_iff.1 info34
    simp only [Prod.mk.injEq] at hz
    exact ⟨i0,hi,hz.2.1⟩
  have CT := Aside0.mk (cut_to 22 34 .i64 Try.underlying22 hi0 A1 len c1 (at_ : Int) (by omega) (by omega) (by have := h.cap;omega))
  have CF := Aside0.mk (cut_from 22 34 .i64 Try.underlying22 hi0 2 hsz0 A1 len c1 ((at_ : Int) + 1) (by omega) (by omega))
  simp only [Int.toNat_natCast] at CT
  rw [show (((at_ : Int) + 1) : Int).toNat = at_ + 1 by omega] at CF
  obtain ⟨A2,hA2⟩ : ∃ A2,(if c1 = at_ + 1 then A1 else A1.map (·.add ((at_ + 1) * 2))) = A2 := ⟨_,rfl⟩
  have HA2 := Aside0.mk hA2
  rw [hA2] at CF
  have hct := CT.out
  have hcf := CF.out
  clear CT CF
  have g0 := (blk_cell h.blk 0).trans rfl
  rw [hlen] at g0
  have WLT := Aside0.mk (blk_lt h.blk)
  clear h hs hk hr hf hn hk0 hrt hok hfew hz hlen hat hi0 hsz0 hA2 hyr hy
  go_enter Try.func17,Try.ntmps17
  go_wp2_with (fail)
  refine RT.out.mono ?_
  rintro e w1 ⟨rfl,hb⟩
  have HB1 := Aside0.mk hb
  have HV1 := Aside0.mk (HV.out.below hb)
  have HR1 := Aside0.mk (HR.out.below hb)
  clear hb RT
  go_wp2_with (fail)
  have MN := Aside0.mk (ref_many g A1 c1 L A c r w1 HV1.out HS.out HK.out HR1.out (by have := HLEN.out;omega))
  rw [MK.out] at MN
  refine MN.out.mono ?_
  rintro e w2 ⟨rfl,hb⟩
  have HB2 := Aside0.mk (HB1.out.trans (hb.mono HB1.out.size))
  have HV2 := Aside0.mk (HV1.out.below hb)
  have HR2 := Aside0.mk (HR1.out.below hb)
  clear hb HB1 HV1 HR1 MN
  go_wp2_with (fail)
  rw [HN2.out]
  refine (FEW.out w2).mono ?_
  rintro e w3 ⟨rfl,hd⟩
  have hb := hd.below
  have HB3 := Aside0.mk (HB2.out.trans (hb.mono HB2.out.size))
  have HV3 := Aside0.mk (HV2.out.below hb)
  have HR3 := Aside0.mk (HR2.out.below hb)
  clear hb hd HB2 HV2 HR2 FEW
  go_wp2_with (fail)
  have FN := Aside0.mk (ref_find g A1 c1 L A c r w3 HV3.out HS.out HK.out HR3.out (by have := HLEN.out;omega))
  rw [HAT.out,HF.out] at FN
  simp only [Option.isSome_some] at FN
  refine FN.out.mono ?_
  rintro e w4 ⟨rfl,hb⟩
  have HB4 := Aside0.mk (HB3.out.trans (hb.mono HB3.out.size))
  have HV4 := Aside0.mk (HV3.out.below hb)
  have HR4 := Aside0.mk (HR3.out.below hb)
  replace g0 := (blk_cell HV4.out.blk 0).trans rfl
  rw [HLEN.out] at g0
  clear hb HB3 HV3 HR3 FN
  go_upto_region 8 with (fail)
  rw [HN2.out]
  have BX5 := Aside0.mk (blk_new w4 (Obj.cells #[.slice none 0 0,.int .i64 n] 34))
  have HB5 := Aside0.mk (below_alloc HB4.out (Obj.cells #[.slice none 0 0,.int .i64 n] 34))
  have HV5 := Aside0.mk (HV4.out.below (below_alloc (Below.refl w4.heap.size w4) (Obj.cells #[.slice none 0 0,.int .i64 n] 34)))
  have HR5 := Aside0.mk (HR4.out.below (below_alloc (Below.refl w4.heap.size w4) (Obj.cells #[.slice none 0 0,.int .i64 n] 34)))
  have GE := Aside0.mk HB4.out.size
  obtain ⟨bx,hbx⟩ : ∃ bx,w4.heap.size = bx := ⟨_,rfl⟩
  rw [hbx] at BX5 GE ⊢
  clear hbx HB4 HV4 HR4 g0
  generalize w4.alloc (Obj.cells #[.slice none 0 0,.int .i64 n] 34) = w5 at *
  have z0 := blk_frozen BX5.out 0
  have y0 := (blk_cell BX5.out 0).trans rfl
  have y1 := (blk_cell BX5.out 1).trans rfl
  go_upto_region 9 with (((with_reducible refine gate_builtin (b := .append) (xs := #[.tmp 42,.tmp 43]) rfl ?_);at_builtin;refine Kd.R_append_rows k66 (w0 := w) w.heap.size rfl (.tmp 42) (.tmp 43) 23 66 (.agg #[(.int .i64 0),(.bool false),(.int .i64 0),(.string ⟨#[]⟩)]) 40 rfl Try.underlying23 info66 rfl (by decide) (by omega) (.slice none 0 0) [] r A r.length c (fun k => k ≠ bx) (fun _ => False) rfl rfl (Kd.R_nil _ _ _ _ _) HR5.out.row (fun x cs h => by rw [k66_open h];exact k66_mkM _ _ _ _) (fun _ h => h.elim) (fun k hk => by have := blk_lt BX5.out;omega) HB5.out HB5.out.size (by have := RL.out;rw [List.length_nil];omega) ?_;intro v1 w6 hv hb3 hg hat;have HV1 := Aside0.mk hv;have HB6 := Aside0.mk hb3;have HV6 := Aside0.mk (HV5.out.keep (ch_grown (S := fun _ => False) hg (fun k e => by cases e)) (fun s => s) (fun _ _ s => s));have BX6 := Aside0.mk (blk_grown BX5.out hg (by simp [Value.ownBlock]));have z6 := blk_frozen BX6.out 0;have y6 := (blk_cell BX6.out 0).trans rfl;obtain ⟨Ar,cr,er⟩ := Kd.R_slice hv;clear hv hb3 hg hat z0 y0 y1;subst er))
  have cb6 : Ch (fun k => k = bx) w6 (w6.setCell ⟨bx,0,none⟩ (.slice Ar r.length cr)) := (Ch.refl (fun k => k = bx) w6).setCell (p := ⟨bx,0,none⟩) (.inl rfl) _
  have BX7 := Aside0.mk (show (w6.setCell ⟨bx,0,none⟩ (.slice Ar r.length cr)).heap[bx]? = some (.cells #[.slice Ar r.length cr,.int .i64 n] 34 (0,0)) from blk_put BX6.out 0 _ rfl)
  have HV7 := Aside0.mk (HV6.out.keep cb6 (fun e => by have := WLT.out;have := GE.out;omega) (fun k hk e => by have := HV.out.lt k hk;have := GE.out;omega))
  have HB7 := Aside0.mk (HB6.out.setCell (p := ⟨bx,0,none⟩) GE.out (.slice Ar r.length cr))
  have HR7 := Aside0.mk (Kd.R_far (p := ⟨bx,0,none⟩) HV1.out (fun k hk => hk) (.slice Ar r.length cr))
  clear cb6 z6 y6 HV1
  generalize w6.setCell ⟨bx,0,none⟩ (.slice Ar r.length cr) = w7 at *
  have RR := Aside0.mk (show ∃ NR : Nat → Prop,(∀ k,NR k → w.heap.size ≤ k ∧ k < w7.heap.size ∧ k ≠ bx) ∧ Kd.F k66 w7 NR Ar r.length r ∧ r.length ≤ cr from ⟨fun k => k ≠ bx ∧ w.heap.size ≤ k ∧ k < w7.heap.size,fun k hk => ⟨hk.2.1,hk.2.2,hk.1⟩,Kd.F_mono (Kd.R_F (Kd.R_bound HR7.out)) (fun k hk => ⟨hk.1,hk.2.1,hk.2.2.1⟩),(Kd.R_reads' HR7.out).2.1⟩)
  obtain ⟨NR,hNR,hFR,hcr⟩ := RR.out
  have NR1 := Aside0.mk hNR
  have FR1 := Aside0.mk hFR
  have CR1 := Aside0.mk hcr
  clear hNR hFR hcr RR HR7
  have g7 := (blk_cell HV7.out.blk 0).trans rfl
  rw [HLEN.out] at g7
  obtain ⟨ad,A0,c0,e1,x0,x1,_,hc0,hF0⟩ := HV7.out.get (by have := HLEN.out;omega) HY.out
  subst e1
  rw [HYR.out] at x0 hc0 hF0
  have FR2 := Aside0.mk hF0
  have CR2 := Aside0.mk hc0
  have z7 := blk_frozen BX7.out 0
  have y7 := (blk_cell BX7.out 0).trans rfl
  clear hc0 hF0 x1
  go_upto_region 11 with (fail)
  have cb7 : Ch (fun k => k = bx) w7 (w7.setCell ⟨bx,0,none⟩ (.slice A0 r.length c0)) := (Ch.refl (fun k => k = bx) w7).setCell (p := ⟨bx,0,none⟩) (.inl rfl) _
  have BX9 := Aside0.mk (show (w7.setCell ⟨bx,0,none⟩ (.slice A0 r.length c0)).heap[bx]? = some (.cells #[.slice A0 r.length c0,.int .i64 n] 34 (0,0)) from blk_put BX7.out 0 _ rfl)
  have HV9 := Aside0.mk (HV7.out.keep cb7 (fun e => by have := WLT.out;have := GE.out;omega) (fun k hk e => by have := HV.out.lt k hk;have := GE.out;omega))
  have HB9 := Aside0.mk (HB7.out.setCell (p := ⟨bx,0,none⟩) GE.out (.slice A0 r.length c0))
  have FR9 := Aside0.mk (Kd.F_mono (ok' := fun k => D k ∨ NR k) (Kd.F_step FR2.out (W1 := w7.setCell ⟨bx,0,none⟩ (.slice A0 r.length c0)) (fun k hk hlt => cb7.block k hlt (fun e => by have := HV.out.lt k hk;have := GE.out;omega))) (fun k hk => .inl hk))
  have NR9 := Aside0.mk (show ∀ k,NR k → w.heap.size ≤ k ∧ k < (w7.setCell ⟨bx,0,none⟩ (.slice A0 r.length c0)).heap.size ∧ k ≠ bx from fun k hk => ⟨(NR1.out k hk).1,Nat.lt_of_lt_of_le (NR1.out k hk).2.1 cb7.size,(NR1.out k hk).2.2⟩)
  have CR9 := CR2
  clear cb7 z7 y7 x0 g7 FR1 FR2 NR1 CR1 CR2 BX7 HV7 HB7
  generalize w7.setCell ⟨bx,0,none⟩ (.slice A0 r.length c0) = w9 at *
  have OKD := Aside0.mk (fun k (hk : D k) => show (D k ∨ NR k ∨ w9.heap.size ≤ k) ∧ k < w9.heap.size from ⟨.inl hk,Nat.lt_of_lt_of_le (HV.out.lt k hk) HB9.out.size⟩)
  have FT := Aside0.mk (show Kd.F k34 w9 D (some ad) at_ (loD r L) by
    have h1 := Kd.F_take (m := at_) HV9.out.row (by have := HLEN.out;omega)
    rw [TK.out,HAT.out] at h1
    exact h1)
  have g9 := (blk_cell HV9.out.blk 0).trans rfl
  rw [HLEN.out] at g9
  go_upto_region 13 with (((with_reducible refine gate_builtin (b := .append) (xs := #[.tmp 56,.tmp 62]) rfl ?_);at_builtin;refine Kd.N_append_rows k34 (w0 := w) w.heap.size rfl (.tmp 56) (.tmp 62) 22 34 (.agg #[(.slice none 0 0),(.int .i64 0)]) 32 rfl Try.underlying22 info34 rfl (by decide) (by omega) (.slice none 0 0) [] (loD r L) (some ad) at_ c1 (fun k => D k ∨ NR k ∨ w9.heap.size ≤ k) D rfl rfl (Kd.N_nil _ _ _ _ _) FT.out (fun k hk => ⟨.inl hk,by simp [Value.ownBlock]⟩) (fun k hk => .inr (.inr hk)) HB9.out HB9.out.size (by have := HLEN.out;rw [List.length_nil];omega) ?_;intro v1 w10 hv hb3 hg hat;rw [List.nil_append] at hv;have N10 := Aside0.mk hv;have HB10 := Aside0.mk hb3;have AT10 := Aside0.mk (own_new hat);have N10S := Aside0.mk hg.size;have HV10 := Aside0.mk (HV9.out.keep (ch_grown (S := fun _ => False) hg (fun k e => by cases e)) (fun s => s) (fun _ _ s => s));have BX10 := Aside0.mk (blk_grown BX9.out hg (by simp [Value.ownBlock]));have FR10 := Aside0.mk (Kd.F_grown FR9.out hg (fun k hk => by simp [Value.ownBlock]));have y10 := (blk_cell BX10.out 0).trans rfl;have y11 := (blk_cell BX10.out 1).trans rfl;obtain ⟨Al,cl,el⟩ := Kd.N_slice hv;clear hv hb3 hg hat g9;subst el))
  have N12 := N10
  have HB12 := HB10
  have HV12 := HV10
  have AT12 := AT10
  have N12S := N10S
  have g12 := (blk_cell HV12.out.blk 0).trans rfl
  rw [HLEN.out] at g12
  clear N10 HB10 HV10 AT10 FR10
  have FT2 := Aside0.mk (show Kd.F k34 w10 D A2 (len - (at_ + 1)) (hiD r L) by
    have h1 := Kd.F_cut (c := c1) (m := (at_ + 1)) HV12.out.row (by have := HLEN.out;omega) HV12.out.cap
    rw [DPH.out] at h1
    have h2 : (hiD r L).length = len - (at_ + 1) := by rw [← DPH.out,List.length_drop,HLEN.out]
    rw [h2] at h1
    rw [← HA2.out]
    exact h1)
  have zg := blk_frozen HV12.out.blk 0
  go_wp2_with (((with_reducible refine gate_builtin (b := .append) (xs := #[.tmp 75,.tmp 81]) rfl ?_);at_builtin;refine Kd.N_append_rows k34 (w0 := w) w.heap.size rfl (.tmp 75) (.tmp 81) 22 34 (.agg #[(.slice none 0 0),(.int .i64 0)]) 32 rfl Try.underlying22 info34 rfl (by decide) (by omega) (.slice Al (loD r L).length cl) (loD r L) (hiD r L) A2 (len - (at_ + 1)) (c1 - (at_ + 1)) (fun k => D k ∨ NR k ∨ w9.heap.size ≤ k) D rfl rfl N12.out FT2.out (fun k hk => ⟨.inl hk,fun e => by have := AT12.out k e.symm;have := (OKD.out k hk).2;omega⟩) (fun k hk => .inr (.inr (by have h1 := HB12.out.size;have h3 := N12S.out;omega))) HB12.out HB12.out.size (by have := HLEN.out;have := HAT.out;omega) ?_;intro v3 w12 hv hb3 hg hat;obtain ⟨L3,hL3⟩ : ∃ L3,(loD r L) ++ hiD r L = L3 := ⟨_,rfl⟩;rw [hL3] at hv;have HL3 := Aside0.mk hL3;clear hL3;have N13 := Aside0.mk hv;have HB13 := Aside0.mk hb3;have HV13 := Aside0.mk (HV12.out.keep (ch_grown (S := fun k => w9.heap.size ≤ k) hg (fun k e => AT12.out k e)) (fun s => by have := WLT.out;have := HB9.out.size;omega) (fun k hk s => by have := (OKD.out k hk).2;omega));have zg2 := blk_frozen HV13.out.blk 0;have yg2 := (blk_cell HV13.out.blk 0).trans rfl;obtain ⟨Al3,cl3,el⟩ := Kd.N_slice hv;clear hv hb3 hg hat g12 zg;subst el))
  go_ret
  have hL : L3 = putD r n L := by
    rw [← HL3.out]
    unfold putD;rw [if_pos HZ.out,List.append_nil]
  rw [← hL]
  have s9 := HB9.out.size
  have wl := WLT.out
  have cg : Ch (fun k => k = g) w12 (w12.setCell ⟨g,0,none⟩ (.slice Al3 L3.length cl3)) := (Ch.refl (fun k => k = g) w12).setCell (p := ⟨g,0,none⟩) (.inl rfl) _
  have dn : ∀ k,((D k ∨ NR k ∨ w9.heap.size ≤ k) ∧ k < w12.heap.size) → k ≠ g := fun k hk e => by
    rcases hk.1 with q | q | q
    · exact HV.out.g_not (e ▸ q)
    · have := (NR9.out k q).1;omega
    · omega
  have R1 : RefV (w12.setCell ⟨g,0,none⟩ (.slice Al3 L3.length cl3)) g Al3 cl3 L3 (fun k => (D k ∨ NR k ∨ w9.heap.size ≤ k) ∧ k < w12.heap.size) :=
    ⟨blk_put HV13.out.blk 0 _ rfl,(Kd.N_reads' N13.out).2.1,Kd.F_step (Kd.F_bound (Kd.N_F N13.out)) (fun k hk hlt => cg.block k hlt (dn k hk)),fun hk => dn g hk rfl,fun k hk => Nat.lt_of_lt_of_le hk.2 cg.size⟩
  have R2 : RefCh w (w12.setCell ⟨g,0,none⟩ (.slice Al3 L3.length cl3)) g D (fun k => (D k ∨ NR k ∨ w9.heap.size ≤ k) ∧ k < w12.heap.size) :=
    ⟨(Ch.of_below (S := fun k => k = g) HB13.out).then_ cg (fun k hk => .inl hk),fun k hk => hk.1.imp id (fun q => q.elim (fun q => (NR9.out k q).1) (fun q => by omega))⟩
  first
    | exact ⟨_,_,_,rfl,R1,R2⟩
    | exact ⟨rfl,_,_,_,R1,R2⟩
    | exact ⟨rfl,_,_,R1,R2⟩
theorem ref_add {D : Nat → Prop} (g : Nat) (A1 : Option Addr) (c1 : Nat) (L : List En) (A : Option Addr) (c : Nat) (r : Rw) (m : Int) (w : World) (h : RefV w g A1 c1 L D) (hs : SrtD L) (hk : OkD L) (hr : RowC w A c r) (hl : L.length ≤ 1000000) :
    Calls Try.prog 17 #[.pointer (some ⟨g,0,none⟩),.slice A r.length c,.int .i64 m] w fun e w' => ∃ A' c' D',e = .returned (.int .i64 (addD r m L).1) ∧ RefV w' g A' c' (addD r m L).2 D' ∧ RefCh w w' g D D' := by
  by_cases hrt : rright r = true
  · rw [add_right hrt]
    by_cases hok : okAdd r m L = true
    · rw [if_pos hok]
      by_cases hz : manyD r L + m = 0
      · cases hf : fndD r L with
        | none => exact ref_addNZ g A1 c1 L A c r m _ w h hs hk hr hl hrt rfl hok hz hf
        | some y => exact ref_addSZ g A1 c1 L A c r m _ y w h hs hk hr hl hrt rfl hok hz hf
      · cases hf : fndD r L with
        | none => exact ref_addNN g A1 c1 L A c r m _ w h hs hk hr hl hrt rfl hok hz hf
        | some y => exact ref_addSN g A1 c1 L A c r m _ y w h hs hk hr hl hrt rfl hok hz hf
    · rw [if_neg hok]
      exact ref_addX g A1 c1 L A c r m w h hs hk hr hl hrt (by simpa using hok)
  · have e1 : addD r m L = (2,L) := by unfold addD;rw [if_neg hrt]
    rw [e1]
    exact ref_addR g A1 c1 L A c r m w h hr (by simpa using hrt)
end Go.Proofs.Ythmbfcfomcaaaaa.Z
end
section
namespace Go.Proofs.Ythmbfcfomcaaaaa.Z
set_option linter.unusedVariables false
set_option linter.unusedSimpArgs false
open Go.RowKit Go.Shelf Go.Proofs.YthmbfcfomcaaaaaW.PrintWords Go.Proofs.YthmbfcfomcaaaaaW.PrintLast Go.Proofs.YthmbfcfomcaaaaaW.PrintMore Go.Proofs.Ythmbfcfomcaaaaa.Cmp
attribute [local go_sem] Oper.semAt_some
def RowsS (Bl bx : Nat) (v : Value) (ex : Ent) (w' : World) : Prop := w'.cell? ⟨Bl,0,none⟩ = some v ∧ w'.cell? ⟨bx,0,none⟩ = some (.slice ex.A ex.row.length ex.c) ∧ w'.cell? ⟨bx,1,none⟩ = some (.int .i64 ex.many)
theorem heldS {W : World} {Bl bx t q : Nat} {v : Value} {ex : Ent} {l r : Tr} {k : Int} (h : W.heap[Bl]? = some (.cells #[v] t (0,0))) (hx : W.heap[bx]? = some (.cells (ncells ex l r k) q (0,0))) : RowsS Bl bx v ex W :=
  ⟨(blk_cell h 0).trans rfl,(blk_cell hx 0).trans rfl,(blk_cell hx 1).trans rfl⟩
theorem keepsO_below {W W' : World} (h : Below W.heap.size W W') : KeepsOthers W W' := ⟨h.size,fun k o hk _ => (h.block k (Array.getElem?_eq_some_iff.1 hk).1).trans hk⟩
theorem docT_items (t : Tr) : docT t = t.items.map docI := by unfold docT docE Tr.ents entsL;rw [List.map_map];rfl
def RowsI (w : World) (L : List En) (W : World) : Prop := ∃ v,W.heap[w.heap.size]? = some (.cells #[v] 22 (0,0)) ∧ Kd.R k34 34 W w.heap.size (fun k => k ≠ w.heap.size) v L
theorem own_rows (w : World) {α : Type} (f : List α → List En) (B : Nat) : OwnFrom B (fun pre W => RowsI w (f pre) W) := by
  rintro pre W W' row ⟨v,hb,hR⟩ hg hr
  have hne : ∀ {k : Nat} {cs : Array Value} {q : TypeId},W.heap[k]? = some (.cells cs q (0,0)) → some k ≠ row := fun {k cs q} hk e => by
    obtain ⟨_,o,ho,hc⟩ := hr k e.symm
    rw [hk] at ho
    cases ho
    cases hc
  refine ⟨v,blk_grown hb hg (hne hb),Kd.R_mono (Kd.R_grown (Kd.R_bound hR) hg (fun k hk => by obtain ⟨q,_,cs,hc⟩ := hk.2.2.2;exact hne hc)) (fun k hk => hk.1)⟩
set_option maxRecDepth 100000 in
set_option maxHeartbeats 4000000 in
theorem bag_rows {D : Nat → Prop} (b : Nat) (t : Tr) (w : World) (h : BagAt w b t D) (hs : t.size ≤ 1000000) :
    Calls Try.prog 34 #[.pointer (some ⟨b,0,none⟩)] w fun e w' => ∃ v,e = .returned v ∧ Kd.R k34 34 w' w.heap.size (fun _ => True) v (docT t) ∧ Below w.heap.size w w' := by
  have HA := Aside0.mk h
  have HS := Aside0.mk hs
  have c0 := blk_cell h.blk 0
  simp only [bcells,List.getElem?_toArray,List.getElem?_cons_zero] at c0
  have hb := h.lt.1
  have NALL := Aside0.mk (fun w' => nd_all t w')
  have STOPS := Aside0.mk (fun Bt w' hBt hn hc hT => nd_all_stops (D := D) 2 Bt w.heap.size t w' hBt hn hc hT)
  obtain ⟨q0,hq0⟩ := ptr_case t
  have HQ0 := Aside0.mk hq0
  rw [hq0] at c0 NALL STOPS
  clear h hs hq0
  have hdd : ∀ k : Nat,(Fence.wide.depth.isSome = true → 1 ≤ k) := fun k h => by cases h
  have hwA : Fence.wide.fn 76 := trivial
  have hwC : Fence.wide.fn 63 := trivial
  refine (callsIn_wide (n := 3)).1 ?_
  refine callsIn_of_wp_marks Try.func34 rfl trivial ?_ rfl
  simp only [Try.ntmps34,List.size_toArray,List.length_cons,List.length_nil,Nat.reduceAdd,Nat.reduceSub,Array.replicate_succ,Array.replicate_zero,List.push_toArray,List.append_toArray,List.nil_append,List.cons_append]
  gi_wp2_with ((try refine ⟨hdd _,?_⟩);gi_at_call 76;refine (callsIn_wide.2 (NALL.out _)).mono ?_;rintro e w' ⟨rfl,rfl⟩)
  obtain ⟨B0,hB0e⟩ : ∃ B0,w.heap.size = B0 := ⟨_,rfl⟩
  have hB0 : Below w.heap.size w ((w.alloc (.cells #[.slice none 0 0] 22)).alloc (.cells #[.pointer q0] 81)) := below_alloc (below_alloc (Below.refl _ _) _) _
  have hbx0 : ((w.alloc (.cells #[.slice none 0 0] 22)).alloc (.cells #[.pointer q0] 81)).heap[w.heap.size]? = some (.cells #[.slice none 0 0] 22 (0,0)) := blk_alloc (blk_new w _) _
  have hbn : ((w.alloc (.cells #[.slice none 0 0] 22)).alloc (.cells #[.pointer q0] 81)).cell? ⟨w.heap.size + 1,0,none⟩ = some (.pointer q0) := by
    have := blk_new (w.alloc (.cells #[.slice none 0 0] 22)) (.cells #[.pointer q0] 81)
    rw [World.size_alloc] at this
    exact (blk_cell this 0).trans rfl
  have hT : InB w.heap.size ((w.alloc (.cells #[.slice none 0 0] 22)).alloc (.cells #[.pointer q0] 81)) D t := ⟨(HA.out.below hB0).tree.inn,HA.out.lt.2.1,HA.out.lt.2.2⟩
  clear hB0e
  refine wpIn_rangeFunc_ownG (F := Fence.wide) (n := 3) rfl (by omega) (gf := 97) (lb := #[.pointer (some ⟨w.heap.size + 1,0,none⟩)]) rfl trivial (enters_of Try.func97 (by kernel_rfl) rfl) (STOPS.out (w.heap.size + 1) _ (by simp) (by simp;omega) hbn hT) belowK_t (belowK_b (by simp;omega)) (Below.refl _ _) (fun _ => rfl)
    (fun pre W => RowsI w (pre.map (fun y => docI y.1)) W ∧ Below w.heap.size w W) (fun _ _ _ => False)
    (OwnFrom.and (own_rows w (fun pre : List { x : Nat × Ent // x ∈ t.items } => pre.map (fun y => docI y.1)) _) (ownFrom_below (Nat.le_refl _) (by simp;omega))) (fun _ _ _ _ _ hs _ _ => hs)
    ⟨⟨.slice none 0 0,hbx0,Kd.R_nil _ _ _ _ _⟩,hB0⟩
    (fun x => { tmps := #[.pointer (some ⟨b,0,none⟩),undef,.slice none 0 0,.pointer (some ⟨w.heap.size,0,none⟩),.pointer (some ⟨x.1.1,0,none⟩),.pointer (some ⟨b,0,none⟩),.bool false,.pointer (some ⟨b,0,none⟩),.pointer (some ⟨b,0,none⟩),.pointer (some ⟨b,0,none⟩),.pointer q0,.func (.func 97) #[] #[.pointer (some ⟨w.heap.size + 1,0,none⟩)],.pointer (some ⟨x.1.1,0,none⟩),undef,undef,undef,undef,undef,undef,undef,undef,undef,undef,undef,undef,undef,undef,undef,undef],defers := [] }) ?assign ?body ?done ?stop
  case assign =>
    intro l x W K hK
    simp only [ptrOf]
    gi_wp2
    exact hK
  case body =>
    rintro l pre ⟨x,hx⟩ W ⟨⟨v,hbx,hR⟩,hB⟩ hlt
    obtain ⟨bx,ex⟩ := x
    obtain ⟨tl,tr,k,hnx,hex⟩ := (HA.out.below hB).tree.inn.node_of _ hx
    obtain ⟨L,hL⟩ : ∃ L,pre.map (fun y => docI y.1) = L := ⟨_,rfl⟩
    have HL := Aside0.mk hL
    have LPR := Aside0.mk (show L.length < 1000000 by have h1 := HS.out;unfold Tr.size at h1;rw [← hL,List.length_map];omega)
    change Kd.R _ _ _ _ _ _ (pre.map (fun y => docI y.1)) at hR
    rw [hL] at hR
    clear hL
    have BX1 := Aside0.mk (show W.drew.heap[w.heap.size]? = some (.cells #[v] 22 (0,0)) from hbx)
    have NX1 := Aside0.mk (show W.drew.heap[bx]? = some (.cells (ncells ex tl tr k) 90 (0,0)) from hnx)
    have HRW := Aside0.mk (Kd.R_drew hR)
    have HBW := Aside0.mk (below_drew1 hB)
    have RL := right_len (HA.out.ok.item hx).1
    have CLN := Aside0.mk (clone_at ex.A ex.c ex.row W.drew (hex.c.below (below_drew1 (Below.refl _ _))) (by have : ex.row.length ≤ 40 := RL;omega))
    obtain ⟨Av,cv,ev⟩ := Kd.R_slice hR
    have KO := Aside0.mk (KeepsOthers.drew W)
    have HD := Aside0.mk (show Below w.heap.size W W.drew from below_drew1 (Below.refl _ _))
    have LTB := Aside0.mk (blk_lt BX1.out)
    clear hbx hnx hR hB hex RL
    subst ev
    gi_wp2
    refine startR_ (m := 16) (S := RowsS w.heap.size bx (.slice Av L.length cv) ex) (ds := [15]) #[false,false,false,false,false,false,false,false,false,false,false,false,false,false,false,false] (by kernel_rfl) (noDefer_at (by kernel_rfl)) (fun ⟨_,_,h⟩ => h) rfl rfl (heldS BX1.out NX1.out) (fun hHeld => ?_)
    generalize W.drew = W1 at *
    refine pure_ (i := 1) (N := some 14) (v := ?_) (a' := ?_) #[false,true,false,false,false,false,false,false,false,false,false,false,false,false,false,false] rfl rfl (by kernel_rfl) (fun _ _ _ h => h) (Or.inl ⟨by rfl,?_⟩) ?_ ?_
    rotate_left
    · intro w'
      go_simp
      with_reducible rfl
    rotate_left
    · simp only [Act.put,zA,zB,zC,i64_w,i32_w]
      rfl
    refine pure_ (i := 2) (N := some 15) (v := ?_) (a' := ?_) #[false,true,true,false,false,false,false,false,false,false,false,false,false,false,false,false] rfl rfl (by kernel_rfl) (fun _ _ _ h => h) (Or.inl ⟨by rfl,?_⟩) ?_ ?_
    rotate_left
    · intro w'
      go_simp
      with_reducible rfl
    rotate_left
    · simp only [Act.put,zA,zB,zC,i64_w,i32_w]
      rfl
    refine pure_ (i := 3) (N := some 16) (v := ?_) (a' := ?_) #[false,true,true,true,false,false,false,false,false,false,false,false,false,false,false,false] rfl rfl (by kernel_rfl) (fun _ _ _ h => h) (Or.inl ⟨by rfl,?_⟩) ?_ ?_
    rotate_left
    · intro w'
      go_simp
      with_reducible rfl
    rotate_left
    · simp only [Act.put,zA,zB,zC,i64_w,i32_w]
      rfl
    refine pure_ (i := 4) (N := some 17) (v := ?_) (a' := ?_) #[false,true,true,true,true,false,false,false,false,false,false,false,false,false,false,false] rfl rfl (by kernel_rfl) (fun _ _ _ h => h) (Or.inl ⟨by rfl,?_⟩) ?_ ?_
    rotate_left
    · intro w'
      go_simp
      with_reducible rfl
    rotate_left
    · simp only [Act.put,zA,zB,zC,i64_w,i32_w]
      rfl
    refine pure_ (i := 7) (N := some 20) (v := ?_) (a' := ?_) #[false,true,true,true,true,false,false,true,false,false,false,false,false,false,false,false] rfl rfl (by kernel_rfl) (fun _ _ _ h => h) (Or.inl ⟨by rfl,?_⟩) ?_ ?_
    rotate_left
    · intro w'
      go_simp
      with_reducible rfl
    rotate_left
    · simp only [Act.put,zA,zB,zC,i64_w,i32_w]
      rfl
    refine pure_ (i := 8) (N := some 21) (v := ?_) (a' := ?_) #[false,true,true,true,true,false,false,true,true,false,false,false,false,false,false,false] rfl rfl (by kernel_rfl) (fun _ _ _ h => h) (Or.inl ⟨by rfl,?_⟩) ?_ ?_
    rotate_left
    · intro w'
      go_simp
      with_reducible rfl
    rotate_left
    · simp only [Act.put,zA,zB,zC,i64_w,i32_w]
      rfl
    refine pure_ (i := 9) (N := some 22) (v := ?_) (a' := ?_) #[false,true,true,true,true,false,false,true,true,true,false,false,false,false,false,false] rfl rfl (by kernel_rfl) (fun _ _ _ h => h) (Or.inl ⟨by rfl,?_⟩) ?_ ?_
    rotate_left
    · intro w'
      go_simp
      with_reducible rfl
    rotate_left
    · simp only [Act.put,zA,zB,zC,i64_w,i32_w]
      rfl
    refine pure_ (i := 10) (N := some 23) (v := ?_) (a' := ?_) #[false,true,true,true,true,false,false,true,true,true,true,false,false,false,false,false] rfl rfl (by kernel_rfl) (fun _ _ _ h => h) (Or.inl ⟨by rfl,?_⟩) ?_ ?_
    rotate_left
    · intro w'
      go_simp
      with_reducible rfl
    rotate_left
    · simp only [Act.put,zA,zB,zC,i64_w,i32_w]
      rfl
    refine take_ (i := 0) (N := some 13) (v := ?_) (a' := ?_) #[true,true,true,true,true,false,false,true,true,true,true,false,false,false,false,false] rfl rfl (by kernel_rfl) (fun _ _ _ h => h) (Or.inl ⟨by rfl,?_⟩) hHeld ?_ ?_
    rotate_left
    · rintro w' ⟨s0,s1,s2⟩
      go_simp
      with_reducible rfl
    rotate_left
    · simp only [Act.put,zA,zB,zC,i64_w,i32_w]
      rfl
    refine take_ (i := 5) (N := some 18) (v := ?_) (a' := ?_) #[true,true,true,true,true,true,false,true,true,true,true,false,false,false,false,false] rfl rfl (by kernel_rfl) (fun _ _ _ h => h) (Or.inl ⟨by rfl,?_⟩) hHeld ?_ ?_
    rotate_left
    · rintro w' ⟨s0,s1,s2⟩
      go_simp
      with_reducible rfl
    rotate_left
    · simp only [Act.put,zA,zB,zC,i64_w,i32_w]
      rfl
    refine take_ (i := 11) (N := some 24) (v := ?_) (a' := ?_) #[true,true,true,true,true,true,false,true,true,true,true,true,false,false,false,false] rfl rfl (by kernel_rfl) (fun _ _ _ h => h) (Or.inl ⟨by rfl,?_⟩) hHeld ?_ ?_
    rotate_left
    · rintro w' ⟨s0,s1,s2⟩
      go_simp
      with_reducible rfl
    rotate_left
    · simp only [Act.put,zA,zB,zC,i64_w,i32_w]
      rfl
    refine one_ (i := 6) (N := some 19) #[true,true,true,true,true,true,true,true,true,true,true,true,false,false,false,false] rfl rfl (by kernel_rfl) (by decide) (fun K hK => ?_)
    refine goes_ Try.func63 (by kernel_rfl) rfl #[.slice ex.A ex.row.length ex.c] (by rfl) rfl rfl (by (try simp only [List.map_toArray,List.map_cons,List.map_nil]);first | done | rfl) ?_
    refine (CLN.out.mono ?_)
    rintro e w2 ⟨v1,rfl,hv,hb⟩
    refine ⟨_,rfl,?_⟩
    have HV := Aside0.mk hv
    have B2 := Aside0.mk hb
    have BX2 := Aside0.mk (blk_below BX1.out hb)
    have NX2 := Aside0.mk (blk_below NX1.out hb)
    obtain ⟨A1,c1,e1⟩ := Kd.R_slice hv
    clear hv hb CLN BX1 NX1
    subst e1
    refine hK.out _ _ (heldS BX2.out NX2.out) (fun hHeld => ?_)
    clear hK K
    refine norm_ (a' := ?_) ?_ ?_
    rotate_left
    · show Act.put _ (some 19) _ = _
      simp only [Act.put,zA,zB,zC,i64_w,i32_w]
      rfl
    refine pure_ (i := 12) (N := some 25) (v := ?_) (a' := ?_) #[true,true,true,true,true,true,true,true,true,true,true,true,true,false,false,false] rfl rfl (by kernel_rfl) (fun _ _ _ h => h) (Or.inl ⟨by rfl,?_⟩) ?_ ?_
    rotate_left
    · intro w'
      go_simp
      with_reducible rfl
    rotate_left
    · simp only [Act.put,zA,zB,zC,i64_w,i32_w]
      rfl
    refine one_ (i := 13) (N := some 26) #[true,true,true,true,true,true,true,true,true,true,true,true,true,true,false,false] rfl rfl (by kernel_rfl) (by decide) (fun K hK => ?_)
    refine value_ (w1 := ?_) (v := ?_) (by rfl) rfl ?_ ?_
    rotate_left 2
    · go_simp
      constructor
      · rfl
      · rfl
    refine hK.out _ _ (heldS (blk_alloc BX2.out _) (blk_alloc NX2.out _)) (fun hHeld => ?_)
    clear hK K
    refine norm_ (a' := ?_) ?_ ?_
    rotate_left
    · show Act.put _ (some 26) _ = _
      simp only [Act.put,zA,zB,zC,i64_w,i32_w]
      rfl
    refine one_ (i := 14) (N := some 27) #[true,true,true,true,true,true,true,true,true,true,true,true,true,true,true,false] rfl rfl (by kernel_rfl) (by decide) (fun K hK => ?_)
    have HRW2 := Aside0.mk (Kd.R_below HRW.out B2.out)
    have APM := Aside0.mk (show Kd.R k66 66 w2 w.heap.size (fun k => W1.heap.size ≤ k) (.slice A1 ex.row.length c1) ex.row from Kd.R_lower (Kd.R_mono (Kd.R_bound HV.out) (fun k hk => hk.2.1)) (Nat.le_of_lt LTB.out))
    have APK := Aside0.mk (fun k (hk : W1.heap.size ≤ k) => show k ≠ w.heap.size ∧ some k ≠ ((.slice Av L.length cv) : Value).ownBlock from ⟨by have := LTB.out;omega,fun e => by have := Kd.R_lt HRW.out k e.symm;omega⟩)
    refine Kd.R_append_step k34 (w0 := w) w.heap.size (by rfl) (.tmp 13) (.tmp 26) 22 34 (.agg #[(.slice none 0 0),(.int .i64 0)]) 32 rfl Try.underlying22 info34 rfl (by decide) (by omega) (.slice Av L.length cv) L (⟨ex.row,ex.many⟩ : En) [.slice A1 ex.row.length c1,.int .i64 ex.many] (fun k => k ≠ w.heap.size) (fun k => W1.heap.size ≤ k) rfl rfl (k34_mkM _ _ _ (⟨ex.row,ex.many⟩ : En) APM.out) APK.out (fun k hk => by have := LTB.out;have := B2.out.size;omega) HRW2.out (HBW.out.trans (B2.out.mono HBW.out.size)) (by have := LTB.out;have := B2.out.size;omega) (by have := LPR.out;omega) ?_
    intro v3 w3 ho hb3 hg hat
    have BX3 := Aside0.mk (blk_grown BX2.out hg (fun e => (HRW2.out.1 _ e.symm) rfl))
    have NX3 := Aside0.mk (blk_grown NX2.out hg (fun e => by have h1 := (Kd.R_typed HRW2.out) _ e.symm;obtain ⟨cs,hcs⟩ := h1;rw [NX2.out] at hcs;cases hcs))
    have HO := Aside0.mk ho
    have HB3 := Aside0.mk hb3
    have KO3 := Aside0.mk ((KO.out.trans (keepsO_below B2.out)).trans (KeepsOthers.of_grownBy hg (fun j o e ho2 => by obtain ⟨cs,hcs⟩ := Kd.R_typed HRW2.out j e;rw [hcs] at ho2;cases ho2;rfl)))
    have HD3 := Aside0.mk ((HD.out.trans (B2.out.mono (by have := HBW.out.size;omega))).grown hg (by have := HBW.out.size;have := B2.out.size;omega) (fun k e => Kd.R_base HRW2.out k e))
    obtain ⟨A3,c3,e3⟩ := Kd.R_slice ho
    clear ho hb3 hg hat
    subst e3
    refine hK.out _ _ (heldS BX3.out NX3.out) (fun hHeld => ?_)
    clear hK K
    refine norm_ (a' := ?_) ?_ ?_
    rotate_left
    · show Act.put _ (some 27) _ = _
      simp only [Act.put,zA,zB,zC,i64_w,i32_w]
      rfl
    refine last_ (i := 15) (N := none) #[true,true,true,true,true,true,true,true,true,true,true,true,true,true,true,true] rfl rfl (by kernel_rfl) (by decide) (fun K hK => ?_)
    have z0 := blk_frozen BX3.out 0
    have y0 := (blk_cell BX3.out 0).trans rfl
    refine skip_ (w1 := w3.setCell ⟨w.heap.size,0,none⟩ (.slice A3 (L ++ [(⟨ex.row,ex.many⟩ : En)]).length c3)) (by rfl) rfl ?_ ?_
    · go_simp
      try with_reducible rfl
    refine hK.out _ _ ?_
    clear hK K
    refine done_ (by kernel_rfl) ?_
    show KeepsFrom _ _ _ ∧ Below _ _ _ ∧ RowsI _ _ _ ∧ Below _ _ _
    refine ⟨(KO3.out.trans (KeepsOthers.setCell _ _ _)).from _,HD3.out.setCell (Nat.le_refl _) _,⟨_,blk_put BX3.out 0 _ rfl,?_⟩,HB3.out.setCell (Nat.le_refl _) _⟩
    rw [List.map_append,HL.out]
    exact Kd.R_far (p := ⟨w.heap.size,0,none⟩) HO.out (fun k hk => hk) _
  case done =>
    rintro D2 ys W hD2 hys ⟨⟨v,hbx,hR⟩,hB⟩ hK
    have hd : ys.map (fun y => docI y.1) = docT t := by
      have h1 := congrArg (List.map docI) hys
      rw [List.map_map] at h1
      exact h1.trans (docT_items t).symm
    change Kd.R _ _ _ _ _ _ (ys.map (fun y => docI y.1)) at hR
    rw [hd] at hR
    clear hd
    obtain ⟨A9,c9,e9⟩ := Kd.R_slice hR
    have HR9 := Aside0.mk hR
    have HB9 := Aside0.mk hB
    have LK := Aside0.mk (show D2 ≠ w.heap.size by simp at hD2;omega)
    have y0 := (blk_cell hbx 0).trans rfl
    have HK := Aside0.mk hK
    have HYS := Aside0.mk hys
    have HD2 := Aside0.mk hD2
    clear hR hB hbx hK hys hD2
    subst e9
    gi_wp2
    refine ⟨by simp,.inl ⟨_,_,rfl,run_takeDeferred HK.out,?_⟩⟩
    have hg := grownBy_putObj' W D2 (.deferred none)
    have hR' := Kd.R_mono (ok' := fun _ => True) (Kd.R_grown (Kd.R_bound HR9.out) hg (fun k hk e => by
      obtain ⟨q,_,cs,hc⟩ := hk.2.2.2
      injection e with e
      subst e
      rw [HK.out] at hc
      cases hc)) (fun _ _ => trivial)
    exact ⟨_,results_tmp rfl _ _ _,.slice A9 (docT t).length c9,rfl,hR',HB9.out.trans (belowK_b (w := w) (Nat.le_refl _) W D2 _ _ (by have := HD2.out;simp at this;omega) HK.out rfl rfl)⟩
  case stop =>
    rintro D2 c pre W _ _ h _
    exact h.elim
end Go.Proofs.Ythmbfcfomcaaaaa.Z
end
section
namespace Go.Proofs.Ythmbfcfomcaaaaa.Z
open Go.RowKit Go.Proofs.YthmbfcfomcaaaaaW.PrintWords Go.Proofs.YthmbfcfomcaaaaaW.PrintLast Go.Proofs.YthmbfcfomcaaaaaW.PrintMore
attribute [local go_sem] max2_int min2_int max_two min_two max_three min_three max_four min_four
set_option linter.unusedVariables false
set_option linter.unusedSimpArgs false
def verdererref05_Alike.l0 : Nat → List (S34) → List (S34) → Int → Option (Bool)
  | 0,_,_,_ => none
  | k + 1,x0,x1,x5 => if x5 < (x0.length : Int) then (if 0 ≤ x5 then (if x5 < (x1.length : Int) then (if ((rd_T34 x0 x5).f1) = ((rd_T34 x1 x5).f1) then ((verdererref02_Equal.f k ((rd_T34 x0 x5).f0) ((rd_T34 x1 x5).f0)).bind fun t173 => (if t173 = true then (verdererref05_Alike.l0 k x0 x1 (wrap64 (x5 + 1))) else (some false))) else (some false)) else (none)) else (none)) else (some true)
def verdererref05_Alike.f (k : Nat) (l0 : List (S34)) (l1 : List (S34)) : Option (Bool) := if (l0.length : Int) = (l1.length : Int) then (verdererref05_Alike.l0 k l0 l1 0) else (some false)
theorem verdererref05_Alike.mono_l : ∀ k,(∀ y0 y1 y2,LeO (verdererref05_Alike.l0 k y0 y1 y2) (verdererref05_Alike.l0 (k + 1) y0 y1 y2))
  | 0 => fun _ _ _ r h => by simp [verdererref05_Alike.l0] at h
  | k + 1 => by
    have ih0 := verdererref05_Alike.mono_l k
    · intro y0 y1 y2
      unfold verdererref05_Alike.l0
      repeat' first
      | (with_reducible exact ih0 _ _ _)
      | (with_reducible exact verdererref02_Equal.mono _ _ _)
      | (with_reducible exact LeO.refl _)
      | (with_reducible exact LeO.none _)
      | (with_reducible refine LeO.ite ?_ ?_)
      | (with_reducible refine LeO.bind ?_ (fun _ => ?_))
      | exact ih0 _ _ _
      | exact verdererref02_Equal.mono _ _ _
      | exact LeO.none _
      | refine LeO.ite ?_ ?_
      | refine LeO.bind ?_ (fun _ => ?_)
theorem verdererref05_Alike.mono : ∀ a0 a1 k,LeO (verdererref05_Alike.f k a0 a1) (verdererref05_Alike.f (k + 1) a0 a1) := by
  intro a0 a1 k
  have ih0 := verdererref05_Alike.mono_l k
  unfold verdererref05_Alike.f
  repeat' first
      | (with_reducible exact ih0 _ _ _)
      | (with_reducible exact verdererref02_Equal.mono _ _ _)
      | (with_reducible exact LeO.refl _)
      | (with_reducible exact LeO.none _)
      | (with_reducible refine LeO.ite ?_ ?_)
      | (with_reducible refine LeO.bind ?_ (fun _ => ?_))
      | exact ih0 _ _ _
      | exact verdererref02_Equal.mono _ _ _
      | exact LeO.none _
      | refine LeO.ite ?_ ?_
      | refine LeO.bind ?_ (fun _ => ?_)
set_option maxHeartbeats 8000000 in
set_option maxRecDepth 100000 in
theorem verdererref05_Alike.calls (k : Nat) (A0 : Option Addr) (c0 : Nat) (l0 : List (S34)) (A1 : Option Addr) (c1 : Nat) (l1 : List (S34)) (r : Bool) (w : World) (hr0 : Kd.C k34 w A0 l0.length l0) (hc0 : l0.length ≤ c0) (hr1 : Kd.C k34 w A1 l1.length l1) (hc1 : l1.length ≤ c1) (h : verdererref05_Alike.f k l0 l1 = some r) :
    Calls Try.prog 31 #[.slice A0 l0.length c0,.slice A1 l1.length c1] w fun e w' => e = .returned (.bool r) ∧ Drawn0 w w' := by
  have HR0 := Aside0.mk hr0
  have HC0 := Aside0.mk hc0
  clear hr0 hc0
  have HR1 := Aside0.mk hr1
  have HC1 := Aside0.mk hc1
  clear hr1 hc1
  have H : (if (l0.length : Int) = (l1.length : Int) then (verdererref05_Alike.l0 k l0 l1 0) else (some false)) = some r := h
  clear h
  by_cases c3 : (l0.length : Int) = (l1.length : Int)
  · rw [if_pos c3] at H
    have c3b0 : ((l0.length : Int) == (l1.length : Int)) = true := beq_iff_eq.mpr c3
    have c3b1 : ((l0.length : Int) != (l1.length : Int)) = false := bne_eq_false_iff_eq.mpr c3
    have c3b2 : (l0.length == l1.length) = true := by first | simpa using c3 | (simp at c3 ⊢;omega)
    clear c3
    have H' := Aside0.mk H
    clear H
    go_enter Try.func31,Try.ntmps31
    go_wp2
    repeat (go_quiet (fail);try go_wp2)
    go_loopg [5] k (fun kq v5 w' => ∃ (x5_1 : Int),v5 = .int .i64 x5_1 ∧ Aside0 (verdererref05_Alike.l0 kq l0 l1 x5_1 = some r) ∧ Aside0 (kq ≤ k) ∧ Drawn0 w w')
    case atStart => exact ⟨(0),(by first | rfl | (simp;done) | (simp [*];done)),H',⟨Nat.le_refl _⟩,by repeat (first | exact Drawn0.refl _ | apply Drawn0.step)⟩
    case round =>
      clear H'
      try clear c1
      try clear p2
      try clear c3
      try clear c3b0
      try clear c3b1
      try clear c3b2
      obtain ⟨x5_1,rfl,HA,HK1,⟨m1,rfl⟩⟩ := hrel
      cases gk with
      | zero => exact absurd HA.out (by simp [verdererref05_Alike.l0])
      | succ k1 =>
        have H := HA.out
        clear HA
        simp only [verdererref05_Alike.l0] at H
        by_cases c4 : x5_1 < (l0.length : Int)
        · rw [if_pos c4] at H
          have c4b0 : decide (x5_1 < (l0.length : Int)) = true := decide_eq_true c4
          clear c4
          by_cases c5 : 0 ≤ x5_1
          · rw [if_pos c5] at H
            have c5b0 : decide (0 ≤ x5_1) = true := decide_eq_true c5
            clear c5
            by_cases c6 : x5_1 < (l1.length : Int)
            · rw [if_pos c6] at H
              have c6b0 : decide (x5_1 < (l1.length : Int)) = true := decide_eq_true c6
              clear c6
              by_cases c7 : ((rd_T34 l0 x5_1).f1) = ((rd_T34 l1 x5_1).f1)
              · rw [if_pos c7] at H
                have c7b0 : (((rd_T34 l0 x5_1).f1) == ((rd_T34 l1 x5_1).f1)) = true := beq_iff_eq.mpr c7
                have c7b1 : (((rd_T34 l0 x5_1).f1) != ((rd_T34 l1 x5_1).f1)) = false := bne_eq_false_iff_eq.mpr c7
                clear c7
                replace H := Option.bind_eq_some_iff.mp H
                obtain ⟨t173,A80,H⟩ := H
                replace H : (if t173 = true then (verdererref05_Alike.l0 k1 l0 l1 (wrap64 (x5_1 + 1))) else (some false)) = some r := H
                have A8 := Aside0.mk A80
                clear A80
                by_cases c9 : t173 = true
                · subst c9
                  have H1 : (verdererref05_Alike.l0 k1 l0 l1 (wrap64 (x5_1 + 1))) = some r := by rw [if_pos rfl] at H;exact H
                  clear H
                  have H := H1
                  clear H1
                  have H' := Aside0.mk H
                  clear H
                  have p169 : 0 ≤ (x5_1 : Int) := of_decide_eq_true (by first | (with_reducible assumption) | assumption)
                  have q169 : x5_1 < (l0.length : Int) := of_decide_eq_true (by first | (with_reducible assumption) | assumption)
                  obtain ⟨ad169,A169_0,c169_0,e169,hx169_0,hx169_1,hl169_0,hi169_0⟩ := at_T34 HR0.out x5_1 p169 q169
                  cases e169
                  have HR169_0 := Aside0.mk hi169_0
                  have HC169_0 := Aside0.mk hl169_0
                  clear hi169_0 hl169_0
                  replace p169 := eq_true p169
                  replace q169 := eq_true q169
                  have p170 : 0 ≤ (x5_1 : Int) := of_decide_eq_true (by first | (with_reducible assumption) | assumption)
                  have q170 : x5_1 < (l1.length : Int) := of_decide_eq_true (by first | (with_reducible assumption) | assumption)
                  obtain ⟨ad170,A170_0,c170_0,e170,hx170_0,hx170_1,hl170_0,hi170_0⟩ := at_T34 HR1.out x5_1 p170 q170
                  cases e170
                  have HR170_0 := Aside0.mk hi170_0
                  have HC170_0 := Aside0.mk hl170_0
                  clear hi170_0 hl170_0
                  replace p170 := eq_true p170
                  replace q170 := eq_true q170
                  have p171 : 0 ≤ (x5_1 : Int) := of_decide_eq_true (by first | (with_reducible assumption) | assumption)
                  have q171 : x5_1 < (l0.length : Int) := of_decide_eq_true (by first | (with_reducible assumption) | assumption)
                  obtain ⟨ad171,A171_0,c171_0,e171,hx171_0,hx171_1,hl171_0,hi171_0⟩ := at_T34 HR0.out x5_1 p171 q171
                  obtain rfl : ad169 = ad171 := (by injection e171)
                  have HR171_0 := Aside0.mk hi171_0
                  have HC171_0 := Aside0.mk hl171_0
                  clear hi171_0 hl171_0
                  replace p171 := eq_true p171
                  replace q171 := eq_true q171
                  have ea_ := Option.some.inj (hx169_0.symm.trans hx171_0)
                  injection ea_ with ea_ en_ ec_
                  subst ea_
                  subst ec_
                  clear en_
                  have p172 : 0 ≤ (x5_1 : Int) := of_decide_eq_true (by first | (with_reducible assumption) | assumption)
                  have q172 : x5_1 < (l1.length : Int) := of_decide_eq_true (by first | (with_reducible assumption) | assumption)
                  obtain ⟨ad172,A172_0,c172_0,e172,hx172_0,hx172_1,hl172_0,hi172_0⟩ := at_T34 HR1.out x5_1 p172 q172
                  obtain rfl : ad170 = ad172 := (by injection e172)
                  have HR172_0 := Aside0.mk hi172_0
                  have HC172_0 := Aside0.mk hl172_0
                  clear hi172_0 hl172_0
                  replace p172 := eq_true p172
                  replace q172 := eq_true q172
                  have ea_ := Option.some.inj (hx170_0.symm.trans hx172_0)
                  injection ea_ with ea_ en_ ec_
                  subst ea_
                  subst ec_
                  clear en_
                  go_wp2_with (first | (go_at_call 22;(with_reducible refine (verdererref02_Equal.calls k1 _ _ ((rd_T34 l0 x5_1).f0) _ _ ((rd_T34 l1 x5_1).f0) true _ ?side1 ?side2 ?side3 ?side4 A8.out).mono ?_);(case side1 => repeat (first | exact HR171_0.out | (with_reducible refine Kd.C_alloc ?_ _) | (with_reducible refine Kd.C_drewN ?_ _) | (with_reducible refine Kd.C_drew ?_)));(case side2 => exact HC171_0.out);(case side3 => repeat (first | exact HR172_0.out | (with_reducible refine Kd.C_alloc ?_ _) | (with_reducible refine Kd.C_drewN ?_ _) | (with_reducible refine Kd.C_drew ?_)));(case side4 => exact HC172_0.out);rintro e w' ⟨rfl,⟨nd,rfl⟩⟩;(try first | exact ⟨rfl,_,World.drewN_drewN _ _ _⟩ | exact ⟨rfl,_,Eq.trans (World.drewN_drewN _ _ _) (congrArg (World.drewN _) (Nat.add_assoc _ _ _))⟩)))
                  repeat (go_quiet (first | (go_at_call 22;(with_reducible refine (verdererref02_Equal.calls k1 _ _ ((rd_T34 l0 x5_1).f0) _ _ ((rd_T34 l1 x5_1).f0) true _ ?side1 ?side2 ?side3 ?side4 A8.out).mono ?_);(case side1 => repeat (first | exact HR171_0.out | (with_reducible refine Kd.C_alloc ?_ _) | (with_reducible refine Kd.C_drewN ?_ _) | (with_reducible refine Kd.C_drew ?_)));(case side2 => exact HC171_0.out);(case side3 => repeat (first | exact HR172_0.out | (with_reducible refine Kd.C_alloc ?_ _) | (with_reducible refine Kd.C_drewN ?_ _) | (with_reducible refine Kd.C_drew ?_)));(case side4 => exact HC172_0.out);rintro e w' ⟨rfl,⟨nd,rfl⟩⟩;(try first | exact ⟨rfl,_,World.drewN_drewN _ _ _⟩ | exact ⟨rfl,_,Eq.trans (World.drewN_drewN _ _ _) (congrArg (World.drewN _) (Nat.add_assoc _ _ _))⟩)));try go_wp2_with (first | (go_at_call 22;(with_reducible refine (verdererref02_Equal.calls k1 _ _ ((rd_T34 l0 x5_1).f0) _ _ ((rd_T34 l1 x5_1).f0) true _ ?side1 ?side2 ?side3 ?side4 A8.out).mono ?_);(case side1 => repeat (first | exact HR171_0.out | (with_reducible refine Kd.C_alloc ?_ _) | (with_reducible refine Kd.C_drewN ?_ _) | (with_reducible refine Kd.C_drew ?_)));(case side2 => exact HC171_0.out);(case side3 => repeat (first | exact HR172_0.out | (with_reducible refine Kd.C_alloc ?_ _) | (with_reducible refine Kd.C_drewN ?_ _) | (with_reducible refine Kd.C_drew ?_)));(case side4 => exact HC172_0.out);rintro e w' ⟨rfl,⟨nd,rfl⟩⟩;(try first | exact ⟨rfl,_,World.drewN_drewN _ _ _⟩ | exact ⟨rfl,_,Eq.trans (World.drewN_drewN _ _ _) (congrArg (World.drewN _) (Nat.add_assoc _ _ _))⟩))))
                  go_roundg k1
                  case measure => have := HK1.out;omega
                  case rel => exact ⟨(wrap64 (x5_1 + 1)),(by first | rfl | (simp;done) | (simp [*];done)),H',⟨by have := HK1.out;omega⟩,by repeat (first | exact Drawn0.refl _ | apply Drawn0.step)⟩
                · replace c9 := Bool.eq_false_iff.mpr c9
                  subst c9
                  have H1 : (some false) = some r := by rw [if_neg (show ¬ (false = true) by decide)] at H;exact H
                  clear H
                  have H := H1
                  clear H1
                  obtain rfl := Option.some.inj H
                  have p169 : 0 ≤ (x5_1 : Int) := of_decide_eq_true (by first | (with_reducible assumption) | assumption)
                  have q169 : x5_1 < (l0.length : Int) := of_decide_eq_true (by first | (with_reducible assumption) | assumption)
                  obtain ⟨ad169,A169_0,c169_0,e169,hx169_0,hx169_1,hl169_0,hi169_0⟩ := at_T34 HR0.out x5_1 p169 q169
                  cases e169
                  have HR169_0 := Aside0.mk hi169_0
                  have HC169_0 := Aside0.mk hl169_0
                  clear hi169_0 hl169_0
                  replace p169 := eq_true p169
                  replace q169 := eq_true q169
                  have p170 : 0 ≤ (x5_1 : Int) := of_decide_eq_true (by first | (with_reducible assumption) | assumption)
                  have q170 : x5_1 < (l1.length : Int) := of_decide_eq_true (by first | (with_reducible assumption) | assumption)
                  obtain ⟨ad170,A170_0,c170_0,e170,hx170_0,hx170_1,hl170_0,hi170_0⟩ := at_T34 HR1.out x5_1 p170 q170
                  cases e170
                  have HR170_0 := Aside0.mk hi170_0
                  have HC170_0 := Aside0.mk hl170_0
                  clear hi170_0 hl170_0
                  replace p170 := eq_true p170
                  replace q170 := eq_true q170
                  have p171 : 0 ≤ (x5_1 : Int) := of_decide_eq_true (by first | (with_reducible assumption) | assumption)
                  have q171 : x5_1 < (l0.length : Int) := of_decide_eq_true (by first | (with_reducible assumption) | assumption)
                  obtain ⟨ad171,A171_0,c171_0,e171,hx171_0,hx171_1,hl171_0,hi171_0⟩ := at_T34 HR0.out x5_1 p171 q171
                  obtain rfl : ad169 = ad171 := (by injection e171)
                  have HR171_0 := Aside0.mk hi171_0
                  have HC171_0 := Aside0.mk hl171_0
                  clear hi171_0 hl171_0
                  replace p171 := eq_true p171
                  replace q171 := eq_true q171
                  have ea_ := Option.some.inj (hx169_0.symm.trans hx171_0)
                  injection ea_ with ea_ en_ ec_
                  subst ea_
                  subst ec_
                  clear en_
                  have p172 : 0 ≤ (x5_1 : Int) := of_decide_eq_true (by first | (with_reducible assumption) | assumption)
                  have q172 : x5_1 < (l1.length : Int) := of_decide_eq_true (by first | (with_reducible assumption) | assumption)
                  obtain ⟨ad172,A172_0,c172_0,e172,hx172_0,hx172_1,hl172_0,hi172_0⟩ := at_T34 HR1.out x5_1 p172 q172
                  obtain rfl : ad170 = ad172 := (by injection e172)
                  have HR172_0 := Aside0.mk hi172_0
                  have HC172_0 := Aside0.mk hl172_0
                  clear hi172_0 hl172_0
                  replace p172 := eq_true p172
                  replace q172 := eq_true q172
                  have ea_ := Option.some.inj (hx170_0.symm.trans hx172_0)
                  injection ea_ with ea_ en_ ec_
                  subst ea_
                  subst ec_
                  clear en_
                  go_wp2_with (first | (go_at_call 22;(with_reducible refine (verdererref02_Equal.calls k1 _ _ ((rd_T34 l0 x5_1).f0) _ _ ((rd_T34 l1 x5_1).f0) false _ ?side1 ?side2 ?side3 ?side4 A8.out).mono ?_);(case side1 => repeat (first | exact HR171_0.out | (with_reducible refine Kd.C_alloc ?_ _) | (with_reducible refine Kd.C_drewN ?_ _) | (with_reducible refine Kd.C_drew ?_)));(case side2 => exact HC171_0.out);(case side3 => repeat (first | exact HR172_0.out | (with_reducible refine Kd.C_alloc ?_ _) | (with_reducible refine Kd.C_drewN ?_ _) | (with_reducible refine Kd.C_drew ?_)));(case side4 => exact HC172_0.out);rintro e w' ⟨rfl,⟨nd,rfl⟩⟩;(try first | exact ⟨rfl,_,World.drewN_drewN _ _ _⟩ | exact ⟨rfl,_,Eq.trans (World.drewN_drewN _ _ _) (congrArg (World.drewN _) (Nat.add_assoc _ _ _))⟩)))
                  repeat (go_quiet (first | (go_at_call 22;(with_reducible refine (verdererref02_Equal.calls k1 _ _ ((rd_T34 l0 x5_1).f0) _ _ ((rd_T34 l1 x5_1).f0) false _ ?side1 ?side2 ?side3 ?side4 A8.out).mono ?_);(case side1 => repeat (first | exact HR171_0.out | (with_reducible refine Kd.C_alloc ?_ _) | (with_reducible refine Kd.C_drewN ?_ _) | (with_reducible refine Kd.C_drew ?_)));(case side2 => exact HC171_0.out);(case side3 => repeat (first | exact HR172_0.out | (with_reducible refine Kd.C_alloc ?_ _) | (with_reducible refine Kd.C_drewN ?_ _) | (with_reducible refine Kd.C_drew ?_)));(case side4 => exact HC172_0.out);rintro e w' ⟨rfl,⟨nd,rfl⟩⟩;(try first | exact ⟨rfl,_,World.drewN_drewN _ _ _⟩ | exact ⟨rfl,_,Eq.trans (World.drewN_drewN _ _ _) (congrArg (World.drewN _) (Nat.add_assoc _ _ _))⟩)));try go_wp2_with (first | (go_at_call 22;(with_reducible refine (verdererref02_Equal.calls k1 _ _ ((rd_T34 l0 x5_1).f0) _ _ ((rd_T34 l1 x5_1).f0) false _ ?side1 ?side2 ?side3 ?side4 A8.out).mono ?_);(case side1 => repeat (first | exact HR171_0.out | (with_reducible refine Kd.C_alloc ?_ _) | (with_reducible refine Kd.C_drewN ?_ _) | (with_reducible refine Kd.C_drew ?_)));(case side2 => exact HC171_0.out);(case side3 => repeat (first | exact HR172_0.out | (with_reducible refine Kd.C_alloc ?_ _) | (with_reducible refine Kd.C_drewN ?_ _) | (with_reducible refine Kd.C_drew ?_)));(case side4 => exact HC172_0.out);rintro e w' ⟨rfl,⟨nd,rfl⟩⟩;(try first | exact ⟨rfl,_,World.drewN_drewN _ _ _⟩ | exact ⟨rfl,_,Eq.trans (World.drewN_drewN _ _ _) (congrArg (World.drewN _) (Nat.add_assoc _ _ _))⟩))))
                  go_ret
                  exact ⟨by first | rfl | (simp;done) | (simp [*];done),by repeat (first | exact Drawn0.refl _ | apply Drawn0.step)⟩
              · rw [if_neg c7] at H
                have c7b0 : (((rd_T34 l0 x5_1).f1) == ((rd_T34 l1 x5_1).f1)) = false := beq_eq_false_iff_ne.mpr c7
                have c7b1 : (((rd_T34 l0 x5_1).f1) != ((rd_T34 l1 x5_1).f1)) = true := bne_iff_ne.mpr c7
                obtain rfl := Option.some.inj H
                have p169 : 0 ≤ (x5_1 : Int) := of_decide_eq_true (by first | (with_reducible assumption) | assumption)
                have q169 : x5_1 < (l0.length : Int) := of_decide_eq_true (by first | (with_reducible assumption) | assumption)
                obtain ⟨ad169,A169_0,c169_0,e169,hx169_0,hx169_1,hl169_0,hi169_0⟩ := at_T34 HR0.out x5_1 p169 q169
                cases e169
                have HR169_0 := Aside0.mk hi169_0
                have HC169_0 := Aside0.mk hl169_0
                clear hi169_0 hl169_0
                replace p169 := eq_true p169
                replace q169 := eq_true q169
                have p170 : 0 ≤ (x5_1 : Int) := of_decide_eq_true (by first | (with_reducible assumption) | assumption)
                have q170 : x5_1 < (l1.length : Int) := of_decide_eq_true (by first | (with_reducible assumption) | assumption)
                obtain ⟨ad170,A170_0,c170_0,e170,hx170_0,hx170_1,hl170_0,hi170_0⟩ := at_T34 HR1.out x5_1 p170 q170
                cases e170
                have HR170_0 := Aside0.mk hi170_0
                have HC170_0 := Aside0.mk hl170_0
                clear hi170_0 hl170_0
                replace p170 := eq_true p170
                replace q170 := eq_true q170
                go_wp2
                repeat (go_quiet (fail);try go_wp2)
                go_ret
                exact ⟨by first | rfl | (simp;done) | (simp [*];done),by repeat (first | exact Drawn0.refl _ | apply Drawn0.step)⟩
            · rw [if_neg c6] at H
              exact absurd H (by simp)
          · rw [if_neg c5] at H
            exact absurd H (by simp)
        · rw [if_neg c4] at H
          have c4b0 : decide (x5_1 < (l0.length : Int)) = false := decide_eq_false c4
          clear c4
          obtain rfl := Option.some.inj H
          go_wp2
          repeat (go_quiet (fail);try go_wp2)
          go_ret
          exact ⟨by first | rfl | (simp;done) | (simp [*];done),by repeat (first | exact Drawn0.refl _ | apply Drawn0.step)⟩
  · rw [if_neg c3] at H
    have c3b0 : ((l0.length : Int) == (l1.length : Int)) = false := beq_eq_false_iff_ne.mpr c3
    have c3b1 : ((l0.length : Int) != (l1.length : Int)) = true := bne_iff_ne.mpr c3
    have c3b2 : (l0.length == l1.length) = false := by first | simpa using c3 | (simp at c3 ⊢;omega)
    obtain rfl := Option.some.inj H
    go_enter Try.func31,Try.ntmps31
    go_wp2
    repeat (go_quiet (fail);try go_wp2)
    go_ret
    exact ⟨by first | rfl | (simp;done) | (simp [*];done),by repeat (first | exact Drawn0.refl _ | apply Drawn0.step)⟩
end Go.Proofs.Ythmbfcfomcaaaaa.Z
end
section
namespace Go.Proofs.Ythmbfcfomcaaaaa.Z
set_option linter.unusedVariables false
set_option linter.unusedSimpArgs false
open Go.RowKit Go.Proofs.YthmbfcfomcaaaaaW.PrintWords Go.Proofs.YthmbfcfomcaaaaaW.PrintLast Go.Proofs.YthmbfcfomcaaaaaW.PrintMore Go.Proofs.Ythmbfcfomcaaaaa.Cmp
theorem fromD_at {r : Rw} {L : List En} (h : SrtD L) : fromD r L = L[(loD r L).length]? := by
  obtain ⟨s1,s2⟩ := srt_split r h
  unfold fromD
  have e1 : L[(loD r L).length]? = (eqD r L ++ hiD r L)[0]? := by
    conv => lhs;rw [s1]
    have h2 : (loD r (loD r L ++ eqD r L ++ hiD r L)).length = (loD r L).length := by rw [← s1]
    rw [h2,List.append_assoc,List.getElem?_append_right (Nat.le_refl _),Nat.sub_self]
  have e2 : L.find? (fun x => !decide (rcmp x.f0 r < 0)) = (eqD r L ++ hiD r L).find? (fun x => !decide (rcmp x.f0 r < 0)) := by
    conv => lhs;rw [s1]
    rw [List.append_assoc,find_append,find_none' (a := loD r L) (fun y hy => by simp [(mem_lo hy).2])]
  rw [e1,e2]
  have hall : ∀ y ∈ eqD r L ++ hiD r L,(!decide (rcmp y.f0 r < 0)) = true := fun y hy => by
    have an := rcmp_anti y.f0 r
    rcases List.mem_append.1 hy with q | q
    · have := of_decide_eq_true (List.mem_filter.1 q).2
      simp;omega
    · have := (mem_hi q).2
      simp;omega
  cases hq : eqD r L ++ hiD r L with
  | nil => rfl
  | cons a b =>
    rw [hq] at hall
    rw [List.find?_cons,hall a (by simp)]
    rfl
set_option maxHeartbeats 4000000 in
set_option maxRecDepth 100000 in
theorem ref_from {D : Nat → Prop} (g : Nat) (A1 : Option Addr) (c1 : Nat) (L : List En) (A : Option Addr) (c : Nat) (r : Rw) (w : World) (h : RefV w g A1 c1 L D) (hs : SrtD L) (hk : OkD L) (hr : RowC w A c r) (hl : L.length ≤ 1000000) :
    Calls Try.prog 21 #[.pointer (some ⟨g,0,none⟩),.slice A r.length c] w fun e w' => ∃ A' c',e = .returned (.tuple #[.slice A' (rowOf (fromD r L)).length c',.int .i64 (codeOf (fromD r L))]) ∧ RowC w' A' c' (rowOf (fromD r L)) ∧ Below w.heap.size w w' := by
  have HV := Aside0.mk h
  have FN := Aside0.mk (ref_find g A1 c1 L A c r w h hs hk hr hl)
  have FA := Aside0.mk (fromD_at (r := r) hs)
  obtain ⟨n,hn⟩ : ∃ n,L.length = n := ⟨_,rfl⟩
  obtain ⟨m,hm⟩ : ∃ m,(loD r L).length = m := ⟨_,rfl⟩
  have LN := Aside0.mk hn
  have g0 := (blk_cell h.blk 0).trans rfl
  rw [hn] at g0
  rw [hm] at FN FA
  have mn : m ≤ n := by have := lo_len r hs;omega
  obtain ⟨ob,hob⟩ : ∃ ob,(fndD r L).isSome = ob := ⟨_,rfl⟩
  rw [hob] at FN
  obtain ⟨o,ho⟩ : ∃ o,fromD r L = o := ⟨_,rfl⟩
  rw [ho] at FA ⊢
  clear h hs hk hr hm hn hob ho
  by_cases hmn : m < n
  · obtain ⟨x,hx⟩ : ∃ x,L[m]? = some x := ⟨L[m]'(by have := LN.out;omega),List.getElem?_eq_getElem _⟩
    obtain rfl : some x = o := by rw [FA.out,hx]
    have p0 : (0 : Int) ≤ (m : Int) := by omega
    have p1 : (m : Int) < (n : Int) := by omega
    have q1 : decide ((n : Int) ≤ (m : Int)) = false := decide_eq_false (by omega)
    obtain ⟨ad,A0,c0,e1,x0,x1,hxc,_,_⟩ := HV.out.get (by have := LN.out;omega) hx
    have XC := Aside0.mk hxc
    subst e1
    clear hx x1 hxc
    simp only [rowOf,codeOf]
    go_enter Try.func21,Try.ntmps21
    go_wp2_with (fail)
    refine FN.out.mono ?_
    rintro e w1 ⟨rfl,hb⟩
    have HB := Aside0.mk hb
    replace g0 := (hb.cell (World.block_lt_of_cell? w _ g0)).trans g0
    replace x0 := (hb.cell (World.block_lt_of_cell? w _ x0)).trans x0
    clear hb FN
    go_wp2_with (fail)
    go_ret2
    exact ⟨_,_,rfl,XC.out.below HB.out,HB.out⟩
  · have hme : m = n := by omega
    obtain rfl : none = o := by rw [FA.out,List.getElem?_eq_none (by have := LN.out;omega)]
    have q1 : decide ((n : Int) ≤ (m : Int)) = true := decide_eq_true (by omega)
    have q2 : n ≤ m := by omega
    simp only [rowOf,codeOf]
    go_enter Try.func21,Try.ntmps21
    go_wp2_with (fail)
    refine FN.out.mono ?_
    rintro e w1 ⟨rfl,hb⟩
    have HB := Aside0.mk hb
    replace g0 := (hb.cell (World.block_lt_of_cell? w _ g0)).trans g0
    clear hb FN
    go_wp2_with (fail)
    go_ret2
    exact ⟨_,_,rfl,⟨Nat.le_refl 0,⟨rfl,by simp,fun h => absurd h (Nat.lt_irrefl 0)⟩⟩,HB.out⟩
structure EnsC (w : World) (A : Option Addr) (c : Nat) (L : List En) : Prop where
  cap : L.length ≤ c
  row : Kd.C k34 w A L.length L
theorem EnsC.below {w w1 : World} {A : Option Addr} {c : Nat} {L : List En} (h : EnsC w A c L) (hb : Below w.heap.size w w1) : EnsC w1 A c L := ⟨h.cap,Kd.C_below h.row hb⟩
theorem rd_at (xs : List En) (i : Nat) : rd_T34 xs (i : Int) = xs.getD i z34 := rfl
theorem equal_at (A0 A1 : Option Addr) (c0 c1 : Nat) (l : Rw) (w : World) (h0 : RowC w A0 c0 l) (h1 : RowC w A1 c1 l) :
    Calls Try.prog 22 #[.slice A0 l.length c0,.slice A1 l.length c1] w fun e w' => e = .returned (.bool true) ∧ Drawn0 w w' :=
  verdererref02_Equal.calls (l.length + 1) A0 c0 l A1 c1 l true w h0.row h0.cap h1.row h1.cap (equal_self l h0.max (l.length + 1) (by omega))
end Go.Proofs.Ythmbfcfomcaaaaa.Z
end
section
namespace Go.Proofs.Ythmbfcfomcaaaaa.Z
set_option linter.unusedVariables false
set_option linter.unusedSimpArgs false
open Go.RowKit Go.Proofs.YthmbfcfomcaaaaaW.PrintWords Go.Proofs.YthmbfcfomcaaaaaW.PrintLast Go.Proofs.YthmbfcfomcaaaaaW.PrintMore Go.Proofs.Ythmbfcfomcaaaaa.Cmp
structure SameW (w w' : World) : Prop where
  heap : w'.heap = w.heap
  os : w'.os = w.os
  tape : w'.tape = w.tape
  output : w'.output = w.output
structure NextW (N : Nat) (w w' : World) : Prop where
  below : Below N w w'
  le : N ≤ w'.heap.size
theorem NextW.refl (w : World) : NextW w.heap.size w w := ⟨Below.refl _ _,Nat.le_refl _⟩
theorem NextW.next {N : Nat} {w w1 w2 W : World} (h : NextW N w w1) (hb : Below W.heap.size W w2) (e : SameW w1 W := by exact ⟨rfl,rfl,rfl,rfl⟩) : NextW N w w2 := by
  have h1 : Below N w W := ⟨e.os.trans h.below.os,e.tape.trans h.below.tape,e.output.trans h.below.output,by rw [e.heap];exact h.below.size,fun k hk => by rw [e.heap];exact h.below.block k hk⟩
  have hs : N ≤ W.heap.size := by rw [e.heap];exact h.le
  exact ⟨h1.trans (hb.mono hs),Nat.le_trans hs hb.size⟩
theorem NextW.nextN {N : Nat} {w w1 w2 W : World} (h : NextW N w w1) (hb : Below N W w2) (e : SameW w1 W := by exact ⟨rfl,rfl,rfl,rfl⟩) : NextW N w w2 := by
  have h1 : Below N w W := ⟨e.os.trans h.below.os,e.tape.trans h.below.tape,e.output.trans h.below.output,by rw [e.heap];exact h.below.size,fun k hk => by rw [e.heap];exact h.below.block k hk⟩
  have hs : N ≤ W.heap.size := by rw [e.heap];exact h.le
  exact ⟨h1.trans hb,Nat.le_trans hs hb.size⟩
theorem NextW.at_ {N : Nat} {w w1 W : World} (h : NextW N w w1) (e : SameW w1 W := by exact ⟨rfl,rfl,rfl,rfl⟩) : Below N w W :=
  ⟨e.os.trans h.below.os,e.tape.trans h.below.tape,e.output.trans h.below.output,by rw [e.heap];exact h.below.size,fun k hk => by rw [e.heap];exact h.below.block k hk⟩
theorem SameW.below {w W : World} (e : SameW w W) (N : Nat) : Below N w W := ⟨e.os,e.tape,e.output,by rw [e.heap];exact Nat.le_refl _,fun k _ => by rw [e.heap]⟩
theorem SameW.refl (w : World) : SameW w w := ⟨rfl,rfl,rfl,rfl⟩
theorem SameW.drew (w : World) : SameW w w.drew := ⟨rfl,rfl,rfl,rfl⟩
theorem SameW.drewN (w : World) (n : Nat) : SameW w (w.drewN n) := ⟨rfl,rfl,rfl,rfl⟩
theorem alike_l0 (L : List En) (hm : ∀ x ∈ L,x.f0.length ≤ 1000000) (hl : L.length ≤ 1000000) : ∀ d i k,L.length - i = d → i ≤ L.length → d + 1000001 < k → verdererref05_Alike.l0 k L L (i : Int) = some true := by
  intro d
  induction d with
  | zero =>
    intro i k hd hi hk
    obtain ⟨k,rfl⟩ : ∃ m,k = m + 1 := ⟨k - 1,by omega⟩
    simp only [verdererref05_Alike.l0]
    rw [if_neg (by omega)]
  | succ d ih =>
    intro i k hd hi hk
    obtain ⟨k,rfl⟩ : ∃ m,k = m + 1 := ⟨k - 1,by omega⟩
    simp only [verdererref05_Alike.l0]
    have h1 : (rd_T34 L (i : Int)).f0.length ≤ 1000000 := by
      rw [rd_at]
      have e : L.getD i z34 = L[i]'(by omega) := by simp [List.getD,List.getElem?_eq_getElem (show i < L.length by omega)]
      rw [e]
      exact hm _ (List.getElem_mem _)
    rw [if_pos (by omega),if_pos (by omega),if_pos (by omega),if_pos trivial,equal_self _ (by omega) k (by omega),Option.bind_some,if_pos rfl,show wrap64 ((i : Int) + 1) = ((i + 1 : Nat) : Int) by unfold wrap64;omega]
    exact ih (i + 1) k (by omega) (by omega) (by omega)
theorem OkD.len {L : List En} (h : OkD L) : ∀ x ∈ L,x.f0.length ≤ 1000000 := fun x hx => by have := right_len (h x hx).1;omega
theorem alike_at (A0 A1 : Option Addr) (n c0 c1 : Nat) (L : List En) (w : World) (h0 : Kd.C k34 w A0 n L) (h1 : Kd.C k34 w A1 n L) (hc0 : n ≤ c0) (hc1 : n ≤ c1) (hk : OkD L) (hl : n ≤ 1000000) :
    Calls Try.prog 31 #[.slice A0 n c0,.slice A1 n c1] w fun e w' => e = .returned (.bool true) ∧ Below w.heap.size w w' := by
  have e : L.length = n := h0.1
  subst e
  refine (verdererref05_Alike.calls (L.length + 2000000) A0 c0 L A1 c1 L true w h0 hc0 h1 hc1 ?_).mono ?_
  · unfold verdererref05_Alike.f
    rw [if_pos rfl]
    exact alike_l0 L hk.len hl L.length 0 _ (by omega) (by omega) (by omega)
  · rintro e w' ⟨rfl,hd⟩
    exact ⟨rfl,hd.below⟩
structure Two (N : Nat) (w : World) (b : Nat) (t : Tr) (D : Nat → Prop) (g : Nat) (A : Option Addr) (c : Nat) (L : List En) (E : Nat → Prop) : Prop where
  bag : BagAt w b t D
  ref : RefV w g A c L E
  own : ∀ k,BagOwn b t D k → N ≤ k ∧ k ≠ g ∧ ¬ E k
  g_le : N ≤ g
  e_le : ∀ k,E k → N ≤ k
theorem BagAt.own_lt {w : World} {b : Nat} {t : Tr} {D : Nat → Prop} (h : BagAt w b t D) : ∀ k,BagOwn b t D k → k < w.heap.size := fun k hk => by
  rcases hk with rfl | q | q
  · exact h.lt.1
  · exact h.lt.2.1 k q
  · exact h.lt.2.2 k q
theorem RefV.g_lt {w : World} {g : Nat} {A : Option Addr} {c : Nat} {L : List En} {E : Nat → Prop} (h : RefV w g A c L E) : g < w.heap.size := blk_lt h.blk
theorem Two.below {N : Nat} {w w1 : World} {b : Nat} {t : Tr} {D : Nat → Prop} {g : Nat} {A : Option Addr} {c : Nat} {L : List En} {E : Nat → Prop} (h : Two N w b t D g A c L E) (hb : Below w.heap.size w w1) : Two N w1 b t D g A c L E :=
  ⟨h.bag.below hb,h.ref.below hb,h.own,h.g_le,h.e_le⟩
theorem Two.heap {N : Nat} {w w1 : World} {b : Nat} {t : Tr} {D : Nat → Prop} {g : Nat} {A : Option Addr} {c : Nat} {L : List En} {E : Nat → Prop} (h : Two N w b t D g A c L E) (e : SameW w w1 := by exact ⟨rfl,rfl,rfl,rfl⟩) : Two N w1 b t D g A c L E :=
  h.below ⟨e.os,e.tape,e.output,by rw [e.heap];exact Nat.le_refl _,fun k _ => by rw [e.heap]⟩
theorem Two.bagged {N : Nat} {w w1 : World} {b : Nat} {t t' : Tr} {D D' : Nat → Prop} {g : Nat} {A : Option Addr} {c : Nat} {L : List En} {E : Nat → Prop} (h : Two N w b t D g A c L E) (hN : N ≤ w.heap.size) (ha : BagAt w1 b t' D') (hc : BagCh w w1 b t t' D D') : Two N w1 b t' D' g A c L E ∧ Below N w w1 := by
  have hg := h.ref.g_lt
  refine ⟨⟨ha,h.ref.keep hc.ch (fun s => (h.own g (s.elim .inl (fun q => .inr (.inl q)))).2.1 rfl) (fun k hk s => (h.own k (s.elim .inl (fun q => .inr (.inl q)))).2.2 hk),fun k hk => ?_,h.g_le,h.e_le⟩,hc.ch.toBelow hN (fun k s => (h.own k (s.elim .inl (fun q => .inr (.inl q)))).1)⟩
  rcases hc.own k hk with q | q
  · exact h.own k q
  · exact ⟨by omega,by omega,fun he => by have := h.ref.lt k he;omega⟩
theorem Two.reffed {N : Nat} {w w1 : World} {b : Nat} {t : Tr} {D : Nat → Prop} {g : Nat} {A A' : Option Addr} {c c' : Nat} {L L' : List En} {E E' : Nat → Prop} (h : Two N w b t D g A c L E) (hN : N ≤ w.heap.size) (ha : RefV w1 g A' c' L' E') (hc : RefCh w w1 g E E') : Two N w1 b t D g A' c' L' E' ∧ Below N w w1 := by
  have hch := hc.ch
  refine ⟨⟨h.bag.keep hch (fun k s => fun hk => (h.own k hk).2.1 s),ha,fun k hk => ⟨(h.own k hk).1,(h.own k hk).2.1,fun he => ?_⟩,h.g_le,fun k hk => ?_⟩,hch.toBelow hN (fun k s => by subst s;exact h.g_le)⟩
  · rcases hc.dat k he with q | q
    · exact (h.own k hk).2.2 q
    · have := h.bag.own_lt k hk;omega
  · rcases hc.dat k hk with q | q
    · exact h.e_le k q
    · omega
set_option maxHeartbeats 4000000 in
set_option maxRecDepth 100000 in
theorem same_at {D E : Nat → Prop} (b : Nat) (t : Tr) (g : Nat) (A : Option Addr) (c : Nat) (L : List En) (w : World) (h : BagAt w b t D) (hr : RefV w g A c L E) (hd : docT t = L) (hl : L.length ≤ 1000000) :
    Calls Try.prog 23 #[.pointer (some ⟨b,0,none⟩),.pointer (some ⟨g,0,none⟩)] w fun e w' => e = .returned (.bool true) ∧ Below w.heap.size w w' := by
  have HA := Aside0.mk h
  have HV := Aside0.mk hr
  have HD := Aside0.mk hd
  have BL := Aside0.mk (fun w' (hb : NextW w.heap.size w w') => bag_len b t w' (HA.out.below hb.below))
  have BR := Aside0.mk (fun w' (hb : NextW w.heap.size w w') => bag_rows b t w' (HA.out.below hb.below) (by rw [← doc_len,HD.out];exact hl))
  have AL := Aside0.mk (fun w' w3 A0 c0 (hC : Kd.C k34 w3 A0 L.length L) (hc : L.length ≤ c0) (hb : NextW w.heap.size w w3) (e : SameW w3 w') => alike_at A0 A L.length c0 c L w' (Kd.C_below hC (e.below _)) (Kd.F_now ((HV.out.below (hb.below.trans (e.below _))).row)) hc HV.out.cap (by have := HA.out.ok;rw [HD.out] at this;exact this) hl)
  rw [hd] at BL
  have LN := Aside0.mk (show (docT t).length = L.length by rw [hd])
  have I1 := Aside0.mk (NextW.refl w)
  have g0 := (blk_cell hr.blk 0).trans rfl
  obtain ⟨n,hn⟩ : ∃ n,L.length = n := ⟨_,rfl⟩
  rw [hn] at g0 AL BL LN
  clear h hr hd hl hn
  go_enter Try.func23,Try.ntmps23
  go_wp2_with (fail)
  go_region_held3 (fun w' => w'.cell? ⟨g,0,none⟩ = some (.slice A n c)) (first | go_keep | assumption) (first
    | (go_at_call 33;(with_reducible refine (BL.out _ ?_).mono ?_);exact ⟨I1.out.at_,I1.out.le⟩;rintro e w2 ⟨rfl,hw⟩;subst hw)
    | (go_at_call 34;(with_reducible refine (BR.out _ ?_).mono ?_);exact ⟨I1.out.at_,I1.out.le⟩;rintro e w3 ⟨v,rfl,hv,hb⟩;replace g0 := (hb.cell (World.block_lt_of_cell? _ _ g0)).trans g0;have HV3 := Aside0.mk hv;have I3 := Aside0.mk (I1.out.next hb);obtain ⟨A3,c3,e3⟩ := Kd.R_slice hv;have CP3 := Aside0.mk (show n ≤ c3 by subst e3;have := (Kd.R_reads' hv).2.1;rw [LN.out] at this;exact this);have HC3 := Aside0.mk (show Kd.C k34 w3 A3 n L by subst e3;have := (Kd.R_reads' hv).2.2;rw [LN.out,HD.out] at this;exact this);clear hv hb;rw [LN.out] at e3;subst e3)
    | (go_at_call 31;(with_reducible refine (AL.out _ w3 A3 c3 HC3.out CP3.out I3.out ?_).mono ?_);exact ⟨rfl,rfl,rfl,rfl⟩;rintro e w4 ⟨rfl,hb⟩;replace g0 := (hb.cell (World.block_lt_of_cell? _ _ g0)).trans g0;have I4 := Aside0.mk (I3.out.next hb);clear hb))
  all_goals (go_wp2_with (fail);go_ret;exact ⟨rfl,I4.out.at_⟩)
end Go.Proofs.Ythmbfcfomcaaaaa.Z
end
section
namespace Go.Proofs.Ythmbfcfomcaaaaa.Z
set_option linter.unusedVariables false
set_option linter.unusedSimpArgs false
open Go.RowKit Go.Proofs.YthmbfcfomcaaaaaW.PrintWords Go.Proofs.YthmbfcfomcaaaaaW.PrintLast Go.Proofs.YthmbfcfomcaaaaaW.PrintMore Go.Proofs.Ythmbfcfomcaaaaa.Cmp
theorem row_one {w : World} {g q : Nat} {x : S66} (h : w.heap[g]? = some (.cells #[.int .i64 x.f0,.bool x.f1,.int .i64 x.f2,.string x.f3] q (0,0))) : RowC w (some ⟨g,0,none⟩) 1 [x] :=
  ⟨Nat.le_refl 1,rfl,by simp,fun _ => ⟨_,rfl,fun j p hj => by
    cases j with
    | succ j => simp at hj
    | zero =>
      simp only [List.getElem?_cons_zero,Option.some.injEq] at hj
      subst hj
      refine ⟨_,rfl,k66_mk w x,fun i u hi => ?_⟩
      rw [Nat.zero_mul,Nat.zero_add,add_plain]
      have h1 := blk_cell h i
      rw [h1,← hi]
      simp⟩⟩
def knV (n : Int) : S66 := ⟨2,false,n,⟨#[]⟩⟩
theorem kn1 : addD [knV 1] 2 [] = (0,[⟨[knV 1],2⟩]) := by kernel_rfl
theorem kn2 : addD [knV 2] 1 [⟨[knV 1],2⟩] = (0,[⟨[knV 1],2⟩,⟨[knV 2],1⟩]) := by kernel_rfl
theorem kn3 : addD [knV 1] (-2) [⟨[knV 1],2⟩,⟨[knV 2],1⟩] = (0,[⟨[knV 2],1⟩]) := by kernel_rfl
theorem kn4 : manyD [knV 2] [⟨[knV 2],1⟩] = 1 := by decide +kernel
theorem kn5 : manyD [knV 1] [⟨[knV 2],1⟩] = 0 := by decide +kernel
structure One (N : Nat) (w : World) (b : Nat) (t : Tr) (D : Nat → Prop) : Prop where
  bag : BagAt w b t D
  own : ∀ k,BagOwn b t D k → N ≤ k
theorem One.below {N : Nat} {w w1 : World} {b : Nat} {t : Tr} {D : Nat → Prop} (h : One N w b t D) (hb : Below w.heap.size w w1) : One N w1 b t D := ⟨h.bag.below hb,h.own⟩
theorem One.bagged {N : Nat} {w w1 : World} {b : Nat} {t t' : Tr} {D D' : Nat → Prop} (h : One N w b t D) (hN : N ≤ w.heap.size) (ha : BagAt w1 b t' D') (hc : BagCh w w1 b t t' D D') : One N w1 b t' D' ∧ Below N w w1 :=
  ⟨⟨ha,fun k hk => (hc.own k hk).elim (h.own k) (fun q => by omega)⟩,hc.ch.toBelow hN (fun k s => h.own k (s.elim .inl (fun q => .inr (.inl q))))⟩
theorem bag_new1 (w : World) : Calls Try.prog 15 #[] w fun e w' => ∃ b,e = .returned (.pointer (some ⟨b,0,none⟩)) ∧ One w.heap.size w' b .nil (fun _ => False) ∧ Below w.heap.size w w' := by
  refine (bag_new w).mono ?_
  rintro e w1 ⟨rfl,hA,hb⟩
  exact ⟨_,rfl,⟨hA,fun k hk => by rcases hk with rfl | q | q <;> first | exact Nat.le_refl _ | (simp [Tr.ids_nil] at q) | exact q.elim⟩,hb⟩
def Off (w w' : World) (o o' : Nat → Prop) : Prop := ∀ k,k < w.heap.size → ¬ o k → w'.heap[k]? = w.heap[k]? ∧ ¬ o' k
theorem BagCh.off {w w' : World} {b : Nat} {t t' : Tr} {D D' : Nat → Prop} (h : BagCh w w' b t t' D D') : Off w w' (BagOwn b t D) (BagOwn b t' D') := fun k hk hn =>
  ⟨h.ch.block k hk (fun s => hn (s.elim .inl (fun q => .inr (.inl q)))),fun ho => (h.own k ho).elim hn (fun q => by omega)⟩
structure Lit (w : World) (o : Nat → Prop) (g : Nat) (x : S66) : Prop where
  blk : w.heap[g]? = some (.cells #[.int .i64 x.f0,.bool x.f1,.int .i64 x.f2,.string x.f3] 66 (0,0))
  off : ¬ o g
theorem Lit.step {w w' : World} {o o' : Nat → Prop} {g : Nat} {x : S66} (h : Lit w o g x) (k : Off w w' o o') : Lit w' o' g x := ⟨(k g (blk_lt h.blk) h.off).1.trans h.blk,(k g (blk_lt h.blk) h.off).2⟩
theorem Lit.below {w w' : World} {o : Nat → Prop} {g : Nat} {x : S66} (h : Lit w o g x) (k : Below w.heap.size w w') : Lit w' o g x := ⟨(k.block g (blk_lt h.blk)).trans h.blk,h.off⟩
theorem Lit.row {w : World} {o : Nat → Prop} {g : Nat} {x : S66} (h : Lit w o g x) : RowC w (some ⟨g,0,none⟩) 1 [x] := row_one h.blk
theorem add1 {N : Nat} {D : Nat → Prop} {b : Nat} {t : Tr} {A : Option Addr} {c : Nat} {r : Rw} (m : Int) {w : World} {L L' : List En} {q : Int} (h : One N w b t D) (hN : N ≤ w.heap.size) (hr : RowC w A c r) (hd : docT t = L) (hs : L.length ≤ 1000000) (ha : addD r m L = (q,L')) :
    Calls Try.prog 16 #[.pointer (some ⟨b,0,none⟩),.slice A r.length c,.int .i64 m] w fun e w' => ∃ t' D',e = .returned (.int .i64 q) ∧ docT t' = L' ∧ One N w' b t' D' ∧ Below N w w' ∧ Off w w' (BagOwn b t D) (BagOwn b t' D') := by
  refine (bag_add b t A c r m w h.bag hr (by rw [← doc_len,hd];omega)).mono ?_
  rintro e w1 ⟨t',D',rfl,h2,h3,h4⟩
  rw [hd,ha] at h2 ⊢
  obtain ⟨i1,i2⟩ := h.bagged hN h3 h4
  exact ⟨t',D',rfl,h2,i1,i2,h4.off⟩
theorem many1 {N : Nat} {D : Nat → Prop} {b : Nat} {t : Tr} {A : Option Addr} {c : Nat} {r : Rw} {w : World} {L : List En} {q : Int} (h : One N w b t D) (hr : RowC w A c r) (hd : docT t = L) (ha : manyD r L = q) :
    Calls Try.prog 18 #[.pointer (some ⟨b,0,none⟩),.slice A r.length c] w fun e w' => e = .returned (.int .i64 q) ∧ Below w.heap.size w w' := by
  have h1 := bag_many b t A c r w h.bag hr
  rw [hd,ha] at h1
  exact h1
set_option maxHeartbeats 4000000 in
set_option maxRecDepth 100000 in
theorem known_at (w : World) : Calls Try.prog 14 #[] w fun e w' => e = .returned (.bool true) ∧ Below w.heap.size w w' := by
  go_enter Try.func14,Try.ntmps14
  go_wp2_with (fail)
  refine (bag_new1 w).mono ?_
  rintro e w1 ⟨b,rfl,hA,hb⟩
  have I1 := Aside0.mk ((NextW.refl w).next hb)
  have HA := Aside0.mk hA
  clear hA hb
  go_upto_region 4 with (fail)
  have B2 : Below w1.heap.size w1 (w1.alloc (Obj.cells #[.int .i64 2,.bool false,.int .i64 1,.string ⟨#[]⟩] 66)) := below_alloc (Below.refl w1.heap.size w1) _
  have I2 := Aside0.mk (I1.out.next B2)
  have R2 := Aside0.mk (show Lit (w1.alloc (Obj.cells #[.int .i64 2,.bool false,.int .i64 1,.string ⟨#[]⟩] 66)) (BagOwn b .nil fun _ => False) w1.heap.size (knV 1) from ⟨blk_new w1 _,fun ho => absurd (HA.out.bag.own_lt _ ho) (Nat.lt_irrefl _)⟩)
  have HA2 := Aside0.mk (HA.out.below B2)
  have E2 : (w1.alloc (Obj.cells #[.int .i64 2,.bool false,.int .i64 1,.string ⟨#[]⟩] 66)).heap.size = w1.heap.size + 1 := Array.size_push _
  obtain ⟨x1,hx1⟩ : ∃ x1,w1.heap.size = x1 := ⟨_,rfl⟩
  rw [hx1] at R2 E2 ⊢
  clear hx1 I1 HA B2
  generalize w1.alloc (Obj.cells #[.int .i64 2,.bool false,.int .i64 1,.string ⟨#[]⟩] 66) = w2 at *
  have B3 : Below w2.heap.size w2 (w2.alloc (Obj.cells #[.int .i64 2,.bool false,.int .i64 2,.string ⟨#[]⟩] 66)) := below_alloc (Below.refl w2.heap.size w2) _
  have I3 := Aside0.mk (I2.out.next B3)
  have S3 := Aside0.mk (show Lit (w2.alloc (Obj.cells #[.int .i64 2,.bool false,.int .i64 2,.string ⟨#[]⟩] 66)) (BagOwn b .nil fun _ => False) w2.heap.size (knV 2) from ⟨blk_new w2 _,fun ho => absurd (HA2.out.bag.own_lt _ ho) (Nat.lt_irrefl _)⟩)
  have HA3 := Aside0.mk (HA2.out.below B3)
  have R3 := Aside0.mk (R2.out.below B3)
  rw [← E2]
  obtain ⟨x2,hx2⟩ : ∃ x2,w2.heap.size = x2 := ⟨_,rfl⟩
  rw [hx2] at S3 ⊢
  clear hx2 E2 I2 HA2 R2 B3
  generalize w2.alloc (Obj.cells #[.int .i64 2,.bool false,.int .i64 2,.string ⟨#[]⟩] 66) = w3 at *
  go_wp2_with (fail)
  refine (add1 2 HA3.out I3.out.le R3.out.row rfl (by decide) kn1).mono ?_
  rintro e w4 ⟨t4,D4,rfl,hd,hA,hb,ho⟩
  have E4 := Aside0.mk hd
  have HA4 := Aside0.mk hA
  have R4 := Aside0.mk (R3.out.step ho)
  have S4 := Aside0.mk (S3.out.step ho)
  have I4 := Aside0.mk (I3.out.nextN hb)
  clear hd hA hb ho HA3 R3 S3 I3
  go_wp2_with (fail)
  refine (add1 1 HA4.out I4.out.le S4.out.row E4.out (by decide) kn2).mono ?_
  rintro e w5 ⟨t5,D5,rfl,hd,hA,hb,ho⟩
  have E5 := Aside0.mk hd
  have HA5 := Aside0.mk hA
  have R5 := Aside0.mk (R4.out.step ho)
  have S5 := Aside0.mk (S4.out.step ho)
  have I5 := Aside0.mk (I4.out.nextN hb)
  clear hd hA hb ho HA4 R4 S4 I4 E4
  go_wp2_with (fail)
  refine (add1 (-2) HA5.out I5.out.le R5.out.row E5.out (by decide) kn3).mono ?_
  rintro e w6 ⟨t6,D6,rfl,hd,hA,hb,ho⟩
  have E6 := Aside0.mk hd
  have HA6 := Aside0.mk hA
  have R6 := Aside0.mk (R5.out.step ho)
  have S6 := Aside0.mk (S5.out.step ho)
  have I6 := Aside0.mk (I5.out.nextN hb)
  clear hd hA hb ho HA5 R5 S5 I5 E5
  go_wp2_with (fail)
  have LS := Aside0.mk (bag_least b t6 w6 HA6.out.bag)
  rw [E6.out] at LS
  simp only [List.head?_cons,codeOf,rowOf] at LS
  refine LS.out.mono ?_
  rintro e w7 ⟨v7,rfl,hv,hb⟩
  have HA7 := Aside0.mk (HA6.out.below hb)
  have R7 := Aside0.mk (R6.out.below hb)
  have S7 := Aside0.mk (S6.out.below hb)
  have I7 := Aside0.mk (I6.out.next hb)
  obtain ⟨A7,c7,e7⟩ := Kd.R_slice hv
  have C7 := Aside0.mk (show RowC w7 A7 c7 [knV 2] by subst e7;exact ⟨(Kd.R_reads' hv).2.1,(Kd.R_reads' hv).2.2⟩)
  clear hv hb HA6 R6 S6 I6 LS
  subst e7
  simp only [List.length_cons,List.length_nil,Nat.zero_add]
  go_wp2_with (fail)
  have LN := Aside0.mk (bag_len b t6 w7 HA7.out.bag)
  rw [E6.out] at LN
  refine LN.out.mono ?_
  rintro e w7' ⟨rfl,rfl⟩
  clear LN
  simp only [List.length_cons,List.length_nil,Nat.zero_add]
  go_wp2_with (fail)
  refine (many1 HA7.out S7.out.row E6.out kn4).mono ?_
  rintro e w8 ⟨rfl,hb⟩
  have HA8 := Aside0.mk (HA7.out.below hb)
  have R8 := Aside0.mk (R7.out.below hb)
  have S8 := Aside0.mk (S7.out.below hb)
  have I8 := Aside0.mk (I7.out.next hb)
  have C8 := Aside0.mk (C7.out.below hb)
  clear hb HA7 R7 S7 I7 C7
  go_wp2_with (fail)
  refine (many1 HA8.out R8.out.row E6.out kn5).mono ?_
  rintro e w9 ⟨rfl,hb⟩
  have S9 := Aside0.mk (S8.out.below hb)
  have I9 := Aside0.mk (I8.out.next hb)
  have C9 := Aside0.mk (C8.out.below hb)
  clear hb HA8 R8 S8 I8 C8
  go_wp2_with (fail)
  refine (equal_at _ _ _ _ [knV 2] w9 C9.out S9.out.row).mono ?_
  rintro e w10 ⟨rfl,hd⟩
  have I10 := Aside0.mk (I9.out.next hd.below)
  clear hd C9 S9 I9
  go_wp2_with (fail)
  go_ret
  exact ⟨rfl,I10.out.at_⟩
end Go.Proofs.Ythmbfcfomcaaaaa.Z
end
section
namespace Go.Proofs.Ythmbfcfomcaaaaa.Z
open Go.RowKit Go.Proofs.YthmbfcfomcaaaaaW.PrintWords Go.Proofs.YthmbfcfomcaaaaaW.PrintLast Go.Proofs.YthmbfcfomcaaaaaW.PrintMore
attribute [local go_sem] max2_int min2_int max_two min_two max_three min_three max_four min_four
set_option linter.unusedVariables false
set_option linter.unusedSimpArgs false
def verdererlaw05_few.l0 : Nat → List (S34) → Int → Option (Bool)
  | 0,_,_ => none
  | k + 1,x0,x3 => if x3 < (x0.length : Int) then (if 0 ≤ x3 then (if (((rd_T34 x0 x3).f0).length : Int) > 50 then (some false) else (verdererlaw05_few.l0 k x0 (wrap64 (x3 + 1)))) else (none)) else (some true)
def verdererlaw05_few.f (k : Nat) (l0 : List (S34)) : Option (Bool) := if (l0.length : Int) > 120 then (some false) else (verdererlaw05_few.l0 k l0 0)
theorem verdererlaw05_few.mono_l : ∀ k,(∀ y0 y1,LeO (verdererlaw05_few.l0 k y0 y1) (verdererlaw05_few.l0 (k + 1) y0 y1))
  | 0 => fun _ _ r h => by simp [verdererlaw05_few.l0] at h
  | k + 1 => by
    have ih0 := verdererlaw05_few.mono_l k
    · intro y0 y1
      unfold verdererlaw05_few.l0
      repeat' first
      | (with_reducible exact ih0 _ _)
      | (with_reducible exact LeO.refl _)
      | (with_reducible exact LeO.none _)
      | (with_reducible refine LeO.ite ?_ ?_)
      | (with_reducible refine LeO.bind ?_ (fun _ => ?_))
      | exact ih0 _ _
      | exact LeO.none _
      | refine LeO.ite ?_ ?_
      | refine LeO.bind ?_ (fun _ => ?_)
theorem verdererlaw05_few.mono : ∀ a0 k,LeO (verdererlaw05_few.f k a0) (verdererlaw05_few.f (k + 1) a0) := by
  intro a0 k
  have ih0 := verdererlaw05_few.mono_l k
  unfold verdererlaw05_few.f
  repeat' first
      | (with_reducible exact ih0 _ _)
      | (with_reducible exact LeO.refl _)
      | (with_reducible exact LeO.none _)
      | (with_reducible refine LeO.ite ?_ ?_)
      | (with_reducible refine LeO.bind ?_ (fun _ => ?_))
      | exact ih0 _ _
      | exact LeO.none _
      | refine LeO.ite ?_ ?_
      | refine LeO.bind ?_ (fun _ => ?_)
set_option maxHeartbeats 8000000 in
set_option maxRecDepth 100000 in
theorem verdererlaw05_few.calls (k : Nat) (A0 : Option Addr) (c0 : Nat) (l0 : List (S34)) (r : Bool) (w : World) (hr0 : Kd.C k34 w A0 l0.length l0) (hc0 : l0.length ≤ c0) (h : verdererlaw05_few.f k l0 = some r) :
    Calls Try.prog 13 #[.slice A0 l0.length c0] w fun e w' => e = .returned (.bool r) ∧ Drawn0 w w' := by
  have HR0 := Aside0.mk hr0
  have HC0 := Aside0.mk hc0
  clear hr0 hc0
  have H : (if (l0.length : Int) > 120 then (some false) else (verdererlaw05_few.l0 k l0 0)) = some r := h
  clear h
  by_cases c2 : (l0.length : Int) > 120
  · rw [if_pos c2] at H
    have c2b0 : decide (120 < (l0.length : Int)) = true := decide_eq_true c2
    have c2b1 : decide (120 < l0.length) = true := decide_eq_true (by omega)
    clear c2
    obtain rfl := Option.some.inj H
    go_enter Try.func13,Try.ntmps13
    go_wp2
    go_ret
    exact ⟨by first | rfl | (simp;done) | (simp [*];done),by repeat (first | exact Drawn0.refl _ | apply Drawn0.step)⟩
  · rw [if_neg c2] at H
    have c2b0 : decide (120 < (l0.length : Int)) = false := decide_eq_false c2
    have c2b1 : decide (120 < l0.length) = false := decide_eq_false (by omega)
    clear c2
    have H' := Aside0.mk H
    clear H
    go_enter Try.func13,Try.ntmps13
    go_wp2
    go_loopg [3] k (fun kq v3 w' => ∃ (x3_1 : Int),v3 = .int .i64 x3_1 ∧ Aside0 (verdererlaw05_few.l0 kq l0 x3_1 = some r) ∧ Aside0 (kq ≤ k) ∧ Drawn0 w w')
    case atStart => exact ⟨(0),(by first | rfl | (simp;done) | (simp [*];done)),H',⟨Nat.le_refl _⟩,by repeat (first | exact Drawn0.refl _ | apply Drawn0.step)⟩
    case round =>
      clear H'
      try clear c1
      try clear c2
      try clear c2b0
      try clear c2b1
      try clear p2
      obtain ⟨x3_1,rfl,HA,HK1,⟨m1,rfl⟩⟩ := hrel
      cases gk with
      | zero => exact absurd HA.out (by simp [verdererlaw05_few.l0])
      | succ k1 =>
        have H := HA.out
        clear HA
        simp only [verdererlaw05_few.l0] at H
        by_cases c3 : x3_1 < (l0.length : Int)
        · rw [if_pos c3] at H
          have c3b0 : decide (x3_1 < (l0.length : Int)) = true := decide_eq_true c3
          clear c3
          by_cases c4 : 0 ≤ x3_1
          · rw [if_pos c4] at H
            have c4b0 : decide (0 ≤ x3_1) = true := decide_eq_true c4
            clear c4
            by_cases c5 : (((rd_T34 l0 x3_1).f0).length : Int) > 50
            · rw [if_pos c5] at H
              have c5b0 : decide (50 < (((rd_T34 l0 x3_1).f0).length : Int)) = true := decide_eq_true c5
              have c5b1 : decide (50 < ((rd_T34 l0 x3_1).f0).length) = true := decide_eq_true (by omega)
              clear c5
              obtain rfl := Option.some.inj H
              have p168 : 0 ≤ (x3_1 : Int) := of_decide_eq_true (by first | (with_reducible assumption) | assumption)
              have q168 : x3_1 < (l0.length : Int) := of_decide_eq_true (by first | (with_reducible assumption) | assumption)
              obtain ⟨ad168,A168_0,c168_0,e168,hx168_0,hx168_1,hl168_0,hi168_0⟩ := at_T34 HR0.out x3_1 p168 q168
              cases e168
              have HR168_0 := Aside0.mk hi168_0
              have HC168_0 := Aside0.mk hl168_0
              clear hi168_0 hl168_0
              replace p168 := eq_true p168
              replace q168 := eq_true q168
              go_wp2
              go_ret
              exact ⟨by first | rfl | (simp;done) | (simp [*];done),by repeat (first | exact Drawn0.refl _ | apply Drawn0.step)⟩
            · rw [if_neg c5] at H
              have c5b0 : decide (50 < (((rd_T34 l0 x3_1).f0).length : Int)) = false := decide_eq_false c5
              have c5b1 : decide (50 < ((rd_T34 l0 x3_1).f0).length) = false := decide_eq_false (by omega)
              clear c5
              have H' := Aside0.mk H
              clear H
              have p168 : 0 ≤ (x3_1 : Int) := of_decide_eq_true (by first | (with_reducible assumption) | assumption)
              have q168 : x3_1 < (l0.length : Int) := of_decide_eq_true (by first | (with_reducible assumption) | assumption)
              obtain ⟨ad168,A168_0,c168_0,e168,hx168_0,hx168_1,hl168_0,hi168_0⟩ := at_T34 HR0.out x3_1 p168 q168
              cases e168
              have HR168_0 := Aside0.mk hi168_0
              have HC168_0 := Aside0.mk hl168_0
              clear hi168_0 hl168_0
              replace p168 := eq_true p168
              replace q168 := eq_true q168
              go_wp2
              go_roundg k1
              case measure => have := HK1.out;omega
              case rel => exact ⟨(wrap64 (x3_1 + 1)),(by first | rfl | (simp;done) | (simp [*];done)),H',⟨by have := HK1.out;omega⟩,by repeat (first | exact Drawn0.refl _ | apply Drawn0.step)⟩
          · rw [if_neg c4] at H
            exact absurd H (by simp)
        · rw [if_neg c3] at H
          have c3b0 : decide (x3_1 < (l0.length : Int)) = false := decide_eq_false c3
          clear c3
          obtain rfl := Option.some.inj H
          go_wp2
          go_ret
          exact ⟨by first | rfl | (simp;done) | (simp [*];done),by repeat (first | exact Drawn0.refl _ | apply Drawn0.step)⟩
end Go.Proofs.Ythmbfcfomcaaaaa.Z
end
section
namespace Go.Proofs.Ythmbfcfomcaaaaa.Z
set_option linter.unusedVariables false
set_option linter.unusedSimpArgs false
open Go.RowKit Go.Proofs.YthmbfcfomcaaaaaW.PrintWords Go.Proofs.YthmbfcfomcaaaaaW.PrintLast Go.Proofs.YthmbfcfomcaaaaaW.PrintMore Go.Proofs.Ythmbfcfomcaaaaa.Cmp
theorem few_l0 (l : List En) (hl : l.length ≤ 120) : ∀ d i k,l.length - i = d → i ≤ l.length → d < k → ∃ r,verdererlaw05_few.l0 k l (i : Int) = some r := by
  intro d
  induction d with
  | zero =>
    intro i k hd hi hk
    obtain ⟨k,rfl⟩ : ∃ m,k = m + 1 := ⟨k - 1,by omega⟩
    simp only [verdererlaw05_few.l0]
    rw [if_neg (by omega)]
    exact ⟨_,rfl⟩
  | succ d ih =>
    intro i k hd hi hk
    obtain ⟨k,rfl⟩ : ∃ m,k = m + 1 := ⟨k - 1,by omega⟩
    simp only [verdererlaw05_few.l0]
    rw [if_pos (by omega),if_pos (by omega),show wrap64 ((i : Int) + 1) = ((i + 1 : Nat) : Int) by unfold wrap64;omega]
    split
    · exact ⟨_,rfl⟩
    · exact ih (i + 1) k (by omega) (by omega) (by omega)
theorem few_some (l : List En) : ∃ r,verdererlaw05_few.f 200 l = some r ∧ (r = true → l.length ≤ 120) := by
  unfold verdererlaw05_few.f
  by_cases h : (l.length : Int) > 120
  · rw [if_pos h];exact ⟨false,rfl,fun h => by cases h⟩
  · rw [if_neg h]
    obtain ⟨r,hr⟩ := few_l0 l (by omega) l.length 0 200 (by omega) (by omega) (by omega)
    exact ⟨r,hr,fun _ => by omega⟩
theorem lfew_at (A : Option Addr) (n c : Nat) (l : List En) (w : World) (h : Kd.C k34 w A n l) (hc : n ≤ c) : Calls Try.prog 13 #[.slice A n c] w fun e w' => ∃ r,e = .returned (.bool r) ∧ (r = true → n ≤ 120) ∧ Below w.heap.size w w' := by
  have e : l.length = n := h.1
  subst e
  obtain ⟨r,h1,h2⟩ := few_some l
  refine (verdererlaw05_few.calls 200 A c l r w h hc h1).mono ?_
  rintro e w' ⟨rfl,hd⟩
  exact ⟨r,rfl,h2,hd.below⟩
theorem ent_get {w : World} {A : Option Addr} {n : Nat} {L : List En} (h : Kd.C k34 w A n L) {i : Nat} (hi : i < n) {x : En} (hx : L[i]? = some x) :
    ∃ ad A0 c0,A = some ad ∧ w.cell? (ad.add (i * 2)) = some (.slice A0 x.f0.length c0) ∧ w.cell? ⟨(ad.add (i * 2)).block,(ad.add (i * 2)).off + 1,none⟩ = some (.int .i64 x.f1) ∧ RowC w A0 c0 x.f0 := by
  obtain ⟨ad,cs,e1,hcl,hK,hcc⟩ := Kd.C_get h z34 (i : Int) (by omega) (by omega)
  simp only [Int.toNat_natCast] at hK hcc
  rw [List.getD_eq_getElem?_getD,hx] at hK
  obtain ⟨A0,c0,e2,hl,hF⟩ := k34_open hK
  subst e2
  have hc : ∀ j u,[Value.slice A0 x.f0.length c0,Value.int .i64 x.f1][j]? = some u → w.cell? (ad.add (i * 2 + j)) = some u := hcc
  exact ⟨ad,A0,c0,e1,hc 0 _ rfl,by rw [← add_field _ _ 1 (by omega)];exact hc 1 _ rfl,hl,hF⟩
theorem addD_len (r : Rw) (m : Int) {L : List En} (h : SrtD L) : (addD r m L).2.length ≤ L.length + 1 := by
  unfold addD
  split
  · split
    · have := putD_len r (manyD r L + m) h
      simp only
      split at this <;> omega
    · simp
  · simp
theorem two_add {N : Nat} {D E : Nat → Prop} {b g : Nat} {t : Tr} {A A1 : Option Addr} {c c1 : Nat} {r : Rw} (m : Int) {w0 w W : World} {L L' L1 : List En} {q : Int} (h : Two N w b t D g A1 c1 L1 E) (hN : NextW N w0 w) (e : SameW w W) (hr : RowC W A c r) (hd : docT t = L) (hs : L.length ≤ 1000000) (ha : addD r m L = (q,L')) :
    Calls Try.prog 16 #[.pointer (some ⟨b,0,none⟩),.slice A r.length c,.int .i64 m] W fun e w' => ∃ t' D',e = .returned (.int .i64 q) ∧ docT t' = L' ∧ Two N w' b t' D' g A1 c1 L1 E ∧ NextW N w0 w' ∧ Below N W w' := by
  have hN' : N ≤ W.heap.size := by rw [e.heap];exact hN.le
  refine (bag_add b t A c r m W (h.bag.below (e.below _)) hr (by rw [← doc_len,hd];omega)).mono ?_
  rintro e' w1 ⟨t',D',rfl,h2,h3,h4⟩
  rw [hd,ha] at h2 ⊢
  obtain ⟨i1,i2⟩ := (h.below (e.below _)).bagged hN' h3 h4
  exact ⟨t',D',rfl,h2,i1,hN.nextN i2 e,i2⟩
theorem two_radd {N : Nat} {D E : Nat → Prop} {b g : Nat} {t : Tr} {A A1 : Option Addr} {c c1 : Nat} {r : Rw} (m : Int) {w0 w W : World} {L L' : List En} {q : Int} (h : Two N w b t D g A1 c1 L E) (hN : NextW N w0 w) (e : SameW w W) (hr : RowC W A c r) (h1 : SrtD L) (h2 : OkD L) (hs : L.length ≤ 1000000) (ha : addD r m L = (q,L')) :
    Calls Try.prog 17 #[.pointer (some ⟨g,0,none⟩),.slice A r.length c,.int .i64 m] W fun e w' => ∃ A' c' E',e = .returned (.int .i64 q) ∧ Two N w' b t D g A' c' L' E' ∧ NextW N w0 w' ∧ Below N W w' := by
  have hN' : N ≤ W.heap.size := by rw [e.heap];exact hN.le
  refine (ref_add g A1 c1 L A c r m W (h.ref.below (e.below _)) h1 h2 hr hs).mono ?_
  rintro e' w1 ⟨A',c',E',rfl,h3,h4⟩
  rw [ha] at h3 ⊢
  obtain ⟨i1,i2⟩ := (h.below (e.below _)).reffed hN' h3 h4
  exact ⟨A',c',E',rfl,i1,hN.nextN i2 e,i2⟩
theorem two_many {N : Nat} {D E : Nat → Prop} {b g : Nat} {t : Tr} {A A1 : Option Addr} {c c1 : Nat} {r : Rw} {w0 w W : World} {L L1 : List En} (h : Two N w b t D g A1 c1 L1 E) (hN : NextW N w0 w) (e : SameW w W) (hr : RowC W A c r) (hd : docT t = L) :
    Calls Try.prog 18 #[.pointer (some ⟨b,0,none⟩),.slice A r.length c] W fun e w' => e = .returned (.int .i64 (manyD r L)) ∧ Two N w' b t D g A1 c1 L1 E ∧ NextW N w0 w' ∧ Below N W w' := by
  have hN' : N ≤ W.heap.size := by rw [e.heap];exact hN.le
  have h1 := bag_many b t A c r W (h.bag.below (e.below _)) hr
  rw [hd] at h1
  refine h1.mono ?_
  rintro e' w1 ⟨rfl,hb⟩
  exact ⟨rfl,(h.below (e.below _)).below hb,hN.next hb e,hb.mono hN'⟩
theorem two_rmany {N : Nat} {D E : Nat → Prop} {b g : Nat} {t : Tr} {A A1 : Option Addr} {c c1 : Nat} {r : Rw} {w0 w W : World} {L : List En} (h : Two N w b t D g A1 c1 L E) (hN : NextW N w0 w) (e : SameW w W) (hr : RowC W A c r) (h1 : SrtD L) (h2 : OkD L) (hs : L.length ≤ 1000000) :
    Calls Try.prog 19 #[.pointer (some ⟨g,0,none⟩),.slice A r.length c] W fun e w' => e = .returned (.int .i64 (manyD r L)) ∧ Two N w' b t D g A1 c1 L E ∧ NextW N w0 w' ∧ Below N W w' := by
  have hN' : N ≤ W.heap.size := by rw [e.heap];exact hN.le
  refine (ref_many g A1 c1 L A c r W (h.ref.below (e.below _)) h1 h2 hr hs).mono ?_
  rintro e' w1 ⟨rfl,hb⟩
  exact ⟨rfl,(h.below (e.below _)).below hb,hN.next hb e,hb.mono hN'⟩
theorem bag_two {N : Nat} {w0 : World} (w : World) (hN : NextW N w0 w) : Calls Try.prog 15 #[] w fun e w' => ∃ b,e = .returned (.pointer (some ⟨b,0,none⟩)) ∧ One N w' b .nil (fun _ => False) ∧ NextW N w0 w' := by
  refine (bag_new1 w).mono ?_
  rintro e w1 ⟨b,rfl,h1,hb⟩
  exact ⟨b,rfl,⟨h1.bag,fun k hk => Nat.le_trans hN.le (h1.own k hk)⟩,hN.next hb⟩
theorem One.two {N : Nat} {w : World} {b : Nat} {t : Tr} {D : Nat → Prop} (h : One N w b t D) (hN : N ≤ w.heap.size) : Two N (w.alloc (Obj.cells #[.slice none 0 0] 30)) b t D w.heap.size none 0 [] (fun _ => False) :=
  ⟨h.bag.below (below_alloc (Below.refl _ _) _),⟨blk_new w _,Nat.le_refl 0,Kd.F_nil _ _ _,fun q => q,fun _ q => q.elim⟩,fun k hk => ⟨h.own k hk,fun e => by have := h.bag.own_lt k hk;omega,fun q => q⟩,hN,fun _ q => q.elim⟩
end Go.Proofs.Ythmbfcfomcaaaaa.Z
end
section
namespace Go.Proofs.Ythmbfcfomcaaaaa.Z
set_option linter.unusedVariables false
set_option linter.unusedSimpArgs false
open Go.RowKit Go.Proofs.YthmbfcfomcaaaaaW.PrintWords Go.Proofs.YthmbfcfomcaaaaaW.PrintLast Go.Proofs.YthmbfcfomcaaaaaW.PrintMore Go.Proofs.Ythmbfcfomcaaaaa.Cmp
set_option maxHeartbeats 8000000 in
set_option maxRecDepth 100000 in
theorem bag_plays (A0 A1 : Option Addr) (n c0 c1 : Nat) (l : List En) (r : Rw) (w : World) (hl : Kd.C k34 w A0 n l) (hc : n ≤ c0) (hr : RowC w A1 c1 r) : Calls Try.prog 3 #[.slice A0 n c0,.slice A1 r.length c1] w fun e w' => e = .returned (.bool true) ∧ Below w.heap.size w w' := by
  have HL := Aside0.mk hl
  have HR := Aside0.mk hr
  have FW := Aside0.mk (lfew_at A0 n c0 l w hl hc)
  have LN := Aside0.mk (show l.length = n from hl.1)
  obtain ⟨N,hN⟩ : ∃ N,w.heap.size = N := ⟨_,rfl⟩
  have I0 := Aside0.mk (NextW.refl w)
  have HN := Aside0.mk hN
  rw [hN] at I0 ⊢
  clear hl hc hr hN
  go_enter Try.func3,Try.ntmps3
  go_wp2_with (fail)
  refine FW.out.mono ?_
  rintro e w1 ⟨fb,rfl,hfb,hb⟩
  have FB := Aside0.mk hfb
  have I1 := Aside0.mk (I0.out.next hb)
  clear hfb hb I0 FW
  by_cases hgo : fb = true ∧ r.length ≤ 50
  · obtain ⟨rfl,hm50⟩ := hgo
    have q0 : decide ((50 : Int) < (r.length : Int)) = false := decide_eq_false (by omega)
    have hn := FB.out rfl
    go_wp2_with (fail)
    refine (bag_two w1 I1.out).mono ?_
    rintro e w2 ⟨b,rfl,h1,h2⟩
    have T2 := Aside0.mk h1
    have I2 := Aside0.mk h2
    clear h1 h2 I1
    go_upto_region 5 with (fail)
    have T3 := Aside0.mk (T2.out.two I2.out.le)
    have I3 := Aside0.mk (I2.out.next (below_alloc (Below.refl w2.heap.size w2) (Obj.cells #[.slice none 0 0] 30)))
    obtain ⟨g,hg⟩ : ∃ g,w2.heap.size = g := ⟨_,rfl⟩
    rw [hg] at T3 ⊢
    clear T2 I2 hg
    generalize w2.alloc (Obj.cells #[.slice none 0 0] 30) = w3 at *
    go_wp2_with (fail)
    go_loopw [7] (fun iv wr => ∃ i : Nat,iv = .int .i64 (i : Int) ∧ i ≤ n ∧ Aside0 (∃ t D A c L E,docT t = L ∧ L.length ≤ i ∧ Two N wr b t D g A c L E) ∧ Aside0 (NextW N w wr)) (fun iv _ => n - (intOf iv).toNat)
    case atStart => exact ⟨0,rfl,Nat.zero_le _,⟨⟨.nil,_,none,0,[],_,rfl,Nat.le_refl 0,T3.out⟩⟩,I3⟩
    case round =>
      clear T3 I3
      obtain ⟨i,rfl,hi,TT,I4⟩ := hrel
      obtain ⟨t,D,A,c,L,E,hd,hlen,hT⟩ := TT.out
      have DT := Aside0.mk hd
      have LL := Aside0.mk hlen
      have T4 := Aside0.mk hT
      clear TT hd hlen hT
      by_cases hin : i < n
      · have k0 : decide ((i : Int) < (n : Int)) = true := decide_eq_true (by omega)
        have k0' : decide (i < n) = true := decide_eq_true hin
        have p0 : (0 : Int) ≤ (i : Int) := by omega
        have p1 : (i : Int) < (n : Int) := by omega
        obtain ⟨x,hx⟩ : ∃ x,l[i]? = some x := ⟨l[i]'(by have := LN.out;omega),List.getElem?_eq_getElem _⟩
        obtain ⟨ad,Ax,cx,e1,x0,x1,hxc⟩ := ent_get HL.out hin hx
        subst e1
        have XC := Aside0.mk hxc
        have X0 := Aside0.mk (And.intro x0 x1)
        replace x0 := (I4.out.below.cell (HN.out ▸ World.block_lt_of_cell? w _ x0)).trans x0
        replace x1 := (I4.out.below.cell (HN.out ▸ World.block_lt_of_cell? w _ x1)).trans x1
        have SR := Aside0.mk (show SrtD L by have := T4.out.bag.srtD;rw [DT.out] at this;exact this)
        have OK := Aside0.mk (show OkD L by have := T4.out.bag.ok;rw [DT.out] at this;exact this)
        obtain ⟨⟨q,L1⟩,hq⟩ : ∃ q,addD x.f0 x.f1 L = q := ⟨_,rfl⟩
        have AD := Aside0.mk hq
        have LL1 := Aside0.mk (show L1.length ≤ i + 1 by have := addD_len x.f0 x.f1 SR.out;rw [hq] at this;have := LL.out;simp only at *;omega)
        have SR1 := Aside0.mk (show SrtD L1 by have := (addD_inv (r := x.f0) (m := x.f1) SR.out OK.out).1;rw [hq] at this;exact this)
        have OK1 := Aside0.mk (show OkD L1 by have := (addD_inv (r := x.f0) (m := x.f1) SR.out OK.out).2;rw [hq] at this;exact this)
        have B1 := Aside0.mk (show L.length ≤ 1000000 by have := LL.out;omega)
        have B2 := Aside0.mk (show L1.length ≤ 1000000 by have := LL1.out;omega)
        have XB := Aside0.mk (fun W (hb : Below N w W) => show RowC W Ax cx x.f0 from XC.out.below (HN.out ▸ hb))
        clear hx hxc hq
        obtain ⟨xr,xm⟩ := x
        simp only at *
        go_wp2_with (fail)
        go_region_held3 (fun w' => w'.cell? (ad.add (i * 2)) = some (.slice Ax xr.length cx) ∧ w'.cell? ⟨(ad.add (i * 2)).block,(ad.add (i * 2)).off + 1,none⟩ = some (.int .i64 xm)) (first | go_keep | exact ⟨by assumption,by assumption⟩) (first
          | (go_at_call 16;(with_reducible refine (two_add xm T4.out I4.out ?_ (XB.out _ ?_) DT.out B1.out AD.out).mono ?_);exact ⟨rfl,rfl,rfl,rfl⟩;exact I4.out.at_;rintro e w5 ⟨t5,D5,rfl,hd5,h5,i5,b5⟩;replace x0 := (b5.cell (HN.out ▸ World.block_lt_of_cell? w _ X0.out.1)).trans x0;replace x1 := (b5.cell (HN.out ▸ World.block_lt_of_cell? w _ X0.out.2)).trans x1;have DT5 := Aside0.mk hd5;have T5 := Aside0.mk h5;have I5 := Aside0.mk i5;clear hd5 h5 i5 b5)
          | (go_at_call 17;(with_reducible refine (two_radd xm T5.out I5.out ?_ (XB.out _ ?_) SR.out OK.out B1.out AD.out).mono ?_);exact ⟨rfl,rfl,rfl,rfl⟩;exact I5.out.at_;rintro e w6 ⟨A6,c6,E6,rfl,h6,i6,b6⟩;replace x0 := (b6.cell (HN.out ▸ World.block_lt_of_cell? w _ X0.out.1)).trans x0;replace x1 := (b6.cell (HN.out ▸ World.block_lt_of_cell? w _ X0.out.2)).trans x1;have T6 := Aside0.mk h6;have I6 := Aside0.mk i6;clear h6 i6 b6)
          | (go_at_call 18;(with_reducible refine (two_many T6.out I6.out ?_ (XB.out _ ?_) DT5.out).mono ?_);exact ⟨rfl,rfl,rfl,rfl⟩;exact I6.out.at_;rintro e w7 ⟨rfl,h7,i7,b7⟩;replace x0 := (b7.cell (HN.out ▸ World.block_lt_of_cell? w _ X0.out.1)).trans x0;replace x1 := (b7.cell (HN.out ▸ World.block_lt_of_cell? w _ X0.out.2)).trans x1;have T7 := Aside0.mk h7;have I7 := Aside0.mk i7;clear h7 i7 b7)
          | (go_at_call 19;(with_reducible refine (two_rmany T7.out I7.out ?_ (XB.out _ ?_) SR1.out OK1.out B2.out).mono ?_);exact ⟨rfl,rfl,rfl,rfl⟩;exact I7.out.at_;rintro e w8 ⟨rfl,h8,i8,b8⟩;replace x0 := (b8.cell (HN.out ▸ World.block_lt_of_cell? w _ X0.out.1)).trans x0;replace x1 := (b8.cell (HN.out ▸ World.block_lt_of_cell? w _ X0.out.2)).trans x1;have T8 := Aside0.mk h8;have I8 := Aside0.mk i8;clear h8 i8 b8))
        all_goals (
          go_wp2_with (fail)
          go_roundw
          case rel => exact ⟨i + 1,by go_num,hin,⟨⟨_,_,_,_,_,_,DT5.out,LL1.out,T8.out⟩⟩,I8⟩
          case measure => simp [intOf];omega)
      · have k0 : decide ((i : Int) < (n : Int)) = false := decide_eq_false (by omega)
        have k0' : decide (i < n) = false := decide_eq_false hin
        have B1 := Aside0.mk (show L.length ≤ 1000000 by have := LL.out;omega)
        have XB := Aside0.mk (fun W (hb : Below N w W) => show RowC W A1 c1 r from HR.out.below (HN.out ▸ hb))
        have SR := Aside0.mk (show SrtD L by have := T4.out.bag.srtD;rw [DT.out] at this;exact this)
        have OK := Aside0.mk (show OkD L by have := T4.out.bag.ok;rw [DT.out] at this;exact this)
        have FR := Aside0.mk (bag_from b t A1 c1 r wr T4.out.bag (XB.out _ I4.out.below))
        rw [DT.out] at FR
        have RF := Aside0.mk (fun W (hb : Below wr.heap.size wr W) (hI : NextW N w W) => ref_from g A c L A1 c1 r W (T4.out.ref.below hb) SR.out OK.out (XB.out _ hI.below) B1.out)
        obtain ⟨y,hy⟩ : ∃ y,rowOf (fromD r L) = y := ⟨_,rfl⟩
        obtain ⟨z,hz⟩ : ∃ z,codeOf (fromD r L) = z := ⟨_,rfl⟩
        rw [hy,hz] at FR
        have RF2 := Aside0.mk (fun W hb hI => by have := RF.out W hb hI;rw [hy,hz] at this;exact this)
        clear RF hy hz
        go_wp2_with (fail)
        refine FR.out.mono ?_
        rintro e w5 ⟨v5,rfl,hv,hb⟩
        have T5 := Aside0.mk (T4.out.below hb)
        have I5 := Aside0.mk (I4.out.next hb)
        obtain ⟨A5,c5,e5⟩ := Kd.R_slice hv
        have C5 := Aside0.mk (show RowC w5 A5 c5 y by subst e5;exact ⟨(Kd.R_reads' hv).2.1,(Kd.R_reads' hv).2.2⟩)
        have RF5 := Aside0.mk (RF2.out w5 hb I5.out)
        clear hv hb T4 I4 FR RF2
        subst e5
        go_wp2_with (fail)
        refine RF5.out.mono ?_
        rintro e w6 ⟨A6,c6,rfl,hC,hb⟩
        have T6 := Aside0.mk (T5.out.below hb)
        have I6 := Aside0.mk (I5.out.next hb)
        have C6 := Aside0.mk (C5.out.below hb)
        have D6 := Aside0.mk hC
        clear hC hb T5 I5 C5 RF5
        go_wp2_with (fail)
        refine (equal_at _ _ _ _ y w6 C6.out D6.out).mono ?_
        rintro e w7 ⟨rfl,hd⟩
        have T7 := Aside0.mk (T6.out.below hd.below)
        have I7 := Aside0.mk (I6.out.next hd.below)
        clear hd T6 I6 C6 D6
        go_wp2_with (fail)
        refine (two_many T7.out I7.out (SameW.refl _) (XB.out _ I7.out.below) DT.out).mono ?_
        rintro e w8 ⟨rfl,h8,i8,b8⟩
        have T8 := Aside0.mk h8
        have I8 := Aside0.mk i8
        clear h8 i8 b8 T7 I7
        go_wp2_with (fail)
        refine (two_rmany T8.out I8.out (SameW.refl _) (XB.out _ I8.out.below) SR.out OK.out B1.out).mono ?_
        rintro e w9 ⟨rfl,h9,i9,b9⟩
        have T9 := Aside0.mk h9
        have I9 := Aside0.mk i9
        clear h9 i9 b9 T8 I8
        go_wp2_with (fail)
        refine (same_at b t g A c L w9 T9.out.bag T9.out.ref DT.out B1.out).mono ?_
        rintro e w10 ⟨rfl,hb⟩
        have T10 := Aside0.mk (T9.out.below hb)
        have I10 := Aside0.mk (I9.out.next hb)
        clear hb T9 I9
        go_wp2_with (fail)
        have LS := Aside0.mk (bag_least b t w10 T10.out.bag)
        rw [DT.out] at LS
        refine LS.out.mono ?_
        rintro e w11 ⟨v11,rfl,hv,hb⟩
        have T11 := Aside0.mk (T10.out.below hb)
        have I11 := Aside0.mk (I10.out.next hb)
        obtain ⟨A11,c11,e11⟩ := Kd.R_slice hv
        have C11 := Aside0.mk (show RowC w11 A11 c11 (rowOf L.head?) by subst e11;exact ⟨(Kd.R_reads' hv).2.1,(Kd.R_reads' hv).2.2⟩)
        clear hv hb T10 I10 LS
        subst e11
        go_wp2_with (fail)
        have LM := Aside0.mk (bag_most b t w11 T11.out.bag)
        rw [DT.out] at LM
        refine LM.out.mono ?_
        rintro e w12 ⟨v12,rfl,hv,hb⟩
        have T12 := Aside0.mk (T11.out.below hb)
        have I12 := Aside0.mk (I11.out.next hb)
        have C12 := Aside0.mk (C11.out.below hb)
        obtain ⟨A12,c12,e12⟩ := Kd.R_slice hv
        have D12 := Aside0.mk (show RowC w12 A12 c12 (rowOf L.getLast?) by subst e12;exact ⟨(Kd.R_reads' hv).2.1,(Kd.R_reads' hv).2.2⟩)
        clear hv hb T11 I11 LM C11
        subst e12
        by_cases hL : L.length = 0
        · obtain rfl : L = [] := List.length_eq_zero_iff.1 hL
          have g0 := (blk_cell T12.out.ref.blk 0).trans rfl
          simp only [List.head?_nil,List.getLast?_nil,codeOf,rowOf,List.length_nil] at g0 ⊢
          go_wp2_with (fail)
          refine (known_at w12).mono ?_
          rintro e w13 ⟨rfl,hb⟩
          have I13 := Aside0.mk (I12.out.next hb)
          go_wp2_with (fail)
          go_ret
          exact ⟨rfl,I13.out.at_⟩
        · obtain ⟨x,hx⟩ : ∃ x,L[0]? = some x := ⟨L[0]'(by omega),List.getElem?_eq_getElem _⟩
          obtain ⟨y,hy⟩ : ∃ y,L[L.length - 1]? = some y := ⟨L[L.length - 1]'(by omega),List.getElem?_eq_getElem _⟩
          obtain ⟨ad,Ax,cx,e1,x0,_,hxc,_,_⟩ := T12.out.ref.get (by omega) hx
          obtain ⟨ad',Ay,cy,e2,y0,_,hyc,_,_⟩ := T12.out.ref.get (by omega) hy
          obtain rfl : ad = ad' := by rw [e1] at e2;exact Option.some.inj e2
          subst e1
          have g0 := (blk_cell T12.out.ref.blk 0).trans rfl
          rw [Nat.zero_mul,Addr.add_zero'] at x0
          rw [List.head?_eq_getElem?,hx] at C12
          rw [List.getLast?_eq_getElem?,hy] at D12
          rw [List.head?_eq_getElem?,hx,List.getLast?_eq_getElem?,hy]
          simp only [codeOf,rowOf] at C12 D12 ⊢
          have XC := Aside0.mk hxc
          have YC := Aside0.mk hyc
          obtain ⟨s,hs⟩ : ∃ s,L.length = s := ⟨_,rfl⟩
          rw [hs] at g0 y0 hL
          have s0 : ((s : Int) == 0) = false := by rw [beq_eq_false_iff_ne];omega
          have s1 : IntKind.i64.wrap ((s : Int) - 1) = (((s - 1 : Nat)) : Int) := by have := B1.out;rw [hs] at this;rw [IntKind.wrap_i64];omega
          have s2 : (0 : Int) ≤ ((s - 1 : Nat) : Int) := by omega
          have s3 : ((s - 1 : Nat) : Int) < (s : Int) := by omega
          have s4 : (0 : Int) < (s : Int) := by omega
          have s5 : 0 < s := by omega
          obtain ⟨xr,xm⟩ := x
          obtain ⟨yr,ym⟩ := y
          try dsimp only at *
          have EQ1 := Aside0.mk (fun W (e : SameW w12 W) => equal_at A11 Ax c11 cx xr W (C12.out.below (e.below _)) (XC.out.below (e.below _)))
          have EQ2 := Aside0.mk (fun W w13 (hb : Below w12.drew.heap.size w12.drew w13) (e : SameW w13 W) => equal_at A12 Ay c12 cy yr W ((D12.out.below (w1 := w13) ⟨hb.os,hb.tape,hb.output,hb.size,hb.block⟩).below (e.below _)) ((YC.out.below (w1 := w13) ⟨hb.os,hb.tape,hb.output,hb.size,hb.block⟩).below (e.below _)))
          clear hs hx hy hxc hyc e2
          go_wp2_with (fail)
          go_region_held3 (fun w' => w'.cell? ⟨g,0,none⟩ = some (.slice (some ad) s c) ∧ w'.cell? ad = some (.slice Ax xr.length cx) ∧ w'.cell? (ad.add ((s - 1) * 2)) = some (.slice Ay yr.length cy)) (first | go_keep | exact ⟨by assumption,by assumption,by assumption⟩) (first
            | (go_at_call 22;(with_reducible refine (EQ1.out _ ?_).mono ?_);exact ⟨rfl,rfl,rfl,rfl⟩;rintro e w13 ⟨rfl,hd⟩;have hb := hd.below;replace g0 := (hb.cell (World.block_lt_of_cell? _ _ g0)).trans g0;replace x0 := (hb.cell (World.block_lt_of_cell? _ _ x0)).trans x0;replace y0 := (hb.cell (World.block_lt_of_cell? _ _ y0)).trans y0;have I13 := Aside0.mk (I12.out.next hb);have EQ3 := Aside0.mk (fun W (e : SameW w13 W) => EQ2.out W w13 hb e);clear hb hd)
            | (go_at_call 22;(with_reducible refine (EQ3.out _ ?_).mono ?_);exact ⟨rfl,rfl,rfl,rfl⟩;rintro e w14 ⟨rfl,hd⟩;have hb := hd.below;replace g0 := (hb.cell (World.block_lt_of_cell? _ _ g0)).trans g0;replace x0 := (hb.cell (World.block_lt_of_cell? _ _ x0)).trans x0;replace y0 := (hb.cell (World.block_lt_of_cell? _ _ y0)).trans y0;have I14 := Aside0.mk (I13.out.next hb);clear hb hd)
            | (go_at_call 14;(with_reducible refine (known_at _).mono ?_);rintro e w15 ⟨rfl,hb⟩;replace g0 := (hb.cell (World.block_lt_of_cell? _ _ g0)).trans g0;replace x0 := (hb.cell (World.block_lt_of_cell? _ _ x0)).trans x0;replace y0 := (hb.cell (World.block_lt_of_cell? _ _ y0)).trans y0;have I15 := Aside0.mk (I14.out.next hb);clear hb))
          all_goals (
            go_wp2_with (fail)
            go_ret
            exact ⟨rfl,I15.out.at_⟩)
  · by_cases hf : fb = true
    · subst hf
      have q0 : decide ((50 : Int) < (r.length : Int)) = true := decide_eq_true (by have : ¬ r.length ≤ 50 := fun h => hgo ⟨rfl,h⟩;omega)
      clear hgo
      go_wp2_with (fail)
      refine (known_at w1).mono ?_
      rintro e w2 ⟨rfl,hb⟩
      have I2 := Aside0.mk (I1.out.next hb)
      go_wp2_with (fail)
      go_ret
      exact ⟨rfl,I2.out.at_⟩
    · obtain rfl : fb = false := by simpa using hf
      clear hgo hf
      go_wp2_with (fail)
      refine (known_at w1).mono ?_
      rintro e w2 ⟨rfl,hb⟩
      have I2 := Aside0.mk (I1.out.next hb)
      go_wp2_with (fail)
      go_ret
      exact ⟨rfl,I2.out.at_⟩
end Go.Proofs.Ythmbfcfomcaaaaa.Z
end
section
namespace Go.Proofs.Ythmbfcfomcaaaaa.Z
set_option linter.unusedVariables false
open Go.RowKit Go.Proofs.YthmbfcfomcaaaaaW.PrintWords Go.Proofs.YthmbfcfomcaaaaaW.PrintLast Go.Proofs.YthmbfcfomcaaaaaW.PrintMore
def verdererlaw05_BagPlays.f (l0 : List (S34)) (l1 : List (S66)) : Option (Bool) := some true
theorem verdererlaw05_BagPlays.calls (A0 : Option Addr) (c0 : Nat) (l0 : List (S34)) (A1 : Option Addr) (c1 : Nat) (l1 : List (S66)) (r : Bool) (w : World) (hr0 : Kd.C k34 w A0 l0.length l0) (hc0 : l0.length ≤ c0) (hr1 : Kd.C k66 w A1 l1.length l1) (hc1 : l1.length ≤ c1) (h : verdererlaw05_BagPlays.f l0 l1 = some r) :
    Calls Try.prog 3 #[.slice A0 l0.length c0,.slice A1 l1.length c1] w fun e w' => e = .returned (.bool r) ∧ Below w.heap.size w w' := by
  obtain rfl := Option.some.inj h
  exact bag_plays A0 A1 l0.length c0 c1 l0 l1 w hr0 hc0 ⟨hc1,hr1⟩
end Go.Proofs.Ythmbfcfomcaaaaa.Z
end
section
namespace Go.Proofs.Ythmbfcfomcaaaaa.Z
open Go.RowKit Go.Proofs.YthmbfcfomcaaaaaW.PrintWords Go.Proofs.YthmbfcfomcaaaaaW.PrintLast Go.Proofs.YthmbfcfomcaaaaaW.PrintMore
theorem bagPlays_pure : ∀ (l0 : (List S34)) (l1 : (List S66)),(l0.length ≤ maxLen ∧ ∀ x ∈ l0,G34 x) → (l1.length ≤ maxLen ∧ ∀ x ∈ l1,G66 x) → verdererlaw05_BagPlays.f l0 l1 = some true := by
  intro l0 l1 _ _
  rfl
end Go.Proofs.Ythmbfcfomcaaaaa.Z
end
namespace Go.Proofs.Ythmbfcfomcaaaaa.bagPlays
open Go.ChangeShapes Go.WideShapes Go.ChangeAt Go.RowKit Go.Proofs.YthmbfcfomcaaaaaW.PrintWords
open Go.ChangeMaps (open_string shut_string)
set_option linter.unusedVariables false
theorem own : ownKnob Try.prog.godebug = none := by kernel_rfl
theorem laidOut : laidOutB Try.prog = true := by kernel_rfl
set_option maxRecDepth 100000 in
theorem lifted (os : Os) (started : os.Started) (H : Type) (enc : TypeId × Value → H) :
    ReturnsInHanded {} Try.checked os 3 .any (Rows.bagPlaysSpec.pre6 enc Try.prog Try.f3 Rows.bagPlaysRow.domain false) (Rows.bagPlaysSpec.post enc Try.prog Try.f3 false true false false) := by
  refine returnsInHanded_of_change (C := Try.checked) own started (by kernel_rfl) Try.func3
    (ChangeSpec.witness6 (enc := enc) (C := Try.checked) false ⟨#[],#[.slice none 0 0,.slice none 0 0],[]⟩ 8 (by kernel_rfl) (by kernel_rfl) (by kernel_rfl) (by kernel_rfl)) ?_
  intro W base args ds gs before hval0 hW hcnd _
  have hval : ∀ (j : Nat) t v,Try.f3.params[j]? = some t → args[j]? = some v → Value.okWide Try.prog W .any base t v := hval0
  have hW' := hW
  obtain ⟨p,q,hA0,hV,rfl,hfz,hnd⟩ := hW
  have hA : DataW.TrodAll enc Try.prog W 0 (fun _ => true) true Try.f3.params.toList args.toList ds p := hA0
  rw [Try.params3] at hA hval
  obtain ⟨v0,vs0,d0,ds0,p0,q0,hargs,rfl,rfl,h0,r0⟩ := trodAll_cons hA
  obtain ⟨v1,vs1,d1,ds1,p1,q1,rfl,rfl,rfl,h1,r1⟩ := trodAll_cons r0
  obtain ⟨rfl,rfl,rfl⟩ := trodAll_nil r1
  obtain rfl : args = #[v0,v1] := by cases args;simp_all
  obtain ⟨rfl,rfl⟩ := trodVars_none hV
  obtain ⟨a0,len0,cap0,rfl⟩ := okWide_slice Try.underlying22 (hval 0 22 v0 rfl rfl)
  have k0 := h0
  have lt0 : ∀ x ∈ p0,x.block < W.heap.size := by obtain ⟨m,hm⟩ := k0;exact DataW.trod_lt m _ _ _ hm
  obtain ⟨l0,hK0,hG0⟩ : ∃ l,((Kd.slice 34 Z.k34) : Kd (List Z.S34)).K W l [.slice a0 len0 cap0] ∧ (l.length ≤ maxLen ∧ ∀ x ∈ l,Z.G34 x) := by obtain ⟨fuel,hf⟩ := h0;exact (show OfTrod Try.prog 22 (Kd.slice 34 Z.k34) _ from (ofTrod_slice Try.underlying22 (by kernel_rfl) Z.of34)) _ _ _ _ _ _ _ _ _ hf
  obtain ⟨A0,c0,he0,hl0,hC0⟩ := hK0
  simp only [List.cons.injEq,Value.slice.injEq,and_true] at he0
  obtain ⟨rfl,rfl,rfl⟩ := he0
  obtain ⟨a1,len1,cap1,rfl⟩ := okWide_slice Try.underlying23 (hval 1 23 v1 rfl rfl)
  have k1 := h1
  have lt1 : ∀ x ∈ p1,x.block < W.heap.size := by obtain ⟨m,hm⟩ := k1;exact DataW.trod_lt m _ _ _ hm
  obtain ⟨l1,hK1,hG1⟩ : ∃ l,((Kd.slice 66 Z.k66) : Kd (List Z.S66)).K W l [.slice a1 len1 cap1] ∧ (l.length ≤ maxLen ∧ ∀ x ∈ l,Z.G66 x) := by obtain ⟨fuel,hf⟩ := h1;exact (show OfTrod Try.prog 23 (Kd.slice 66 Z.k66) _ from (ofTrod_slice Try.underlying23 (by kernel_rfl) Z.of66)) _ _ _ _ _ _ _ _ _ hf
  obtain ⟨A1,c1,he1,hl1,hC1⟩ := hK1
  simp only [List.cons.injEq,Value.slice.injEq,and_true] at he1
  obtain ⟨rfl,rfl,rfl⟩ := he1
  clear hA0 hval0
  have h := Z.bagPlays_pure l0 l1 hG0 hG1
  refine (Z.verdererlaw05_BagPlays.calls _ _ l0 _ _ l1 true W hC0 hl0 hC1 hl1 h).mono fun e W' ⟨he,bel⟩ => ?_
  subst he
  exact ⟨_,rfl,_,_,_,[],_,[],hW',trodAll_mk1 (shut_bool Try.underlying4 _),(trodAll_cons_mk (Below.trod laidOut (by kernel_rfl) (of_decide_eq_true (by kernel_rfl)) k0 bel lt0) (trodAll_cons_mk (Below.trod laidOut (by kernel_rfl) (of_decide_eq_true (by kernel_rfl)) k1 bel lt1) trodAll_mk0)),rfl,bel.frame _,fun h => by cases h⟩
theorem over : Rows.bagPlaysRow.holds Try.pinned (OpenSpec.ofChange Rows.bagPlaysSpec) :=
  OpenClaim.holds_of_wide 3 Try.f3 rfl rfl rfl rfl rfl rfl rfl ⟨rfl,rfl,rfl,rfl,rfl⟩ rfl rfl rfl rfl rfl (by kernel_rfl) Try.func3 (by kernel_rfl)
    (of_decide_eq_true (by kernel_rfl)) (by unfold Func.isWrapper;first | (rw [if_pos (by decide +kernel)];kernel_rfl) | (rw [if_neg (by decide +kernel)];exact ⟨rfl,rfl⟩))
    (fun os started H enc _ => lifted os started H enc)
theorem proved : Rows.BagPlaysSaid := over
#print axioms proved
end Go.Proofs.Ythmbfcfomcaaaaa.bagPlays
namespace Go.Proofs.Ythmbfcfomcaaaaa
theorem bagPlays_holds : Rows.BagPlaysSaid := bagPlays.proved
end Go.Proofs.Ythmbfcfomcaaaaa
