/- Parts of the proof of IndexPlays: what its functions answer. -/
import Derived.Test.YthmbfcfomcaaaaaMIndexPlaysa
import Derived.Test.YthmbfcfomcaaaaaMIndexPlaysb
import Derived.Test.YthmbfcfomcaaaaaMIndexPlaysc
import Derived.Test.YthmbfcfomcaaaaaMIndexPlaysd
import Derived.Test.YthmbfcfomcaaaaaMIndexPlayse
section
namespace Go.Proofs.Ythmbfcfomcaaaaa.Z
namespace Ri
set_option linter.unusedVariables false
set_option linter.unusedSimpArgs false
open Go.RowKit Go.Proofs.YthmbfcfomcaaaaaW.PrintWords Go.Proofs.YthmbfcfomcaaaaaW.PrintLast Go.Proofs.YthmbfcfomcaaaaaW.PrintMore Go.Proofs.Ythmbfcfomcaaaaa.Cmp
variable {V0 : Value}
set_option maxHeartbeats 4000000 in
set_option maxRecDepth 100000 in
theorem ref_addR {D : Nat → Prop} (g : Nat) (A1 : Option Addr) (c1 : Nat) (L : List En) (A : Option Addr) (c : Nat) (r : Rw) (m : Int) (w : World) (h : RefV V0 w g A1 c1 L D) (hr : RowC w A c r) (hrt : rright r = false) :
  Calls Try.prog 17 #[.pointer (some ⟨g,1,none⟩),.slice A r.length c,.int .i64 m] w fun e w' => ∃ A' c' D',e = .returned (.int .i64 2) ∧ RefV V0 w' g A' c' L D' ∧ RefCh w w' g D D' := by
 have HV := Aside0.mk h
 have RT := Aside0.mk (rright_at A c r w hr)
 rw [hrt] at RT
 clear h hr hrt
 go_enter Try.func17,Try.ntmps17
 go_wp2_with (fail)
 refine RT.out.mono ?_
 rintro e w1 ⟨rfl,hb⟩
 have HB1 := Aside0.mk hb
 have HV1 := Aside0.mk (HV.out.below hb)
 clear hb RT
 go_wp2_with (fail)
 go_ret
 first
  | exact ⟨_,_,_,rfl,HV1.out,Go.Proofs.Ythmbfcfomcaaaaa.Z.RefCh.same HB1.out⟩
  | exact ⟨rfl,_,_,_,HV1.out,Go.Proofs.Ythmbfcfomcaaaaa.Z.RefCh.same HB1.out⟩
set_option maxHeartbeats 4000000 in
set_option maxRecDepth 100000 in
theorem ref_addX {D : Nat → Prop} (g : Nat) (A1 : Option Addr) (c1 : Nat) (L : List En) (A : Option Addr) (c : Nat) (r : Rw) (m : Int) (w : World) (h : RefV V0 w g A1 c1 L D) (hs : SrtD L) (hk : OkD L) (hr : RowC w A c r) (hl : L.length ≤ 1000000) (hrt : rright r = true) (hok : okAdd r m L = false) :
  Calls Try.prog 17 #[.pointer (some ⟨g,1,none⟩),.slice A r.length c,.int .i64 m] w fun e w' => ∃ A' c' D',e = .returned (.int .i64 10) ∧ RefV V0 w' g A' c' L D' ∧ RefCh w w' g D D' := by
 have HV := Aside0.mk h
 have HS := Aside0.mk hs
 have HK := Aside0.mk hk
 have HR := Aside0.mk hr
 have RT := Aside0.mk (rright_at A c r w hr)
 have HL := Aside0.mk hl
 rw [hrt] at RT
 obtain ⟨k,hk0⟩ : ∃ k,manyD r L = k := ⟨_,rfl⟩
 have MK := Aside0.mk hk0
 obtain ⟨m0,m1⟩ := many_bd (r := r) hk
 rw [hk0] at m0 m1
 unfold okAdd at hok
 rw [hk0] at hok
 by_cases h1 : m < -2147483648
 ·have q1 : decide (m < -2147483648) = true := decide_eq_true h1
  clear h hs hk hr hl hrt hok hk0
  go_enter Try.func17,Try.ntmps17
  go_wp2_with (fail)
  refine RT.out.mono ?_
  rintro e w1 ⟨rfl,hb⟩
  have HB1 := Aside0.mk hb
  have HV1 := Aside0.mk (HV.out.below hb)
  have HR1 := Aside0.mk (HR.out.below hb)
  clear hb RT
  go_wp2_with (fail)
  have MN := Aside0.mk (ref_many g A1 c1 L A c r w1 HV1.out HS.out HK.out HR1.out HL.out)
  rw [MK.out] at MN
  refine MN.out.mono ?_
  rintro e w2 ⟨rfl,hb⟩
  have HB2 := Aside0.mk (HB1.out.trans (hb.mono HB1.out.size))
  have HV2 := Aside0.mk (HV1.out.below hb)
  clear hb HB1 HV1 HR1 MN
  go_wp2_with (fail)
  go_ret
  first
   | exact ⟨_,_,_,rfl,HV2.out,Go.Proofs.Ythmbfcfomcaaaaa.Z.RefCh.same HB2.out⟩
   | exact ⟨rfl,_,_,_,HV2.out,Go.Proofs.Ythmbfcfomcaaaaa.Z.RefCh.same HB2.out⟩
 ·have q1 : decide (m < -2147483648) = false := decide_eq_false h1
  by_cases h2 : 2147483648 < m
  ·have q2 : decide (2147483648 < m) = true := decide_eq_true h2
   clear h hs hk hr hl hrt hok hk0
   go_enter Try.func17,Try.ntmps17
   go_wp2_with (fail)
   refine RT.out.mono ?_
   rintro e w1 ⟨rfl,hb⟩
   have HB1 := Aside0.mk hb
   have HV1 := Aside0.mk (HV.out.below hb)
   have HR1 := Aside0.mk (HR.out.below hb)
   clear hb RT
   go_wp2_with (fail)
   have MN := Aside0.mk (ref_many g A1 c1 L A c r w1 HV1.out HS.out HK.out HR1.out HL.out)
   rw [MK.out] at MN
   refine MN.out.mono ?_
   rintro e w2 ⟨rfl,hb⟩
   have HB2 := Aside0.mk (HB1.out.trans (hb.mono HB1.out.size))
   have HV2 := Aside0.mk (HV1.out.below hb)
   clear hb HB1 HV1 HR1 MN
   go_wp2_with (fail)
   go_ret
   first
    | exact ⟨_,_,_,rfl,HV2.out,Go.Proofs.Ythmbfcfomcaaaaa.Z.RefCh.same HB2.out⟩
    | exact ⟨rfl,_,_,_,HV2.out,Go.Proofs.Ythmbfcfomcaaaaa.Z.RefCh.same HB2.out⟩
  ·have q2 : decide (2147483648 < m) = false := decide_eq_false h2
   have b0 : -2147483648 ≤ m := by omega
   have b1 : m ≤ 2147483648 := by omega
   rw [decide_eq_true b0,decide_eq_true b1] at hok
   simp only [Bool.true_and] at hok
   have FEW := Aside0.mk (fun W => rfew_calls (k + m) W)
   rw [hok] at FEW
   clear h hs hk hr hl hrt hok hk0
   go_enter Try.func17,Try.ntmps17
   go_wp2_with (fail)
   refine RT.out.mono ?_
   rintro e w1 ⟨rfl,hb⟩
   have HB1 := Aside0.mk hb
   have HV1 := Aside0.mk (HV.out.below hb)
   have HR1 := Aside0.mk (HR.out.below hb)
   clear hb RT
   go_wp2_with (fail)
   have MN := Aside0.mk (ref_many g A1 c1 L A c r w1 HV1.out HS.out HK.out HR1.out HL.out)
   rw [MK.out] at MN
   refine MN.out.mono ?_
   rintro e w2 ⟨rfl,hb⟩
   have HB2 := Aside0.mk (HB1.out.trans (hb.mono HB1.out.size))
   have HV2 := Aside0.mk (HV1.out.below hb)
   clear hb HB1 HV1 HR1 MN
   go_wp2_with (fail)
   refine (FEW.out w2).mono ?_
   rintro e w3 ⟨rfl,hd⟩
   have hb := hd.below
   have HB3 := Aside0.mk (HB2.out.trans (hb.mono HB2.out.size))
   have HV3 := Aside0.mk (HV2.out.below hb)
   clear hb hd HB2 HV2 FEW
   go_wp2_with (fail)
   go_ret
   first
    | exact ⟨_,_,_,rfl,HV3.out,Go.Proofs.Ythmbfcfomcaaaaa.Z.RefCh.same HB3.out⟩
    | exact ⟨rfl,_,_,_,HV3.out,Go.Proofs.Ythmbfcfomcaaaaa.Z.RefCh.same HB3.out⟩
set_option maxHeartbeats 4000000 in
set_option maxRecDepth 100000 in
theorem ref_addNN {D : Nat → Prop} (g : Nat) (A1 : Option Addr) (c1 : Nat) (L : List En) (A : Option Addr) (c : Nat) (r : Rw) (m n : Int) (w : World) (h : RefV V0 w g A1 c1 L D) (hs : SrtD L) (hk : OkD L) (hr : RowC w A c r) (hl : L.length ≤ 1000000)
  (hrt : rright r = true) (hn : manyD r L + m = n) (hok : okAdd r m L = true) (hz : n ≠ 0) (hf : fndD r L = none) :
  Calls Try.prog 17 #[.pointer (some ⟨g,1,none⟩),.slice A r.length c,.int .i64 m] w fun e w' => ∃ A' c' D',e = .returned (.int .i64 0) ∧ RefV V0 w' g A' c' (putD r n L) D' ∧ RefCh w w' g D D' := by
 have HV := Aside0.mk h
 have HS := Aside0.mk hs
 have HK := Aside0.mk hk
 have HR := Aside0.mk hr
 have HF := Aside0.mk hf
 have HN := Aside0.mk hn
 have RL := Aside0.mk (right_len hrt)
 have RT := Aside0.mk (rright_at A c r w hr)
 rw [hrt] at RT
 obtain ⟨k,hk0⟩ : ∃ k,manyD r L = k := ⟨_,rfl⟩
 have MK := Aside0.mk hk0
 obtain ⟨m0,m1⟩ := many_bd (r := r) hk
 rw [hk0] at m0 m1 hn
 have hok' := hok
 unfold okAdd at hok'
 rw [Bool.and_eq_true,Bool.and_eq_true,decide_eq_true_eq,decide_eq_true_eq,hk0,hn] at hok'
 obtain ⟨⟨b0,b1⟩,hfew⟩ := hok'
 have HFEW := Aside0.mk hfew
 have f0 := (few_iff.1 hfew).1
 have f1 := (few_iff.1 hfew).2
 have q1 : decide (m < -2147483648) = false := decide_eq_false (by omega)
 have q2 : decide (2147483648 < m) = false := decide_eq_false (by omega)
 have FEW := Aside0.mk (fun W => rfew_calls (k + m) W)
 rw [hn,hfew] at FEW
 have HN2 := Aside0.mk hn
 have q3 : (n != 0) = true := by simp [hz]
 have HZ := Aside0.mk hz
 obtain ⟨len,hlen⟩ : ∃ len,L.length = len := ⟨_,rfl⟩
 obtain ⟨at_,hat⟩ : ∃ at_,(loD r L).length = at_ := ⟨_,rfl⟩
 have HLEN := Aside0.mk hlen
 have HAT := Aside0.mk hat
 have al : at_ ≤ len := by have := lo_len r hs;omega
 have aB : at_ ≤ 1000000 := by omega
 have TK := Aside0.mk (take_lo (r := r) hs)
 have DP := Aside0.mk (drop_lo (r := r) hs)
 rw [hat] at TK DP
 rw [hf] at DP
 have DPH := Aside0.mk (show L.drop at_ = hiD r L from DP.out)
 obtain ⟨i0,hi0,hsz0⟩ : ∃ i0,Try.prog.info? 34 = some i0 ∧ i0.size = 2 := by
  obtain ⟨i0,hi,hz⟩ := Option.map_eq_some_iff.1 info34
  simp only [Prod.mk.injEq] at hz
  exact ⟨i0,hi,hz.2.1⟩
 have CT := Aside0.mk (cut_to 22 34 .i64 Try.underlying22 hi0 A1 len c1 (at_ : Int) (by omega) (by omega) (by have := h.cap;omega))
 have CF := Aside0.mk (cut_from 22 34 .i64 Try.underlying22 hi0 2 hsz0 A1 len c1 (at_ : Int) (by omega) (by omega))
 simp only [Int.toNat_natCast] at CT
 rw [show ((at_ : Int) : Int).toNat = at_ by omega] at CF
 obtain ⟨A2,hA2⟩ : ∃ A2,(if c1 = at_ then A1 else A1.map (·.add ((at_) * 2))) = A2 := ⟨_,rfl⟩
 have HA2 := Aside0.mk hA2
 rw [hA2] at CF
 have hct := CT.out
 have hcf := CF.out
 clear CT CF
 have g0 := (q0d h.blk 1).trans rfl
 rw [hlen] at g0
 have WLT := Aside0.mk (blk_lt h.blk)
 clear h hs hk hr hf hn hk0 hrt hok hfew hz hlen hat hi0 hsz0 hA2
 go_enter Try.func17,Try.ntmps17
 go_wp2_with (fail)
 refine RT.out.mono ?_
 rintro e w1 ⟨rfl,hb⟩
 have HB1 := Aside0.mk hb
 have HV1 := Aside0.mk (HV.out.below hb)
 have HR1 := Aside0.mk (HR.out.below hb)
 clear hb RT
 go_wp2_with (fail)
 have MN := Aside0.mk (ref_many g A1 c1 L A c r w1 HV1.out HS.out HK.out HR1.out (by have := HLEN.out;omega))
 rw [MK.out] at MN
 refine MN.out.mono ?_
 rintro e w2 ⟨rfl,hb⟩
 have HB2 := Aside0.mk (HB1.out.trans (hb.mono HB1.out.size))
 have HV2 := Aside0.mk (HV1.out.below hb)
 have HR2 := Aside0.mk (HR1.out.below hb)
 clear hb HB1 HV1 HR1 MN
 go_wp2_with (fail)
 rw [HN2.out]
 refine (FEW.out w2).mono ?_
 rintro e w3 ⟨rfl,hd⟩
 have hb := hd.below
 have HB3 := Aside0.mk (HB2.out.trans (hb.mono HB2.out.size))
 have HV3 := Aside0.mk (HV2.out.below hb)
 have HR3 := Aside0.mk (HR2.out.below hb)
 clear hb hd HB2 HV2 HR2 FEW
 go_wp2_with (fail)
 have FN := Aside0.mk (ref_find g A1 c1 L A c r w3 HV3.out HS.out HK.out HR3.out (by have := HLEN.out;omega))
 rw [HAT.out,HF.out] at FN
 simp only [Option.isSome_none] at FN
 refine FN.out.mono ?_
 rintro e w4 ⟨rfl,hb⟩
 have HB4 := Aside0.mk (HB3.out.trans (hb.mono HB3.out.size))
 have HV4 := Aside0.mk (HV3.out.below hb)
 have HR4 := Aside0.mk (HR3.out.below hb)
 replace g0 := (q0d HV4.out.blk 1).trans rfl
 rw [HLEN.out] at g0
 clear hb HB3 HV3 HR3 FN
 go_upto_region 8 with (fail)
 rw [HN2.out]
 have BX5 := Aside0.mk (blk_new w4 (Obj.cells #[.slice none 0 0,.int .i64 n] 34))
 have HB5 := Aside0.mk (q0b HB4.out (Obj.cells #[.slice none 0 0,.int .i64 n] 34))
 have HV5 := Aside0.mk (HV4.out.below (q0b (Below.refl w4.heap.size w4) (Obj.cells #[.slice none 0 0,.int .i64 n] 34)))
 have HR5 := Aside0.mk (HR4.out.below (q0b (Below.refl w4.heap.size w4) (Obj.cells #[.slice none 0 0,.int .i64 n] 34)))
 have GE := Aside0.mk HB4.out.size
 obtain ⟨bx,hbx⟩ : ∃ bx,w4.heap.size = bx := ⟨_,rfl⟩
 rw [hbx] at BX5 GE ⊢
 clear hbx HB4 HV4 HR4 g0
 generalize w4.alloc (Obj.cells #[.slice none 0 0,.int .i64 n] 34) = w5 at *
 have z0 := q0e BX5.out 0
 have y0 := (q0d BX5.out 0).trans rfl
 have y1 := (q0d BX5.out 1).trans rfl
 go_upto_region 9 with (((with_reducible refine q0v (b := .append) (xs := #[.tmp 42,.tmp 43]) rfl ?_);at_builtin;refine Kd.R_append_rows k66 (w0 := w) w.heap.size rfl (.tmp 42) (.tmp 43) 23 66 (.agg #[(.int .i64 0),(.bool false),(.int .i64 0),(.string ⟨#[]⟩)]) 40 rfl Try.underlying23 info66 rfl (by decide) (by omega) (.slice none 0 0) [] r A r.length c (fun k => k ≠ bx) (fun _ => False) rfl rfl (Kd.R_nil _ _ _ _ _) HR5.out.row (fun x cs h => by rw [k66_open h];exact k66_mkM _ _ _ _) (fun _ h => h.elim) (fun k hk => by have := blk_lt BX5.out;omega) HB5.out HB5.out.size (by have := RL.out;rw [List.length_nil];omega) ?_;intro v1 w6 hv hb3 hg hat;have HV1 := Aside0.mk hv;have HB6 := Aside0.mk hb3;have HV6 := Aside0.mk (HV5.out.keep (ch_grown (S := fun _ => False) hg (fun k e => by cases e)) (fun s => s) (fun _ _ s => s));have BX6 := Aside0.mk (blk_grown BX5.out hg (by simp [Value.ownBlock]));have z6 := q0e BX6.out 0;have y6 := (q0d BX6.out 0).trans rfl;obtain ⟨Ar,cr,er⟩ := Kd.R_slice hv;clear hv hb3 hg hat z0 y0 y1;subst er))
 have cb6 : Ch (fun k => k = bx) w6 (w6.setCell ⟨bx,0,none⟩ (.slice Ar r.length cr)) := (Ch.refl (fun k => k = bx) w6).setCell (p := ⟨bx,0,none⟩) (.inl rfl) _
 have BX7 := Aside0.mk (show (w6.setCell ⟨bx,0,none⟩ (.slice Ar r.length cr)).heap[bx]? = some (.cells #[.slice Ar r.length cr,.int .i64 n] 34 (0,0)) from q0r BX6.out 0 _ rfl)
 have HV7 := Aside0.mk (HV6.out.keep cb6 (fun e => by have := WLT.out;have := GE.out;omega) (fun k hk e => by have := HV.out.lt k hk;have := GE.out;omega))
 have HB7 := Aside0.mk (HB6.out.setCell (p := ⟨bx,0,none⟩) GE.out (.slice Ar r.length cr))
 have HR7 := Aside0.mk (Kd.R_far (p := ⟨bx,0,none⟩) HV1.out (fun k hk => hk) (.slice Ar r.length cr))
 clear cb6 z6 y6 HV1
 generalize w6.setCell ⟨bx,0,none⟩ (.slice Ar r.length cr) = w9 at *
 have RR := Aside0.mk (show ∃ NR : Nat → Prop,(∀ k,NR k → w.heap.size ≤ k ∧ k < w9.heap.size ∧ k ≠ bx) ∧ Kd.F k66 w9 NR Ar r.length r ∧ r.length ≤ cr from ⟨fun k => k ≠ bx ∧ w.heap.size ≤ k ∧ k < w9.heap.size,fun k hk => ⟨hk.2.1,hk.2.2,hk.1⟩,Kd.F_mono (Kd.R_F (Kd.R_bound HR7.out)) (fun k hk => ⟨hk.1,hk.2.1,hk.2.2.1⟩),(Kd.R_reads' HR7.out).2.1⟩)
 obtain ⟨NR,hNR,hFR,hcr⟩ := RR.out
 have NR1 := Aside0.mk hNR
 have FR1 := Aside0.mk hFR
 have CR1 := Aside0.mk hcr
 clear hNR hFR hcr RR HR7
 have HV9 := HV7
 have HB9 := HB7
 have BX9 := BX7
 have FR9 := Aside0.mk (Kd.F_mono (ok' := fun k => D k ∨ NR k) FR1.out (fun k hk => .inr hk))
 have NR9 := NR1
 have CR9 := CR1
 clear HV7 HB7 BX7 FR1 NR1 CR1
 have OKD := Aside0.mk (fun k (hk : D k) => show (D k ∨ NR k ∨ w9.heap.size ≤ k) ∧ k < w9.heap.size from ⟨.inl hk,Nat.lt_of_lt_of_le (HV.out.lt k hk) HB9.out.size⟩)
 have FT := Aside0.mk (show Kd.F k34 w9 D A1 at_ (loD r L) by
  have h1 := Kd.F_take (m := at_) HV9.out.row (by have := HLEN.out;omega)
  rw [TK.out,HAT.out] at h1
  exact h1)
 have g9 := (q0d HV9.out.blk 1).trans rfl
 rw [HLEN.out] at g9
 go_upto_region 13 with (((with_reducible refine q0v (b := .append) (xs := #[.tmp 56,.tmp 62]) rfl ?_);at_builtin;refine Kd.N_append_rows k34 (w0 := w) w.heap.size rfl (.tmp 56) (.tmp 62) 22 34 (.agg #[(.slice none 0 0),(.int .i64 0)]) 32 rfl Try.underlying22 info34 rfl (by decide) (by omega) (.slice none 0 0) [] (loD r L) A1 at_ c1 (fun k => D k ∨ NR k ∨ w9.heap.size ≤ k) D rfl rfl (Kd.N_nil _ _ _ _ _) FT.out (fun k hk => ⟨.inl hk,by simp [Value.ownBlock]⟩) (fun k hk => .inr (.inr hk)) HB9.out HB9.out.size (by have := HLEN.out;rw [List.length_nil];omega) ?_;intro v1 w10 hv hb3 hg hat;rw [List.nil_append] at hv;have N10 := Aside0.mk hv;have HB10 := Aside0.mk hb3;have AT10 := Aside0.mk (own_new hat);have N10S := Aside0.mk hg.size;have HV10 := Aside0.mk (HV9.out.keep (ch_grown (S := fun _ => False) hg (fun k e => by cases e)) (fun s => s) (fun _ _ s => s));have BX10 := Aside0.mk (blk_grown BX9.out hg (by simp [Value.ownBlock]));have FR10 := Aside0.mk (Kd.F_grown FR9.out hg (fun k hk => by simp [Value.ownBlock]));have y10 := (q0d BX10.out 0).trans rfl;have y11 := (q0d BX10.out 1).trans rfl;obtain ⟨Al,cl,el⟩ := Kd.N_slice hv;clear hv hb3 hg hat g9;subst el))
 have OKE := Aside0.mk (fun k (hk : D k ∨ NR k) => show (D k ∨ NR k ∨ w9.heap.size ≤ k) ∧ some k ≠ (Value.slice Al (loD r L).length cl).ownBlock from ⟨hk.imp id .inl,fun e => by have := AT10.out k e.symm;have : k < w9.heap.size := hk.elim (fun q => (OKD.out k q).2) (fun q => (NR9.out k q).2.1);omega⟩)
 go_upto_region 15 with (((with_reducible refine q0v (b := .append) (xs := #[.tmp 67,.tmp 69]) rfl ?_);at_builtin;refine Kd.N_append k34 (w0 := w) w.heap.size rfl (.tmp 67) (.tmp 69) 22 34 (.agg #[(.slice none 0 0),(.int .i64 0)]) 32 rfl Try.underlying22 info34 rfl (by decide) (by omega) (.slice Al (loD r L).length cl) (loD r L) (⟨r,n⟩ : En) [.slice Ar r.length cr,.int .i64 n] (fun k => D k ∨ NR k ∨ w9.heap.size ≤ k) (fun k => D k ∨ NR k) rfl rfl (k34_mkF _ _ (⟨r,n⟩ : En) CR9.out FR10.out) OKE.out (fun k hk => .inr (.inr (by have h1 := HB10.out.size;have h2 := HB9.out.size;have h3 := N10S.out;omega))) N10.out HB10.out HB10.out.size (by have := HLEN.out;have := HAT.out;omega) ?_;intro v2 w11 hv hb3 hg hat;obtain ⟨L2,hL2⟩ : ∃ L2,loD r L ++ [(⟨r,n⟩ : En)] = L2 := ⟨_,rfl⟩;rw [hL2] at hv;have HL2 := Aside0.mk hL2;clear hL2;have N12 := Aside0.mk hv;have HB12 := Aside0.mk hb3;have N12S := Aside0.mk (Nat.le_trans N10S.out hg.size);have AT12 := Aside0.mk (own_new2 AT10.out N10S.out hat);have HV12 := Aside0.mk (HV10.out.keep (ch_grown (S := fun k => w9.heap.size ≤ k) hg (fun k e => AT10.out k e)) (fun s => by have := WLT.out;have := HB9.out.size;omega) (fun k hk s => by have := (OKD.out k hk).2;omega));obtain ⟨Al2,cl2,el⟩ := Kd.N_slice hv;clear hv hb3 hg hat y10 y11;subst el))
 have g12 := (q0d HV12.out.blk 1).trans rfl
 rw [HLEN.out] at g12
 clear N10 HB10 HV10 AT10 FR10
 have FT2 := Aside0.mk (show Kd.F k34 w11 D A2 (len - at_) (hiD r L) by
  have h1 := Kd.F_cut (c := c1) (m := at_) HV12.out.row (by have := HLEN.out;omega) HV12.out.cap
  rw [DPH.out] at h1
  have h2 : (hiD r L).length = len - at_ := by rw [← DPH.out,List.length_drop,HLEN.out]
  rw [h2] at h1
  rw [← HA2.out]
  exact h1)
 have zg := q0e HV12.out.blk 1
 go_wp2_with (((with_reducible refine q0v (b := .append) (xs := #[.tmp 75,.tmp 81]) rfl ?_);at_builtin;refine Kd.N_append_rows k34 (w0 := w) w.heap.size rfl (.tmp 75) (.tmp 81) 22 34 (.agg #[(.slice none 0 0),(.int .i64 0)]) 32 rfl Try.underlying22 info34 rfl (by decide) (by omega) (.slice Al2 L2.length cl2) L2 (hiD r L) A2 (len - at_) (c1 - at_) (fun k => D k ∨ NR k ∨ w9.heap.size ≤ k) D rfl rfl N12.out FT2.out (fun k hk => ⟨.inl hk,fun e => by have := AT12.out k e.symm;have := (OKD.out k hk).2;omega⟩) (fun k hk => .inr (.inr (by have h1 := HB12.out.size;have h3 := N12S.out;omega))) HB12.out HB12.out.size (by have := HLEN.out;have := HAT.out;have hL2 := congrArg List.length HL2.out;rw [List.length_append] at hL2;simp at hL2;omega) ?_;intro v3 w12 hv hb3 hg hat;obtain ⟨L3,hL3⟩ : ∃ L3,L2 ++ hiD r L = L3 := ⟨_,rfl⟩;rw [hL3] at hv;have HL3 := Aside0.mk hL3;clear hL3;have N13 := Aside0.mk hv;have HB13 := Aside0.mk hb3;have HV13 := Aside0.mk (HV12.out.keep (ch_grown (S := fun k => w9.heap.size ≤ k) hg (fun k e => AT12.out k e)) (fun s => by have := WLT.out;have := HB9.out.size;omega) (fun k hk s => by have := (OKD.out k hk).2;omega));have zg2 := q0e HV13.out.blk 1;have yg2 := (q0d HV13.out.blk 1).trans rfl;obtain ⟨Al3,cl3,el⟩ := Kd.N_slice hv;clear hv hb3 hg hat g12 zg;subst el))
 go_ret
 have hL : L3 = putD r n L := by
  rw [← HL3.out]
  rw [← HL2.out];unfold putD;rw [if_neg HZ.out]
 rw [← hL]
 have s9 := HB9.out.size
 have wl := WLT.out
 have cg : Ch (fun k => k = g) w12 (w12.setCell ⟨g,1,none⟩ (.slice Al3 L3.length cl3)) := (Ch.refl (fun k => k = g) w12).setCell (p := ⟨g,1,none⟩) (.inl rfl) _
 have dn : ∀ k,((D k ∨ NR k ∨ w9.heap.size ≤ k) ∧ k < w12.heap.size) → k ≠ g := fun k hk e => by
  rcases hk.1 with q | q | q
  ·exact HV.out.g_not (e ▸ q)
  ·have := (NR9.out k q).1;omega
  ·omega
 have R1 : RefV V0 (w12.setCell ⟨g,1,none⟩ (.slice Al3 L3.length cl3)) g Al3 cl3 L3 (fun k => (D k ∨ NR k ∨ w9.heap.size ≤ k) ∧ k < w12.heap.size) :=
  ⟨q0r HV13.out.blk 1 _ rfl,(Kd.N_reads' N13.out).2.1,Kd.F_step (Kd.F_bound (Kd.N_F N13.out)) (fun k hk hlt => cg.block k hlt (dn k hk)),fun hk => dn g hk rfl,fun k hk => Nat.lt_of_lt_of_le hk.2 cg.size⟩
 have R2 : RefCh w (w12.setCell ⟨g,1,none⟩ (.slice Al3 L3.length cl3)) g D (fun k => (D k ∨ NR k ∨ w9.heap.size ≤ k) ∧ k < w12.heap.size) :=
  ⟨(Ch.of_below (S := fun k => k = g) HB13.out).then_ cg (fun k hk => .inl hk),fun k hk => hk.1.imp id (fun q => q.elim (fun q => (NR9.out k q).1) (fun q => by omega))⟩
 first
  | exact ⟨_,_,_,rfl,R1,R2⟩
  | exact ⟨rfl,_,_,_,R1,R2⟩
  | exact ⟨rfl,_,_,R1,R2⟩
set_option maxHeartbeats 4000000 in
set_option maxRecDepth 100000 in
theorem ref_addNZ {D : Nat → Prop} (g : Nat) (A1 : Option Addr) (c1 : Nat) (L : List En) (A : Option Addr) (c : Nat) (r : Rw) (m n : Int) (w : World) (h : RefV V0 w g A1 c1 L D) (hs : SrtD L) (hk : OkD L) (hr : RowC w A c r) (hl : L.length ≤ 1000000)
  (hrt : rright r = true) (hn : manyD r L + m = n) (hok : okAdd r m L = true) (hz : n = 0) (hf : fndD r L = none) :
  Calls Try.prog 17 #[.pointer (some ⟨g,1,none⟩),.slice A r.length c,.int .i64 m] w fun e w' => ∃ A' c' D',e = .returned (.int .i64 0) ∧ RefV V0 w' g A' c' (putD r n L) D' ∧ RefCh w w' g D D' := by
 have HV := Aside0.mk h
 have HS := Aside0.mk hs
 have HK := Aside0.mk hk
 have HR := Aside0.mk hr
 have HF := Aside0.mk hf
 have HN := Aside0.mk hn
 have RL := Aside0.mk (right_len hrt)
 have RT := Aside0.mk (rright_at A c r w hr)
 rw [hrt] at RT
 obtain ⟨k,hk0⟩ : ∃ k,manyD r L = k := ⟨_,rfl⟩
 have MK := Aside0.mk hk0
 obtain ⟨m0,m1⟩ := many_bd (r := r) hk
 rw [hk0] at m0 m1 hn
 have hok' := hok
 unfold okAdd at hok'
 rw [Bool.and_eq_true,Bool.and_eq_true,decide_eq_true_eq,decide_eq_true_eq,hk0,hn] at hok'
 obtain ⟨⟨b0,b1⟩,hfew⟩ := hok'
 have HFEW := Aside0.mk hfew
 have f0 := (few_iff.1 hfew).1
 have f1 := (few_iff.1 hfew).2
 have q1 : decide (m < -2147483648) = false := decide_eq_false (by omega)
 have q2 : decide (2147483648 < m) = false := decide_eq_false (by omega)
 have FEW := Aside0.mk (fun W => rfew_calls (k + m) W)
 rw [hn,hfew] at FEW
 have HN2 := Aside0.mk hn
 have q3 : (n != 0) = false := by simp [hz]
 have HZ := Aside0.mk hz
 obtain ⟨len,hlen⟩ : ∃ len,L.length = len := ⟨_,rfl⟩
 obtain ⟨at_,hat⟩ : ∃ at_,(loD r L).length = at_ := ⟨_,rfl⟩
 have HLEN := Aside0.mk hlen
 have HAT := Aside0.mk hat
 have al : at_ ≤ len := by have := lo_len r hs;omega
 have aB : at_ ≤ 1000000 := by omega
 have TK := Aside0.mk (take_lo (r := r) hs)
 have DP := Aside0.mk (drop_lo (r := r) hs)
 rw [hat] at TK DP
 rw [hf] at DP
 have DPH := Aside0.mk (show L.drop at_ = hiD r L from DP.out)
 obtain ⟨i0,hi0,hsz0⟩ : ∃ i0,Try.prog.info? 34 = some i0 ∧ i0.size = 2 := by
  obtain ⟨i0,hi,hz⟩ := Option.map_eq_some_iff.1 info34
  simp only [Prod.mk.injEq] at hz
  exact ⟨i0,hi,hz.2.1⟩
 have CT := Aside0.mk (cut_to 22 34 .i64 Try.underlying22 hi0 A1 len c1 (at_ : Int) (by omega) (by omega) (by have := h.cap;omega))
 have CF := Aside0.mk (cut_from 22 34 .i64 Try.underlying22 hi0 2 hsz0 A1 len c1 (at_ : Int) (by omega) (by omega))
 simp only [Int.toNat_natCast] at CT
 rw [show ((at_ : Int) : Int).toNat = at_ by omega] at CF
 obtain ⟨A2,hA2⟩ : ∃ A2,(if c1 = at_ then A1 else A1.map (·.add ((at_) * 2))) = A2 := ⟨_,rfl⟩
 have HA2 := Aside0.mk hA2
 rw [hA2] at CF
 have hct := CT.out
 have hcf := CF.out
 clear CT CF
 have g0 := (q0d h.blk 1).trans rfl
 rw [hlen] at g0
 have WLT := Aside0.mk (blk_lt h.blk)
 clear h hs hk hr hf hn hk0 hrt hok hfew hz hlen hat hi0 hsz0 hA2
 go_enter Try.func17,Try.ntmps17
 go_wp2_with (fail)
 refine RT.out.mono ?_
 rintro e w1 ⟨rfl,hb⟩
 have HB1 := Aside0.mk hb
 have HV1 := Aside0.mk (HV.out.below hb)
 have HR1 := Aside0.mk (HR.out.below hb)
 clear hb RT
 go_wp2_with (fail)
 have MN := Aside0.mk (ref_many g A1 c1 L A c r w1 HV1.out HS.out HK.out HR1.out (by have := HLEN.out;omega))
 rw [MK.out] at MN
 refine MN.out.mono ?_
 rintro e w2 ⟨rfl,hb⟩
 have HB2 := Aside0.mk (HB1.out.trans (hb.mono HB1.out.size))
 have HV2 := Aside0.mk (HV1.out.below hb)
 have HR2 := Aside0.mk (HR1.out.below hb)
 clear hb HB1 HV1 HR1 MN
 go_wp2_with (fail)
 rw [HN2.out]
 refine (FEW.out w2).mono ?_
 rintro e w3 ⟨rfl,hd⟩
 have hb := hd.below
 have HB3 := Aside0.mk (HB2.out.trans (hb.mono HB2.out.size))
 have HV3 := Aside0.mk (HV2.out.below hb)
 have HR3 := Aside0.mk (HR2.out.below hb)
 clear hb hd HB2 HV2 HR2 FEW
 go_wp2_with (fail)
 have FN := Aside0.mk (ref_find g A1 c1 L A c r w3 HV3.out HS.out HK.out HR3.out (by have := HLEN.out;omega))
 rw [HAT.out,HF.out] at FN
 simp only [Option.isSome_none] at FN
 refine FN.out.mono ?_
 rintro e w4 ⟨rfl,hb⟩
 have HB4 := Aside0.mk (HB3.out.trans (hb.mono HB3.out.size))
 have HV4 := Aside0.mk (HV3.out.below hb)
 have HR4 := Aside0.mk (HR3.out.below hb)
 replace g0 := (q0d HV4.out.blk 1).trans rfl
 rw [HLEN.out] at g0
 clear hb HB3 HV3 HR3 FN
 go_upto_region 8 with (fail)
 rw [HN2.out]
 have BX5 := Aside0.mk (blk_new w4 (Obj.cells #[.slice none 0 0,.int .i64 n] 34))
 have HB5 := Aside0.mk (q0b HB4.out (Obj.cells #[.slice none 0 0,.int .i64 n] 34))
 have HV5 := Aside0.mk (HV4.out.below (q0b (Below.refl w4.heap.size w4) (Obj.cells #[.slice none 0 0,.int .i64 n] 34)))
 have HR5 := Aside0.mk (HR4.out.below (q0b (Below.refl w4.heap.size w4) (Obj.cells #[.slice none 0 0,.int .i64 n] 34)))
 have GE := Aside0.mk HB4.out.size
 obtain ⟨bx,hbx⟩ : ∃ bx,w4.heap.size = bx := ⟨_,rfl⟩
 rw [hbx] at BX5 GE ⊢
 clear hbx HB4 HV4 HR4 g0
 generalize w4.alloc (Obj.cells #[.slice none 0 0,.int .i64 n] 34) = w5 at *
 have z0 := q0e BX5.out 0
 have y0 := (q0d BX5.out 0).trans rfl
 have y1 := (q0d BX5.out 1).trans rfl
 go_upto_region 9 with (((with_reducible refine q0v (b := .append) (xs := #[.tmp 42,.tmp 43]) rfl ?_);at_builtin;refine Kd.R_append_rows k66 (w0 := w) w.heap.size rfl (.tmp 42) (.tmp 43) 23 66 (.agg #[(.int .i64 0),(.bool false),(.int .i64 0),(.string ⟨#[]⟩)]) 40 rfl Try.underlying23 info66 rfl (by decide) (by omega) (.slice none 0 0) [] r A r.length c (fun k => k ≠ bx) (fun _ => False) rfl rfl (Kd.R_nil _ _ _ _ _) HR5.out.row (fun x cs h => by rw [k66_open h];exact k66_mkM _ _ _ _) (fun _ h => h.elim) (fun k hk => by have := blk_lt BX5.out;omega) HB5.out HB5.out.size (by have := RL.out;rw [List.length_nil];omega) ?_;intro v1 w6 hv hb3 hg hat;have HV1 := Aside0.mk hv;have HB6 := Aside0.mk hb3;have HV6 := Aside0.mk (HV5.out.keep (ch_grown (S := fun _ => False) hg (fun k e => by cases e)) (fun s => s) (fun _ _ s => s));have BX6 := Aside0.mk (blk_grown BX5.out hg (by simp [Value.ownBlock]));have z6 := q0e BX6.out 0;have y6 := (q0d BX6.out 0).trans rfl;obtain ⟨Ar,cr,er⟩ := Kd.R_slice hv;clear hv hb3 hg hat z0 y0 y1;subst er))
 have cb6 : Ch (fun k => k = bx) w6 (w6.setCell ⟨bx,0,none⟩ (.slice Ar r.length cr)) := (Ch.refl (fun k => k = bx) w6).setCell (p := ⟨bx,0,none⟩) (.inl rfl) _
 have BX7 := Aside0.mk (show (w6.setCell ⟨bx,0,none⟩ (.slice Ar r.length cr)).heap[bx]? = some (.cells #[.slice Ar r.length cr,.int .i64 n] 34 (0,0)) from q0r BX6.out 0 _ rfl)
 have HV7 := Aside0.mk (HV6.out.keep cb6 (fun e => by have := WLT.out;have := GE.out;omega) (fun k hk e => by have := HV.out.lt k hk;have := GE.out;omega))
 have HB7 := Aside0.mk (HB6.out.setCell (p := ⟨bx,0,none⟩) GE.out (.slice Ar r.length cr))
 have HR7 := Aside0.mk (Kd.R_far (p := ⟨bx,0,none⟩) HV1.out (fun k hk => hk) (.slice Ar r.length cr))
 clear cb6 z6 y6 HV1
 generalize w6.setCell ⟨bx,0,none⟩ (.slice Ar r.length cr) = w9 at *
 have RR := Aside0.mk (show ∃ NR : Nat → Prop,(∀ k,NR k → w.heap.size ≤ k ∧ k < w9.heap.size ∧ k ≠ bx) ∧ Kd.F k66 w9 NR Ar r.length r ∧ r.length ≤ cr from ⟨fun k => k ≠ bx ∧ w.heap.size ≤ k ∧ k < w9.heap.size,fun k hk => ⟨hk.2.1,hk.2.2,hk.1⟩,Kd.F_mono (Kd.R_F (Kd.R_bound HR7.out)) (fun k hk => ⟨hk.1,hk.2.1,hk.2.2.1⟩),(Kd.R_reads' HR7.out).2.1⟩)
 obtain ⟨NR,hNR,hFR,hcr⟩ := RR.out
 have NR1 := Aside0.mk hNR
 have FR1 := Aside0.mk hFR
 have CR1 := Aside0.mk hcr
 clear hNR hFR hcr RR HR7
 have HV9 := HV7
 have HB9 := HB7
 have BX9 := BX7
 have FR9 := Aside0.mk (Kd.F_mono (ok' := fun k => D k ∨ NR k) FR1.out (fun k hk => .inr hk))
 have NR9 := NR1
 have CR9 := CR1
 clear HV7 HB7 BX7 FR1 NR1 CR1
 have OKD := Aside0.mk (fun k (hk : D k) => show (D k ∨ NR k ∨ w9.heap.size ≤ k) ∧ k < w9.heap.size from ⟨.inl hk,Nat.lt_of_lt_of_le (HV.out.lt k hk) HB9.out.size⟩)
 have FT := Aside0.mk (show Kd.F k34 w9 D A1 at_ (loD r L) by
  have h1 := Kd.F_take (m := at_) HV9.out.row (by have := HLEN.out;omega)
  rw [TK.out,HAT.out] at h1
  exact h1)
 have g9 := (q0d HV9.out.blk 1).trans rfl
 rw [HLEN.out] at g9
 go_upto_region 13 with (((with_reducible refine q0v (b := .append) (xs := #[.tmp 56,.tmp 62]) rfl ?_);at_builtin;refine Kd.N_append_rows k34 (w0 := w) w.heap.size rfl (.tmp 56) (.tmp 62) 22 34 (.agg #[(.slice none 0 0),(.int .i64 0)]) 32 rfl Try.underlying22 info34 rfl (by decide) (by omega) (.slice none 0 0) [] (loD r L) A1 at_ c1 (fun k => D k ∨ NR k ∨ w9.heap.size ≤ k) D rfl rfl (Kd.N_nil _ _ _ _ _) FT.out (fun k hk => ⟨.inl hk,by simp [Value.ownBlock]⟩) (fun k hk => .inr (.inr hk)) HB9.out HB9.out.size (by have := HLEN.out;rw [List.length_nil];omega) ?_;intro v1 w10 hv hb3 hg hat;rw [List.nil_append] at hv;have N10 := Aside0.mk hv;have HB10 := Aside0.mk hb3;have AT10 := Aside0.mk (own_new hat);have N10S := Aside0.mk hg.size;have HV10 := Aside0.mk (HV9.out.keep (ch_grown (S := fun _ => False) hg (fun k e => by cases e)) (fun s => s) (fun _ _ s => s));have BX10 := Aside0.mk (blk_grown BX9.out hg (by simp [Value.ownBlock]));have FR10 := Aside0.mk (Kd.F_grown FR9.out hg (fun k hk => by simp [Value.ownBlock]));have y10 := (q0d BX10.out 0).trans rfl;have y11 := (q0d BX10.out 1).trans rfl;obtain ⟨Al,cl,el⟩ := Kd.N_slice hv;clear hv hb3 hg hat g9;subst el))
 have N12 := N10
 have HB12 := HB10
 have HV12 := HV10
 have AT12 := AT10
 have N12S := N10S
 have g12 := (q0d HV12.out.blk 1).trans rfl
 rw [HLEN.out] at g12
 clear N10 HB10 HV10 AT10 FR10
 have FT2 := Aside0.mk (show Kd.F k34 w10 D A2 (len - at_) (hiD r L) by
  have h1 := Kd.F_cut (c := c1) (m := at_) HV12.out.row (by have := HLEN.out;omega) HV12.out.cap
  rw [DPH.out] at h1
  have h2 : (hiD r L).length = len - at_ := by rw [← DPH.out,List.length_drop,HLEN.out]
  rw [h2] at h1
  rw [← HA2.out]
  exact h1)
 have zg := q0e HV12.out.blk 1
 go_wp2_with (((with_reducible refine q0v (b := .append) (xs := #[.tmp 75,.tmp 81]) rfl ?_);at_builtin;refine Kd.N_append_rows k34 (w0 := w) w.heap.size rfl (.tmp 75) (.tmp 81) 22 34 (.agg #[(.slice none 0 0),(.int .i64 0)]) 32 rfl Try.underlying22 info34 rfl (by decide) (by omega) (.slice Al (loD r L).length cl) (loD r L) (hiD r L) A2 (len - at_) (c1 - at_) (fun k => D k ∨ NR k ∨ w9.heap.size ≤ k) D rfl rfl N12.out FT2.out (fun k hk => ⟨.inl hk,fun e => by have := AT12.out k e.symm;have := (OKD.out k hk).2;omega⟩) (fun k hk => .inr (.inr (by have h1 := HB12.out.size;have h3 := N12S.out;omega))) HB12.out HB12.out.size (by have := HLEN.out;have := HAT.out;omega) ?_;intro v3 w12 hv hb3 hg hat;obtain ⟨L3,hL3⟩ : ∃ L3,(loD r L) ++ hiD r L = L3 := ⟨_,rfl⟩;rw [hL3] at hv;have HL3 := Aside0.mk hL3;clear hL3;have N13 := Aside0.mk hv;have HB13 := Aside0.mk hb3;have HV13 := Aside0.mk (HV12.out.keep (ch_grown (S := fun k => w9.heap.size ≤ k) hg (fun k e => AT12.out k e)) (fun s => by have := WLT.out;have := HB9.out.size;omega) (fun k hk s => by have := (OKD.out k hk).2;omega));have zg2 := q0e HV13.out.blk 1;have yg2 := (q0d HV13.out.blk 1).trans rfl;obtain ⟨Al3,cl3,el⟩ := Kd.N_slice hv;clear hv hb3 hg hat g12 zg;subst el))
 go_ret
 have hL : L3 = putD r n L := by
  rw [← HL3.out]
  unfold putD;rw [if_pos HZ.out,List.append_nil]
 rw [← hL]
 have s9 := HB9.out.size
 have wl := WLT.out
 have cg : Ch (fun k => k = g) w12 (w12.setCell ⟨g,1,none⟩ (.slice Al3 L3.length cl3)) := (Ch.refl (fun k => k = g) w12).setCell (p := ⟨g,1,none⟩) (.inl rfl) _
 have dn : ∀ k,((D k ∨ NR k ∨ w9.heap.size ≤ k) ∧ k < w12.heap.size) → k ≠ g := fun k hk e => by
  rcases hk.1 with q | q | q
  ·exact HV.out.g_not (e ▸ q)
  ·have := (NR9.out k q).1;omega
  ·omega
 have R1 : RefV V0 (w12.setCell ⟨g,1,none⟩ (.slice Al3 L3.length cl3)) g Al3 cl3 L3 (fun k => (D k ∨ NR k ∨ w9.heap.size ≤ k) ∧ k < w12.heap.size) :=
  ⟨q0r HV13.out.blk 1 _ rfl,(Kd.N_reads' N13.out).2.1,Kd.F_step (Kd.F_bound (Kd.N_F N13.out)) (fun k hk hlt => cg.block k hlt (dn k hk)),fun hk => dn g hk rfl,fun k hk => Nat.lt_of_lt_of_le hk.2 cg.size⟩
 have R2 : RefCh w (w12.setCell ⟨g,1,none⟩ (.slice Al3 L3.length cl3)) g D (fun k => (D k ∨ NR k ∨ w9.heap.size ≤ k) ∧ k < w12.heap.size) :=
  ⟨(Ch.of_below (S := fun k => k = g) HB13.out).then_ cg (fun k hk => .inl hk),fun k hk => hk.1.imp id (fun q => q.elim (fun q => (NR9.out k q).1) (fun q => by omega))⟩
 first
  | exact ⟨_,_,_,rfl,R1,R2⟩
  | exact ⟨rfl,_,_,_,R1,R2⟩
  | exact ⟨rfl,_,_,R1,R2⟩
set_option maxHeartbeats 4000000 in
set_option maxRecDepth 100000 in
theorem ref_addSN {D : Nat → Prop} (g : Nat) (A1 : Option Addr) (c1 : Nat) (L : List En) (A : Option Addr) (c : Nat) (r : Rw) (m n : Int) (y : En) (w : World) (h : RefV V0 w g A1 c1 L D) (hs : SrtD L) (hk : OkD L) (hr : RowC w A c r) (hl : L.length ≤ 1000000)
  (hrt : rright r = true) (hn : manyD r L + m = n) (hok : okAdd r m L = true) (hz : n ≠ 0) (hf : fndD r L = some y) :
  Calls Try.prog 17 #[.pointer (some ⟨g,1,none⟩),.slice A r.length c,.int .i64 m] w fun e w' => ∃ A' c' D',e = .returned (.int .i64 0) ∧ RefV V0 w' g A' c' (putD r n L) D' ∧ RefCh w w' g D D' := by
 have HV := Aside0.mk h
 have HS := Aside0.mk hs
 have HK := Aside0.mk hk
 have HR := Aside0.mk hr
 have HF := Aside0.mk hf
 have HN := Aside0.mk hn
 have RL := Aside0.mk (right_len hrt)
 have RT := Aside0.mk (rright_at A c r w hr)
 rw [hrt] at RT
 obtain ⟨k,hk0⟩ : ∃ k,manyD r L = k := ⟨_,rfl⟩
 have MK := Aside0.mk hk0
 obtain ⟨m0,m1⟩ := many_bd (r := r) hk
 rw [hk0] at m0 m1 hn
 have hok' := hok
 unfold okAdd at hok'
 rw [Bool.and_eq_true,Bool.and_eq_true,decide_eq_true_eq,decide_eq_true_eq,hk0,hn] at hok'
 obtain ⟨⟨b0,b1⟩,hfew⟩ := hok'
 have HFEW := Aside0.mk hfew
 have f0 := (few_iff.1 hfew).1
 have f1 := (few_iff.1 hfew).2
 have q1 : decide (m < -2147483648) = false := decide_eq_false (by omega)
 have q2 : decide (2147483648 < m) = false := decide_eq_false (by omega)
 have FEW := Aside0.mk (fun W => rfew_calls (k + m) W)
 rw [hn,hfew] at FEW
 have HN2 := Aside0.mk hn
 have q3 : (n != 0) = true := by simp [hz]
 have HZ := Aside0.mk hz
 obtain ⟨len,hlen⟩ : ∃ len,L.length = len := ⟨_,rfl⟩
 obtain ⟨at_,hat⟩ : ∃ at_,(loD r L).length = at_ := ⟨_,rfl⟩
 have HLEN := Aside0.mk hlen
 have HAT := Aside0.mk hat
 have al : at_ ≤ len := by have := lo_len r hs;omega
 have aB : at_ ≤ 1000000 := by omega
 have TK := Aside0.mk (take_lo (r := r) hs)
 have DP := Aside0.mk (drop_lo (r := r) hs)
 rw [hat] at TK DP
 rw [hf] at DP
 have aln : at_ < len := by
  rcases Nat.lt_or_ge at_ len with q | q
  ·exact q
  ·rw [fnd_end hs (by omega)] at hf;cases hf
 have hy : L[at_]? = some y := by
  have h1 := List.getElem?_eq_getElem (show at_ < L.length by omega)
  rcases (fnd_at (r := r) hs (x := L[at_]) (by rw [hat];exact h1)).2 with q | q
  ·rw [hf] at q;rw [h1,q]
  ·rw [hf] at q;cases q
 have HY := Aside0.mk hy
 have hyr : y.f0 = r := by
  have h1 := List.find?_some (show L.find? (fun x => decide (rcmp r x.f0 = 0)) = some y from hf)
  exact (rright_eq hrt (hk y (List.mem_of_find?_eq_some hf)).1 (of_decide_eq_true h1)).symm
 have HYR := Aside0.mk hyr
 have p0 : (0 : Int) ≤ (at_ : Int) := by omega
 have p1 : (at_ : Int) < (len : Int) := by omega
 have DPH := Aside0.mk (show L.drop (at_ + 1) = hiD r L by
  rw [← List.drop_drop,DP.out];rfl)
 obtain ⟨i0,hi0,hsz0⟩ : ∃ i0,Try.prog.info? 34 = some i0 ∧ i0.size = 2 := by
  obtain ⟨i0,hi,hz⟩ := Option.map_eq_some_iff.1 info34
  simp only [Prod.mk.injEq] at hz
  exact ⟨i0,hi,hz.2.1⟩
 have CT := Aside0.mk (cut_to 22 34 .i64 Try.underlying22 hi0 A1 len c1 (at_ : Int) (by omega) (by omega) (by have := h.cap;omega))
 have CF := Aside0.mk (cut_from 22 34 .i64 Try.underlying22 hi0 2 hsz0 A1 len c1 ((at_ : Int) + 1) (by omega) (by omega))
 simp only [Int.toNat_natCast] at CT
 rw [show (((at_ : Int) + 1) : Int).toNat = at_ + 1 by omega] at CF
 obtain ⟨A2,hA2⟩ : ∃ A2,(if c1 = at_ + 1 then A1 else A1.map (·.add ((at_ + 1) * 2))) = A2 := ⟨_,rfl⟩
 have HA2 := Aside0.mk hA2
 rw [hA2] at CF
 have hct := CT.out
 have hcf := CF.out
 clear CT CF
 have g0 := (q0d h.blk 1).trans rfl
 rw [hlen] at g0
 have WLT := Aside0.mk (blk_lt h.blk)
 clear h hs hk hr hf hn hk0 hrt hok hfew hz hlen hat hi0 hsz0 hA2 hyr hy
 go_enter Try.func17,Try.ntmps17
 go_wp2_with (fail)
 refine RT.out.mono ?_
 rintro e w1 ⟨rfl,hb⟩
 have HB1 := Aside0.mk hb
 have HV1 := Aside0.mk (HV.out.below hb)
 have HR1 := Aside0.mk (HR.out.below hb)
 clear hb RT
 go_wp2_with (fail)
 have MN := Aside0.mk (ref_many g A1 c1 L A c r w1 HV1.out HS.out HK.out HR1.out (by have := HLEN.out;omega))
 rw [MK.out] at MN
 refine MN.out.mono ?_
 rintro e w2 ⟨rfl,hb⟩
 have HB2 := Aside0.mk (HB1.out.trans (hb.mono HB1.out.size))
 have HV2 := Aside0.mk (HV1.out.below hb)
 have HR2 := Aside0.mk (HR1.out.below hb)
 clear hb HB1 HV1 HR1 MN
 go_wp2_with (fail)
 rw [HN2.out]
 refine (FEW.out w2).mono ?_
 rintro e w3 ⟨rfl,hd⟩
 have hb := hd.below
 have HB3 := Aside0.mk (HB2.out.trans (hb.mono HB2.out.size))
 have HV3 := Aside0.mk (HV2.out.below hb)
 have HR3 := Aside0.mk (HR2.out.below hb)
 clear hb hd HB2 HV2 HR2 FEW
 go_wp2_with (fail)
 have FN := Aside0.mk (ref_find g A1 c1 L A c r w3 HV3.out HS.out HK.out HR3.out (by have := HLEN.out;omega))
 rw [HAT.out,HF.out] at FN
 simp only [Option.isSome_some] at FN
 refine FN.out.mono ?_
 rintro e w4 ⟨rfl,hb⟩
 have HB4 := Aside0.mk (HB3.out.trans (hb.mono HB3.out.size))
 have HV4 := Aside0.mk (HV3.out.below hb)
 have HR4 := Aside0.mk (HR3.out.below hb)
 replace g0 := (q0d HV4.out.blk 1).trans rfl
 rw [HLEN.out] at g0
 clear hb HB3 HV3 HR3 FN
 go_upto_region 8 with (fail)
 rw [HN2.out]
 have BX5 := Aside0.mk (blk_new w4 (Obj.cells #[.slice none 0 0,.int .i64 n] 34))
 have HB5 := Aside0.mk (q0b HB4.out (Obj.cells #[.slice none 0 0,.int .i64 n] 34))
 have HV5 := Aside0.mk (HV4.out.below (q0b (Below.refl w4.heap.size w4) (Obj.cells #[.slice none 0 0,.int .i64 n] 34)))
 have HR5 := Aside0.mk (HR4.out.below (q0b (Below.refl w4.heap.size w4) (Obj.cells #[.slice none 0 0,.int .i64 n] 34)))
 have GE := Aside0.mk HB4.out.size
 obtain ⟨bx,hbx⟩ : ∃ bx,w4.heap.size = bx := ⟨_,rfl⟩
 rw [hbx] at BX5 GE ⊢
 clear hbx HB4 HV4 HR4 g0
 generalize w4.alloc (Obj.cells #[.slice none 0 0,.int .i64 n] 34) = w5 at *
 have z0 := q0e BX5.out 0
 have y0 := (q0d BX5.out 0).trans rfl
 have y1 := (q0d BX5.out 1).trans rfl
 go_upto_region 9 with (((with_reducible refine q0v (b := .append) (xs := #[.tmp 42,.tmp 43]) rfl ?_);at_builtin;refine Kd.R_append_rows k66 (w0 := w) w.heap.size rfl (.tmp 42) (.tmp 43) 23 66 (.agg #[(.int .i64 0),(.bool false),(.int .i64 0),(.string ⟨#[]⟩)]) 40 rfl Try.underlying23 info66 rfl (by decide) (by omega) (.slice none 0 0) [] r A r.length c (fun k => k ≠ bx) (fun _ => False) rfl rfl (Kd.R_nil _ _ _ _ _) HR5.out.row (fun x cs h => by rw [k66_open h];exact k66_mkM _ _ _ _) (fun _ h => h.elim) (fun k hk => by have := blk_lt BX5.out;omega) HB5.out HB5.out.size (by have := RL.out;rw [List.length_nil];omega) ?_;intro v1 w6 hv hb3 hg hat;have HV1 := Aside0.mk hv;have HB6 := Aside0.mk hb3;have HV6 := Aside0.mk (HV5.out.keep (ch_grown (S := fun _ => False) hg (fun k e => by cases e)) (fun s => s) (fun _ _ s => s));have BX6 := Aside0.mk (blk_grown BX5.out hg (by simp [Value.ownBlock]));have z6 := q0e BX6.out 0;have y6 := (q0d BX6.out 0).trans rfl;obtain ⟨Ar,cr,er⟩ := Kd.R_slice hv;clear hv hb3 hg hat z0 y0 y1;subst er))
 have cb6 : Ch (fun k => k = bx) w6 (w6.setCell ⟨bx,0,none⟩ (.slice Ar r.length cr)) := (Ch.refl (fun k => k = bx) w6).setCell (p := ⟨bx,0,none⟩) (.inl rfl) _
 have BX7 := Aside0.mk (show (w6.setCell ⟨bx,0,none⟩ (.slice Ar r.length cr)).heap[bx]? = some (.cells #[.slice Ar r.length cr,.int .i64 n] 34 (0,0)) from q0r BX6.out 0 _ rfl)
 have HV7 := Aside0.mk (HV6.out.keep cb6 (fun e => by have := WLT.out;have := GE.out;omega) (fun k hk e => by have := HV.out.lt k hk;have := GE.out;omega))
 have HB7 := Aside0.mk (HB6.out.setCell (p := ⟨bx,0,none⟩) GE.out (.slice Ar r.length cr))
 have HR7 := Aside0.mk (Kd.R_far (p := ⟨bx,0,none⟩) HV1.out (fun k hk => hk) (.slice Ar r.length cr))
 clear cb6 z6 y6 HV1
 generalize w6.setCell ⟨bx,0,none⟩ (.slice Ar r.length cr) = w7 at *
 have RR := Aside0.mk (show ∃ NR : Nat → Prop,(∀ k,NR k → w.heap.size ≤ k ∧ k < w7.heap.size ∧ k ≠ bx) ∧ Kd.F k66 w7 NR Ar r.length r ∧ r.length ≤ cr from ⟨fun k => k ≠ bx ∧ w.heap.size ≤ k ∧ k < w7.heap.size,fun k hk => ⟨hk.2.1,hk.2.2,hk.1⟩,Kd.F_mono (Kd.R_F (Kd.R_bound HR7.out)) (fun k hk => ⟨hk.1,hk.2.1,hk.2.2.1⟩),(Kd.R_reads' HR7.out).2.1⟩)
 obtain ⟨NR,hNR,hFR,hcr⟩ := RR.out
 have NR1 := Aside0.mk hNR
 have FR1 := Aside0.mk hFR
 have CR1 := Aside0.mk hcr
 clear hNR hFR hcr RR HR7
 have g7 := (q0d HV7.out.blk 1).trans rfl
 rw [HLEN.out] at g7
 obtain ⟨ad,A0,c0,e1,x0,x1,_,hc0,hF0⟩ := HV7.out.get (by have := HLEN.out;omega) HY.out
 subst e1
 rw [HYR.out] at x0 hc0 hF0
 have FR2 := Aside0.mk hF0
 have CR2 := Aside0.mk hc0
 have z7 := q0e BX7.out 0
 have y7 := (q0d BX7.out 0).trans rfl
 clear hc0 hF0 x1
 go_upto_region 11 with (fail)
 have cb7 : Ch (fun k => k = bx) w7 (w7.setCell ⟨bx,0,none⟩ (.slice A0 r.length c0)) := (Ch.refl (fun k => k = bx) w7).setCell (p := ⟨bx,0,none⟩) (.inl rfl) _
 have BX9 := Aside0.mk (show (w7.setCell ⟨bx,0,none⟩ (.slice A0 r.length c0)).heap[bx]? = some (.cells #[.slice A0 r.length c0,.int .i64 n] 34 (0,0)) from q0r BX7.out 0 _ rfl)
 have HV9 := Aside0.mk (HV7.out.keep cb7 (fun e => by have := WLT.out;have := GE.out;omega) (fun k hk e => by have := HV.out.lt k hk;have := GE.out;omega))
 have HB9 := Aside0.mk (HB7.out.setCell (p := ⟨bx,0,none⟩) GE.out (.slice A0 r.length c0))
 have FR9 := Aside0.mk (Kd.F_mono (ok' := fun k => D k ∨ NR k) (Kd.F_step FR2.out (W1 := w7.setCell ⟨bx,0,none⟩ (.slice A0 r.length c0)) (fun k hk hlt => cb7.block k hlt (fun e => by have := HV.out.lt k hk;have := GE.out;omega))) (fun k hk => .inl hk))
 have NR9 := Aside0.mk (show ∀ k,NR k → w.heap.size ≤ k ∧ k < (w7.setCell ⟨bx,0,none⟩ (.slice A0 r.length c0)).heap.size ∧ k ≠ bx from fun k hk => ⟨(NR1.out k hk).1,Nat.lt_of_lt_of_le (NR1.out k hk).2.1 cb7.size,(NR1.out k hk).2.2⟩)
 have CR9 := CR2
 clear cb7 z7 y7 x0 g7 FR1 FR2 NR1 CR1 CR2 BX7 HV7 HB7
 generalize w7.setCell ⟨bx,0,none⟩ (.slice A0 r.length c0) = w9 at *
 have OKD := Aside0.mk (fun k (hk : D k) => show (D k ∨ NR k ∨ w9.heap.size ≤ k) ∧ k < w9.heap.size from ⟨.inl hk,Nat.lt_of_lt_of_le (HV.out.lt k hk) HB9.out.size⟩)
 have FT := Aside0.mk (show Kd.F k34 w9 D (some ad) at_ (loD r L) by
  have h1 := Kd.F_take (m := at_) HV9.out.row (by have := HLEN.out;omega)
  rw [TK.out,HAT.out] at h1
  exact h1)
 have g9 := (q0d HV9.out.blk 1).trans rfl
 rw [HLEN.out] at g9
 go_upto_region 13 with (((with_reducible refine q0v (b := .append) (xs := #[.tmp 56,.tmp 62]) rfl ?_);at_builtin;refine Kd.N_append_rows k34 (w0 := w) w.heap.size rfl (.tmp 56) (.tmp 62) 22 34 (.agg #[(.slice none 0 0),(.int .i64 0)]) 32 rfl Try.underlying22 info34 rfl (by decide) (by omega) (.slice none 0 0) [] (loD r L) (some ad) at_ c1 (fun k => D k ∨ NR k ∨ w9.heap.size ≤ k) D rfl rfl (Kd.N_nil _ _ _ _ _) FT.out (fun k hk => ⟨.inl hk,by simp [Value.ownBlock]⟩) (fun k hk => .inr (.inr hk)) HB9.out HB9.out.size (by have := HLEN.out;rw [List.length_nil];omega) ?_;intro v1 w10 hv hb3 hg hat;rw [List.nil_append] at hv;have N10 := Aside0.mk hv;have HB10 := Aside0.mk hb3;have AT10 := Aside0.mk (own_new hat);have N10S := Aside0.mk hg.size;have HV10 := Aside0.mk (HV9.out.keep (ch_grown (S := fun _ => False) hg (fun k e => by cases e)) (fun s => s) (fun _ _ s => s));have BX10 := Aside0.mk (blk_grown BX9.out hg (by simp [Value.ownBlock]));have FR10 := Aside0.mk (Kd.F_grown FR9.out hg (fun k hk => by simp [Value.ownBlock]));have y10 := (q0d BX10.out 0).trans rfl;have y11 := (q0d BX10.out 1).trans rfl;obtain ⟨Al,cl,el⟩ := Kd.N_slice hv;clear hv hb3 hg hat g9;subst el))
 have OKE := Aside0.mk (fun k (hk : D k ∨ NR k) => show (D k ∨ NR k ∨ w9.heap.size ≤ k) ∧ some k ≠ (Value.slice Al (loD r L).length cl).ownBlock from ⟨hk.imp id .inl,fun e => by have := AT10.out k e.symm;have : k < w9.heap.size := hk.elim (fun q => (OKD.out k q).2) (fun q => (NR9.out k q).2.1);omega⟩)
 go_upto_region 15 with (((with_reducible refine q0v (b := .append) (xs := #[.tmp 67,.tmp 69]) rfl ?_);at_builtin;refine Kd.N_append k34 (w0 := w) w.heap.size rfl (.tmp 67) (.tmp 69) 22 34 (.agg #[(.slice none 0 0),(.int .i64 0)]) 32 rfl Try.underlying22 info34 rfl (by decide) (by omega) (.slice Al (loD r L).length cl) (loD r L) (⟨r,n⟩ : En) [.slice A0 r.length c0,.int .i64 n] (fun k => D k ∨ NR k ∨ w9.heap.size ≤ k) (fun k => D k ∨ NR k) rfl rfl (k34_mkF _ _ (⟨r,n⟩ : En) CR9.out FR10.out) OKE.out (fun k hk => .inr (.inr (by have h1 := HB10.out.size;have h2 := HB9.out.size;have h3 := N10S.out;omega))) N10.out HB10.out HB10.out.size (by have := HLEN.out;have := HAT.out;omega) ?_;intro v2 w11 hv hb3 hg hat;obtain ⟨L2,hL2⟩ : ∃ L2,loD r L ++ [(⟨r,n⟩ : En)] = L2 := ⟨_,rfl⟩;rw [hL2] at hv;have HL2 := Aside0.mk hL2;clear hL2;have N12 := Aside0.mk hv;have HB12 := Aside0.mk hb3;have N12S := Aside0.mk (Nat.le_trans N10S.out hg.size);have AT12 := Aside0.mk (own_new2 AT10.out N10S.out hat);have HV12 := Aside0.mk (HV10.out.keep (ch_grown (S := fun k => w9.heap.size ≤ k) hg (fun k e => AT10.out k e)) (fun s => by have := WLT.out;have := HB9.out.size;omega) (fun k hk s => by have := (OKD.out k hk).2;omega));obtain ⟨Al2,cl2,el⟩ := Kd.N_slice hv;clear hv hb3 hg hat y10 y11;subst el))
 have g12 := (q0d HV12.out.blk 1).trans rfl
 rw [HLEN.out] at g12
 clear N10 HB10 HV10 AT10 FR10
 have FT2 := Aside0.mk (show Kd.F k34 w11 D A2 (len - (at_ + 1)) (hiD r L) by
  have h1 := Kd.F_cut (c := c1) (m := (at_ + 1)) HV12.out.row (by have := HLEN.out;omega) HV12.out.cap
  rw [DPH.out] at h1
  have h2 : (hiD r L).length = len - (at_ + 1) := by rw [← DPH.out,List.length_drop,HLEN.out]
  rw [h2] at h1
  rw [← HA2.out]
  exact h1)
 have zg := q0e HV12.out.blk 1
 go_wp2_with (((with_reducible refine q0v (b := .append) (xs := #[.tmp 75,.tmp 81]) rfl ?_);at_builtin;refine Kd.N_append_rows k34 (w0 := w) w.heap.size rfl (.tmp 75) (.tmp 81) 22 34 (.agg #[(.slice none 0 0),(.int .i64 0)]) 32 rfl Try.underlying22 info34 rfl (by decide) (by omega) (.slice Al2 L2.length cl2) L2 (hiD r L) A2 (len - (at_ + 1)) (c1 - (at_ + 1)) (fun k => D k ∨ NR k ∨ w9.heap.size ≤ k) D rfl rfl N12.out FT2.out (fun k hk => ⟨.inl hk,fun e => by have := AT12.out k e.symm;have := (OKD.out k hk).2;omega⟩) (fun k hk => .inr (.inr (by have h1 := HB12.out.size;have h3 := N12S.out;omega))) HB12.out HB12.out.size (by have := HLEN.out;have := HAT.out;have hL2 := congrArg List.length HL2.out;rw [List.length_append] at hL2;simp at hL2;omega) ?_;intro v3 w12 hv hb3 hg hat;obtain ⟨L3,hL3⟩ : ∃ L3,L2 ++ hiD r L = L3 := ⟨_,rfl⟩;rw [hL3] at hv;have HL3 := Aside0.mk hL3;clear hL3;have N13 := Aside0.mk hv;have HB13 := Aside0.mk hb3;have HV13 := Aside0.mk (HV12.out.keep (ch_grown (S := fun k => w9.heap.size ≤ k) hg (fun k e => AT12.out k e)) (fun s => by have := WLT.out;have := HB9.out.size;omega) (fun k hk s => by have := (OKD.out k hk).2;omega));have zg2 := q0e HV13.out.blk 1;have yg2 := (q0d HV13.out.blk 1).trans rfl;obtain ⟨Al3,cl3,el⟩ := Kd.N_slice hv;clear hv hb3 hg hat g12 zg;subst el))
 go_ret
 have hL : L3 = putD r n L := by
  rw [← HL3.out]
  rw [← HL2.out];unfold putD;rw [if_neg HZ.out]
 rw [← hL]
 have s9 := HB9.out.size
 have wl := WLT.out
 have cg : Ch (fun k => k = g) w12 (w12.setCell ⟨g,1,none⟩ (.slice Al3 L3.length cl3)) := (Ch.refl (fun k => k = g) w12).setCell (p := ⟨g,1,none⟩) (.inl rfl) _
 have dn : ∀ k,((D k ∨ NR k ∨ w9.heap.size ≤ k) ∧ k < w12.heap.size) → k ≠ g := fun k hk e => by
  rcases hk.1 with q | q | q
  ·exact HV.out.g_not (e ▸ q)
  ·have := (NR9.out k q).1;omega
  ·omega
 have R1 : RefV V0 (w12.setCell ⟨g,1,none⟩ (.slice Al3 L3.length cl3)) g Al3 cl3 L3 (fun k => (D k ∨ NR k ∨ w9.heap.size ≤ k) ∧ k < w12.heap.size) :=
  ⟨q0r HV13.out.blk 1 _ rfl,(Kd.N_reads' N13.out).2.1,Kd.F_step (Kd.F_bound (Kd.N_F N13.out)) (fun k hk hlt => cg.block k hlt (dn k hk)),fun hk => dn g hk rfl,fun k hk => Nat.lt_of_lt_of_le hk.2 cg.size⟩
 have R2 : RefCh w (w12.setCell ⟨g,1,none⟩ (.slice Al3 L3.length cl3)) g D (fun k => (D k ∨ NR k ∨ w9.heap.size ≤ k) ∧ k < w12.heap.size) :=
  ⟨(Ch.of_below (S := fun k => k = g) HB13.out).then_ cg (fun k hk => .inl hk),fun k hk => hk.1.imp id (fun q => q.elim (fun q => (NR9.out k q).1) (fun q => by omega))⟩
 first
  | exact ⟨_,_,_,rfl,R1,R2⟩
  | exact ⟨rfl,_,_,_,R1,R2⟩
  | exact ⟨rfl,_,_,R1,R2⟩
set_option maxHeartbeats 4000000 in
set_option maxRecDepth 100000 in
theorem ref_addSZ {D : Nat → Prop} (g : Nat) (A1 : Option Addr) (c1 : Nat) (L : List En) (A : Option Addr) (c : Nat) (r : Rw) (m n : Int) (y : En) (w : World) (h : RefV V0 w g A1 c1 L D) (hs : SrtD L) (hk : OkD L) (hr : RowC w A c r) (hl : L.length ≤ 1000000)
  (hrt : rright r = true) (hn : manyD r L + m = n) (hok : okAdd r m L = true) (hz : n = 0) (hf : fndD r L = some y) :
  Calls Try.prog 17 #[.pointer (some ⟨g,1,none⟩),.slice A r.length c,.int .i64 m] w fun e w' => ∃ A' c' D',e = .returned (.int .i64 0) ∧ RefV V0 w' g A' c' (putD r n L) D' ∧ RefCh w w' g D D' := by
 have HV := Aside0.mk h
 have HS := Aside0.mk hs
 have HK := Aside0.mk hk
 have HR := Aside0.mk hr
 have HF := Aside0.mk hf
 have HN := Aside0.mk hn
 have RL := Aside0.mk (right_len hrt)
 have RT := Aside0.mk (rright_at A c r w hr)
 rw [hrt] at RT
 obtain ⟨k,hk0⟩ : ∃ k,manyD r L = k := ⟨_,rfl⟩
 have MK := Aside0.mk hk0
 obtain ⟨m0,m1⟩ := many_bd (r := r) hk
 rw [hk0] at m0 m1 hn
 have hok' := hok
 unfold okAdd at hok'
 rw [Bool.and_eq_true,Bool.and_eq_true,decide_eq_true_eq,decide_eq_true_eq,hk0,hn] at hok'
 obtain ⟨⟨b0,b1⟩,hfew⟩ := hok'
 have HFEW := Aside0.mk hfew
 have f0 := (few_iff.1 hfew).1
 have f1 := (few_iff.1 hfew).2
 have q1 : decide (m < -2147483648) = false := decide_eq_false (by omega)
 have q2 : decide (2147483648 < m) = false := decide_eq_false (by omega)
 have FEW := Aside0.mk (fun W => rfew_calls (k + m) W)
 rw [hn,hfew] at FEW
 have HN2 := Aside0.mk hn
 have q3 : (n != 0) = false := by simp [hz]
 have HZ := Aside0.mk hz
 obtain ⟨len,hlen⟩ : ∃ len,L.length = len := ⟨_,rfl⟩
 obtain ⟨at_,hat⟩ : ∃ at_,(loD r L).length = at_ := ⟨_,rfl⟩
 have HLEN := Aside0.mk hlen
 have HAT := Aside0.mk hat
 have al : at_ ≤ len := by have := lo_len r hs;omega
 have aB : at_ ≤ 1000000 := by omega
 have TK := Aside0.mk (take_lo (r := r) hs)
 have DP := Aside0.mk (drop_lo (r := r) hs)
 rw [hat] at TK DP
 rw [hf] at DP
 have aln : at_ < len := by
  rcases Nat.lt_or_ge at_ len with q | q
  ·exact q
  ·rw [fnd_end hs (by omega)] at hf;cases hf
 have hy : L[at_]? = some y := by
  have h1 := List.getElem?_eq_getElem (show at_ < L.length by omega)
  rcases (fnd_at (r := r) hs (x := L[at_]) (by rw [hat];exact h1)).2 with q | q
  ·rw [hf] at q;rw [h1,q]
  ·rw [hf] at q;cases q
 have HY := Aside0.mk hy
 have hyr : y.f0 = r := by
  have h1 := List.find?_some (show L.find? (fun x => decide (rcmp r x.f0 = 0)) = some y from hf)
  exact (rright_eq hrt (hk y (List.mem_of_find?_eq_some hf)).1 (of_decide_eq_true h1)).symm
 have HYR := Aside0.mk hyr
 have p0 : (0 : Int) ≤ (at_ : Int) := by omega
 have p1 : (at_ : Int) < (len : Int) := by omega
 have DPH := Aside0.mk (show L.drop (at_ + 1) = hiD r L by
  rw [← List.drop_drop,DP.out];rfl)
 obtain ⟨i0,hi0,hsz0⟩ : ∃ i0,Try.prog.info? 34 = some i0 ∧ i0.size = 2 := by
  obtain ⟨i0,hi,hz⟩ := Option.map_eq_some_iff.1 info34
  simp only [Prod.mk.injEq] at hz
  exact ⟨i0,hi,hz.2.1⟩
 have CT := Aside0.mk (cut_to 22 34 .i64 Try.underlying22 hi0 A1 len c1 (at_ : Int) (by omega) (by omega) (by have := h.cap;omega))
 have CF := Aside0.mk (cut_from 22 34 .i64 Try.underlying22 hi0 2 hsz0 A1 len c1 ((at_ : Int) + 1) (by omega) (by omega))
 simp only [Int.toNat_natCast] at CT
 rw [show (((at_ : Int) + 1) : Int).toNat = at_ + 1 by omega] at CF
 obtain ⟨A2,hA2⟩ : ∃ A2,(if c1 = at_ + 1 then A1 else A1.map (·.add ((at_ + 1) * 2))) = A2 := ⟨_,rfl⟩
 have HA2 := Aside0.mk hA2
 rw [hA2] at CF
 have hct := CT.out
 have hcf := CF.out
 clear CT CF
 have g0 := (q0d h.blk 1).trans rfl
 rw [hlen] at g0
 have WLT := Aside0.mk (blk_lt h.blk)
 clear h hs hk hr hf hn hk0 hrt hok hfew hz hlen hat hi0 hsz0 hA2 hyr hy
 go_enter Try.func17,Try.ntmps17
 go_wp2_with (fail)
 refine RT.out.mono ?_
 rintro e w1 ⟨rfl,hb⟩
 have HB1 := Aside0.mk hb
 have HV1 := Aside0.mk (HV.out.below hb)
 have HR1 := Aside0.mk (HR.out.below hb)
 clear hb RT
 go_wp2_with (fail)
 have MN := Aside0.mk (ref_many g A1 c1 L A c r w1 HV1.out HS.out HK.out HR1.out (by have := HLEN.out;omega))
 rw [MK.out] at MN
 refine MN.out.mono ?_
 rintro e w2 ⟨rfl,hb⟩
 have HB2 := Aside0.mk (HB1.out.trans (hb.mono HB1.out.size))
 have HV2 := Aside0.mk (HV1.out.below hb)
 have HR2 := Aside0.mk (HR1.out.below hb)
 clear hb HB1 HV1 HR1 MN
 go_wp2_with (fail)
 rw [HN2.out]
 refine (FEW.out w2).mono ?_
 rintro e w3 ⟨rfl,hd⟩
 have hb := hd.below
 have HB3 := Aside0.mk (HB2.out.trans (hb.mono HB2.out.size))
 have HV3 := Aside0.mk (HV2.out.below hb)
 have HR3 := Aside0.mk (HR2.out.below hb)
 clear hb hd HB2 HV2 HR2 FEW
 go_wp2_with (fail)
 have FN := Aside0.mk (ref_find g A1 c1 L A c r w3 HV3.out HS.out HK.out HR3.out (by have := HLEN.out;omega))
 rw [HAT.out,HF.out] at FN
 simp only [Option.isSome_some] at FN
 refine FN.out.mono ?_
 rintro e w4 ⟨rfl,hb⟩
 have HB4 := Aside0.mk (HB3.out.trans (hb.mono HB3.out.size))
 have HV4 := Aside0.mk (HV3.out.below hb)
 have HR4 := Aside0.mk (HR3.out.below hb)
 replace g0 := (q0d HV4.out.blk 1).trans rfl
 rw [HLEN.out] at g0
 clear hb HB3 HV3 HR3 FN
 go_upto_region 8 with (fail)
 rw [HN2.out]
 have BX5 := Aside0.mk (blk_new w4 (Obj.cells #[.slice none 0 0,.int .i64 n] 34))
 have HB5 := Aside0.mk (q0b HB4.out (Obj.cells #[.slice none 0 0,.int .i64 n] 34))
 have HV5 := Aside0.mk (HV4.out.below (q0b (Below.refl w4.heap.size w4) (Obj.cells #[.slice none 0 0,.int .i64 n] 34)))
 have HR5 := Aside0.mk (HR4.out.below (q0b (Below.refl w4.heap.size w4) (Obj.cells #[.slice none 0 0,.int .i64 n] 34)))
 have GE := Aside0.mk HB4.out.size
 obtain ⟨bx,hbx⟩ : ∃ bx,w4.heap.size = bx := ⟨_,rfl⟩
 rw [hbx] at BX5 GE ⊢
 clear hbx HB4 HV4 HR4 g0
 generalize w4.alloc (Obj.cells #[.slice none 0 0,.int .i64 n] 34) = w5 at *
 have z0 := q0e BX5.out 0
 have y0 := (q0d BX5.out 0).trans rfl
 have y1 := (q0d BX5.out 1).trans rfl
 go_upto_region 9 with (((with_reducible refine q0v (b := .append) (xs := #[.tmp 42,.tmp 43]) rfl ?_);at_builtin;refine Kd.R_append_rows k66 (w0 := w) w.heap.size rfl (.tmp 42) (.tmp 43) 23 66 (.agg #[(.int .i64 0),(.bool false),(.int .i64 0),(.string ⟨#[]⟩)]) 40 rfl Try.underlying23 info66 rfl (by decide) (by omega) (.slice none 0 0) [] r A r.length c (fun k => k ≠ bx) (fun _ => False) rfl rfl (Kd.R_nil _ _ _ _ _) HR5.out.row (fun x cs h => by rw [k66_open h];exact k66_mkM _ _ _ _) (fun _ h => h.elim) (fun k hk => by have := blk_lt BX5.out;omega) HB5.out HB5.out.size (by have := RL.out;rw [List.length_nil];omega) ?_;intro v1 w6 hv hb3 hg hat;have HV1 := Aside0.mk hv;have HB6 := Aside0.mk hb3;have HV6 := Aside0.mk (HV5.out.keep (ch_grown (S := fun _ => False) hg (fun k e => by cases e)) (fun s => s) (fun _ _ s => s));have BX6 := Aside0.mk (blk_grown BX5.out hg (by simp [Value.ownBlock]));have z6 := q0e BX6.out 0;have y6 := (q0d BX6.out 0).trans rfl;obtain ⟨Ar,cr,er⟩ := Kd.R_slice hv;clear hv hb3 hg hat z0 y0 y1;subst er))
 have cb6 : Ch (fun k => k = bx) w6 (w6.setCell ⟨bx,0,none⟩ (.slice Ar r.length cr)) := (Ch.refl (fun k => k = bx) w6).setCell (p := ⟨bx,0,none⟩) (.inl rfl) _
 have BX7 := Aside0.mk (show (w6.setCell ⟨bx,0,none⟩ (.slice Ar r.length cr)).heap[bx]? = some (.cells #[.slice Ar r.length cr,.int .i64 n] 34 (0,0)) from q0r BX6.out 0 _ rfl)
 have HV7 := Aside0.mk (HV6.out.keep cb6 (fun e => by have := WLT.out;have := GE.out;omega) (fun k hk e => by have := HV.out.lt k hk;have := GE.out;omega))
 have HB7 := Aside0.mk (HB6.out.setCell (p := ⟨bx,0,none⟩) GE.out (.slice Ar r.length cr))
 have HR7 := Aside0.mk (Kd.R_far (p := ⟨bx,0,none⟩) HV1.out (fun k hk => hk) (.slice Ar r.length cr))
 clear cb6 z6 y6 HV1
 generalize w6.setCell ⟨bx,0,none⟩ (.slice Ar r.length cr) = w7 at *
 have RR := Aside0.mk (show ∃ NR : Nat → Prop,(∀ k,NR k → w.heap.size ≤ k ∧ k < w7.heap.size ∧ k ≠ bx) ∧ Kd.F k66 w7 NR Ar r.length r ∧ r.length ≤ cr from ⟨fun k => k ≠ bx ∧ w.heap.size ≤ k ∧ k < w7.heap.size,fun k hk => ⟨hk.2.1,hk.2.2,hk.1⟩,Kd.F_mono (Kd.R_F (Kd.R_bound HR7.out)) (fun k hk => ⟨hk.1,hk.2.1,hk.2.2.1⟩),(Kd.R_reads' HR7.out).2.1⟩)
 obtain ⟨NR,hNR,hFR,hcr⟩ := RR.out
 have NR1 := Aside0.mk hNR
 have FR1 := Aside0.mk hFR
 have CR1 := Aside0.mk hcr
 clear hNR hFR hcr RR HR7
 have g7 := (q0d HV7.out.blk 1).trans rfl
 rw [HLEN.out] at g7
 obtain ⟨ad,A0,c0,e1,x0,x1,_,hc0,hF0⟩ := HV7.out.get (by have := HLEN.out;omega) HY.out
 subst e1
 rw [HYR.out] at x0 hc0 hF0
 have FR2 := Aside0.mk hF0
 have CR2 := Aside0.mk hc0
 have z7 := q0e BX7.out 0
 have y7 := (q0d BX7.out 0).trans rfl
 clear hc0 hF0 x1
 go_upto_region 11 with (fail)
 have cb7 : Ch (fun k => k = bx) w7 (w7.setCell ⟨bx,0,none⟩ (.slice A0 r.length c0)) := (Ch.refl (fun k => k = bx) w7).setCell (p := ⟨bx,0,none⟩) (.inl rfl) _
 have BX9 := Aside0.mk (show (w7.setCell ⟨bx,0,none⟩ (.slice A0 r.length c0)).heap[bx]? = some (.cells #[.slice A0 r.length c0,.int .i64 n] 34 (0,0)) from q0r BX7.out 0 _ rfl)
 have HV9 := Aside0.mk (HV7.out.keep cb7 (fun e => by have := WLT.out;have := GE.out;omega) (fun k hk e => by have := HV.out.lt k hk;have := GE.out;omega))
 have HB9 := Aside0.mk (HB7.out.setCell (p := ⟨bx,0,none⟩) GE.out (.slice A0 r.length c0))
 have FR9 := Aside0.mk (Kd.F_mono (ok' := fun k => D k ∨ NR k) (Kd.F_step FR2.out (W1 := w7.setCell ⟨bx,0,none⟩ (.slice A0 r.length c0)) (fun k hk hlt => cb7.block k hlt (fun e => by have := HV.out.lt k hk;have := GE.out;omega))) (fun k hk => .inl hk))
 have NR9 := Aside0.mk (show ∀ k,NR k → w.heap.size ≤ k ∧ k < (w7.setCell ⟨bx,0,none⟩ (.slice A0 r.length c0)).heap.size ∧ k ≠ bx from fun k hk => ⟨(NR1.out k hk).1,Nat.lt_of_lt_of_le (NR1.out k hk).2.1 cb7.size,(NR1.out k hk).2.2⟩)
 have CR9 := CR2
 clear cb7 z7 y7 x0 g7 FR1 FR2 NR1 CR1 CR2 BX7 HV7 HB7
 generalize w7.setCell ⟨bx,0,none⟩ (.slice A0 r.length c0) = w9 at *
 have OKD := Aside0.mk (fun k (hk : D k) => show (D k ∨ NR k ∨ w9.heap.size ≤ k) ∧ k < w9.heap.size from ⟨.inl hk,Nat.lt_of_lt_of_le (HV.out.lt k hk) HB9.out.size⟩)
 have FT := Aside0.mk (show Kd.F k34 w9 D (some ad) at_ (loD r L) by
  have h1 := Kd.F_take (m := at_) HV9.out.row (by have := HLEN.out;omega)
  rw [TK.out,HAT.out] at h1
  exact h1)
 have g9 := (q0d HV9.out.blk 1).trans rfl
 rw [HLEN.out] at g9
 go_upto_region 13 with (((with_reducible refine q0v (b := .append) (xs := #[.tmp 56,.tmp 62]) rfl ?_);at_builtin;refine Kd.N_append_rows k34 (w0 := w) w.heap.size rfl (.tmp 56) (.tmp 62) 22 34 (.agg #[(.slice none 0 0),(.int .i64 0)]) 32 rfl Try.underlying22 info34 rfl (by decide) (by omega) (.slice none 0 0) [] (loD r L) (some ad) at_ c1 (fun k => D k ∨ NR k ∨ w9.heap.size ≤ k) D rfl rfl (Kd.N_nil _ _ _ _ _) FT.out (fun k hk => ⟨.inl hk,by simp [Value.ownBlock]⟩) (fun k hk => .inr (.inr hk)) HB9.out HB9.out.size (by have := HLEN.out;rw [List.length_nil];omega) ?_;intro v1 w10 hv hb3 hg hat;rw [List.nil_append] at hv;have N10 := Aside0.mk hv;have HB10 := Aside0.mk hb3;have AT10 := Aside0.mk (own_new hat);have N10S := Aside0.mk hg.size;have HV10 := Aside0.mk (HV9.out.keep (ch_grown (S := fun _ => False) hg (fun k e => by cases e)) (fun s => s) (fun _ _ s => s));have BX10 := Aside0.mk (blk_grown BX9.out hg (by simp [Value.ownBlock]));have FR10 := Aside0.mk (Kd.F_grown FR9.out hg (fun k hk => by simp [Value.ownBlock]));have y10 := (q0d BX10.out 0).trans rfl;have y11 := (q0d BX10.out 1).trans rfl;obtain ⟨Al,cl,el⟩ := Kd.N_slice hv;clear hv hb3 hg hat g9;subst el))
 have N12 := N10
 have HB12 := HB10
 have HV12 := HV10
 have AT12 := AT10
 have N12S := N10S
 have g12 := (q0d HV12.out.blk 1).trans rfl
 rw [HLEN.out] at g12
 clear N10 HB10 HV10 AT10 FR10
 have FT2 := Aside0.mk (show Kd.F k34 w10 D A2 (len - (at_ + 1)) (hiD r L) by
  have h1 := Kd.F_cut (c := c1) (m := (at_ + 1)) HV12.out.row (by have := HLEN.out;omega) HV12.out.cap
  rw [DPH.out] at h1
  have h2 : (hiD r L).length = len - (at_ + 1) := by rw [← DPH.out,List.length_drop,HLEN.out]
  rw [h2] at h1
  rw [← HA2.out]
  exact h1)
 have zg := q0e HV12.out.blk 1
 go_wp2_with (((with_reducible refine q0v (b := .append) (xs := #[.tmp 75,.tmp 81]) rfl ?_);at_builtin;refine Kd.N_append_rows k34 (w0 := w) w.heap.size rfl (.tmp 75) (.tmp 81) 22 34 (.agg #[(.slice none 0 0),(.int .i64 0)]) 32 rfl Try.underlying22 info34 rfl (by decide) (by omega) (.slice Al (loD r L).length cl) (loD r L) (hiD r L) A2 (len - (at_ + 1)) (c1 - (at_ + 1)) (fun k => D k ∨ NR k ∨ w9.heap.size ≤ k) D rfl rfl N12.out FT2.out (fun k hk => ⟨.inl hk,fun e => by have := AT12.out k e.symm;have := (OKD.out k hk).2;omega⟩) (fun k hk => .inr (.inr (by have h1 := HB12.out.size;have h3 := N12S.out;omega))) HB12.out HB12.out.size (by have := HLEN.out;have := HAT.out;omega) ?_;intro v3 w12 hv hb3 hg hat;obtain ⟨L3,hL3⟩ : ∃ L3,(loD r L) ++ hiD r L = L3 := ⟨_,rfl⟩;rw [hL3] at hv;have HL3 := Aside0.mk hL3;clear hL3;have N13 := Aside0.mk hv;have HB13 := Aside0.mk hb3;have HV13 := Aside0.mk (HV12.out.keep (ch_grown (S := fun k => w9.heap.size ≤ k) hg (fun k e => AT12.out k e)) (fun s => by have := WLT.out;have := HB9.out.size;omega) (fun k hk s => by have := (OKD.out k hk).2;omega));have zg2 := q0e HV13.out.blk 1;have yg2 := (q0d HV13.out.blk 1).trans rfl;obtain ⟨Al3,cl3,el⟩ := Kd.N_slice hv;clear hv hb3 hg hat g12 zg;subst el))
 go_ret
 have hL : L3 = putD r n L := by
  rw [← HL3.out]
  unfold putD;rw [if_pos HZ.out,List.append_nil]
 rw [← hL]
 have s9 := HB9.out.size
 have wl := WLT.out
 have cg : Ch (fun k => k = g) w12 (w12.setCell ⟨g,1,none⟩ (.slice Al3 L3.length cl3)) := (Ch.refl (fun k => k = g) w12).setCell (p := ⟨g,1,none⟩) (.inl rfl) _
 have dn : ∀ k,((D k ∨ NR k ∨ w9.heap.size ≤ k) ∧ k < w12.heap.size) → k ≠ g := fun k hk e => by
  rcases hk.1 with q | q | q
  ·exact HV.out.g_not (e ▸ q)
  ·have := (NR9.out k q).1;omega
  ·omega
 have R1 : RefV V0 (w12.setCell ⟨g,1,none⟩ (.slice Al3 L3.length cl3)) g Al3 cl3 L3 (fun k => (D k ∨ NR k ∨ w9.heap.size ≤ k) ∧ k < w12.heap.size) :=
  ⟨q0r HV13.out.blk 1 _ rfl,(Kd.N_reads' N13.out).2.1,Kd.F_step (Kd.F_bound (Kd.N_F N13.out)) (fun k hk hlt => cg.block k hlt (dn k hk)),fun hk => dn g hk rfl,fun k hk => Nat.lt_of_lt_of_le hk.2 cg.size⟩
 have R2 : RefCh w (w12.setCell ⟨g,1,none⟩ (.slice Al3 L3.length cl3)) g D (fun k => (D k ∨ NR k ∨ w9.heap.size ≤ k) ∧ k < w12.heap.size) :=
  ⟨(Ch.of_below (S := fun k => k = g) HB13.out).then_ cg (fun k hk => .inl hk),fun k hk => hk.1.imp id (fun q => q.elim (fun q => (NR9.out k q).1) (fun q => by omega))⟩
 first
  | exact ⟨_,_,_,rfl,R1,R2⟩
  | exact ⟨rfl,_,_,_,R1,R2⟩
  | exact ⟨rfl,_,_,R1,R2⟩
theorem ref_add {D : Nat → Prop} (g : Nat) (A1 : Option Addr) (c1 : Nat) (L : List En) (A : Option Addr) (c : Nat) (r : Rw) (m : Int) (w : World) (h : RefV V0 w g A1 c1 L D) (hs : SrtD L) (hk : OkD L) (hr : RowC w A c r) (hl : L.length ≤ 1000000) :
  Calls Try.prog 17 #[.pointer (some ⟨g,1,none⟩),.slice A r.length c,.int .i64 m] w fun e w' => ∃ A' c' D',e = .returned (.int .i64 (addD r m L).1) ∧ RefV V0 w' g A' c' (addD r m L).2 D' ∧ RefCh w w' g D D' := by
 by_cases hrt : rright r = true
 ·rw [add_right hrt]
  by_cases hok : okAdd r m L = true
  ·rw [if_pos hok]
   by_cases hz : manyD r L + m = 0
   ·cases hf : fndD r L with
    | none => exact ref_addNZ g A1 c1 L A c r m _ w h hs hk hr hl hrt rfl hok hz hf
    | some y => exact ref_addSZ g A1 c1 L A c r m _ y w h hs hk hr hl hrt rfl hok hz hf
   ·cases hf : fndD r L with
    | none => exact ref_addNN g A1 c1 L A c r m _ w h hs hk hr hl hrt rfl hok hz hf
    | some y => exact ref_addSN g A1 c1 L A c r m _ y w h hs hk hr hl hrt rfl hok hz hf
  ·rw [if_neg hok]
   exact ref_addX g A1 c1 L A c r m w h hs hk hr hl hrt (by simpa using hok)
 ·have e1 : addD r m L = (2,L) := by unfold addD;rw [if_neg hrt]
  rw [e1]
  exact ref_addR g A1 c1 L A c r m w h hr (by simpa using hrt)
end Ri
end Go.Proofs.Ythmbfcfomcaaaaa.Z
end
section
namespace Go.Proofs.Ythmbfcfomcaaaaa.Z
open Go.RowKit Go.Proofs.YthmbfcfomcaaaaaW.PrintWords Go.Proofs.YthmbfcfomcaaaaaW.PrintLast Go.Proofs.YthmbfcfomcaaaaaW.PrintMore
attribute [local go_sem] max2_int min2_int max_two min_two max_three min_three max_four min_four
set_option linter.unusedVariables false
set_option linter.unusedSimpArgs false
def verdererref02_Pick.l0 : Nat → List (S66) → List Int → List (S66) → Int → Option ((List (S66)) × Int)
 | 0,_,_,_,_ => none
 | k + 1,x0,x1,x6,x7 => if x7 < (x1.length : Int) then (if 0 ≤ x7 then (if (rd x1 x7) < 0 then (some (([] : List (S66)),2)) else (if (rd x1 x7) ≥ (x0.length : Int) then (some (([] : List (S66)),2)) else (if 0 ≤ (rd x1 x7) then (if (rd x1 x7) < (x0.length : Int) then (if x6.length < 3518437208883 then (verdererref02_Pick.l0 k x0 x1 (x6 ++ [(⟨(q0f x0 (rd x1 x7)).f0,(q0f x0 (rd x1 x7)).f1,(q0f x0 (rd x1 x7)).f2,(q0f x0 (rd x1 x7)).f3⟩ : S66)]) (wrap64 (x7 + 1))) else (none)) else (none)) else (none)))) else (none)) else (some (x6,0))
def verdererref02_Pick.f (k : Nat) (l0 : List (S66)) (l1 : List Int) : Option ((List (S66)) × Int) := verdererref02_Pick.l0 k l0 l1 ([] : List (S66)) 0
theorem verdererref02_Pick.mono_l : ∀ k,(∀ y0 y1 y2 y3,LeO (verdererref02_Pick.l0 k y0 y1 y2 y3) (verdererref02_Pick.l0 (k + 1) y0 y1 y2 y3))
 | 0 => fun _ _ _ _ r h => by simp [verdererref02_Pick.l0] at h
 | k + 1 => by
  have ih0 := verdererref02_Pick.mono_l k
  ·intro y0 y1 y2 y3
   unfold verdererref02_Pick.l0
   repeat' first
   | (with_reducible exact ih0 _ _ _ _)
   | (with_reducible exact LeO.refl _)
   | (with_reducible exact LeO.none _)
   | (with_reducible refine LeO.ite ?_ ?_)
   | (with_reducible refine LeO.bind ?_ (fun _ => ?_))
   | exact ih0 _ _ _ _
   | exact LeO.none _
   | refine LeO.ite ?_ ?_
   | refine LeO.bind ?_ (fun _ => ?_)
theorem verdererref02_Pick.mono : ∀ a0 a1 k,LeO (verdererref02_Pick.f k a0 a1) (verdererref02_Pick.f (k + 1) a0 a1) := by
 intro a0 a1 k
 have ih0 := verdererref02_Pick.mono_l k
 unfold verdererref02_Pick.f
 repeat' first
   | (with_reducible exact ih0 _ _ _ _)
   | (with_reducible exact LeO.refl _)
   | (with_reducible exact LeO.none _)
   | (with_reducible refine LeO.ite ?_ ?_)
   | (with_reducible refine LeO.bind ?_ (fun _ => ?_))
   | exact ih0 _ _ _ _
   | exact LeO.none _
   | refine LeO.ite ?_ ?_
   | refine LeO.bind ?_ (fun _ => ?_)
set_option maxHeartbeats 8000000 in
set_option maxRecDepth 100000 in
theorem verdererref02_Pick.calls (k : Nat) (A0 : Option Addr) (c0 : Nat) (l0 : List (S66)) (A1 : Option Addr) (c1 : Nat) (l1 : List Int) (r1 : List (S66)) (r2 : Int) (w : World) (hr0 : Kd.C k66 w A0 l0.length l0) (hc0 : l0.length ≤ c0) (hr1 : Kd.C (Kd.int .i64) w A1 l1.length l1) (hc1 : l1.length ≤ c1) (h : verdererref02_Pick.f k l0 l1 = some (r1,r2)) :
  Calls Try.prog 82 #[.slice A0 l0.length c0,.slice A1 l1.length c1] w fun e w' => ∃ v0_ : Value,e = .returned (.tuple #[v0_,.int .i64 r2]) ∧ Kd.R k66 66 w' w.heap.size (fun _ => True) v0_ r1 ∧ Below w.heap.size w w' := by
 have hu66 := Try.underlying66
 have HR0 := Aside0.mk hr0
 have HC0 := Aside0.mk hc0
 clear hr0 hc0
 have HR1 := Aside0.mk hr1
 have HC1 := Aside0.mk hc1
 clear hr1 hc1
 have HB := Aside0.mk (Below.refl w.heap.size w)
 have H : (verdererref02_Pick.l0 k l0 l1 ([] : List (S66)) 0) = some (r1,r2) := h
 clear h
 have H' := Aside0.mk H
 clear H
 go_enter Try.func82,Try.ntmps82
 go_wp2
 go_loopg [6,7] k (fun kq v6 v7 w' => ∃ (x6_1 : List (S66)) (x7_1 : Int),v7 = .int .i64 x7_1 ∧ Aside0 (verdererref02_Pick.l0 kq l0 l1 x6_1 x7_1 = some (r1,r2)) ∧ Aside0 (kq ≤ k) ∧ Aside0 (Kd.R k66 66 w' w.heap.size (fun _ => True) v6 x6_1) ∧ Aside0 (Below w.heap.size w w'))
 case atStart => exact ⟨(([] : List (S66))),(0),(by first | rfl | (simp;done) | (simp [*];done)),H',⟨Nat.le_refl _⟩,⟨by first | exact Kd.R_nil _ _ _ _ _ | exact Kd.N_nil _ _ _ _ _ | exact Kd.V_nil _ _ _ _ _ | exact Kd.Q_nil _ _ _ _ _ | exact Kd.S_nil _ _ _ _ _⟩,⟨by repeat (first | (with_reducible first | exact HB.out | apply q0b | apply q0a | apply q0c) | exact HB.out)⟩⟩
 case round =>
  clear H'
  try clear c1
  try clear p2
  obtain ⟨x6_1,x7_1,rfl,HA,HK1,HO_6,HB⟩ := hrel
  cases gk with
  | zero => exact absurd HA.out (by simp [verdererref02_Pick.l0])
  | succ k1 =>
   have H := HA.out
   clear HA
   simp only [verdererref02_Pick.l0] at H
   by_cases c3 : x7_1 < (l1.length : Int)
   ·rw [if_pos c3] at H
    have c3b0 : decide (x7_1 < (l1.length : Int)) = true := decide_eq_true c3
    clear c3
    by_cases c4 : 0 ≤ x7_1
    ·rw [if_pos c4] at H
     have c4b0 : decide (0 ≤ x7_1) = true := decide_eq_true c4
     clear c4
     by_cases c5 : (rd l1 x7_1) < 0
     ·rw [if_pos c5] at H
      have c5b0 : decide ((rd l1 x7_1) < 0) = true := decide_eq_true c5
      clear c5
      simp only [Option.some.injEq,Prod.mk.injEq] at H
      obtain ⟨rfl,rfl⟩ := H
      have p182 : 0 ≤ (x7_1 : Int) := of_decide_eq_true (by first | (with_reducible assumption) | assumption)
      have q182 : x7_1 < (l1.length : Int) := of_decide_eq_true (by first | (with_reducible assumption) | assumption)
      obtain ⟨ad182,e182,hx182_0⟩ := Kd.at_int HR1.out x7_1 p182 q182
      cases e182
      replace hx182_0 := (HB.out.cell (World.block_lt_of_cell? w _ hx182_0)).trans hx182_0
      replace p182 := eq_true p182
      replace q182 := eq_true q182
      go_wp2
      go_ret2
      exact ⟨_,by first | rfl | (simp [q0m,q0l] <;> rfl) | (simp [*,q0m,q0l] <;> rfl),by first | exact Kd.R_nil _ _ _ _ _ | exact Kd.N_nil _ _ _ _ _ | exact Kd.V_nil _ _ _ _ _ | exact Kd.Q_nil _ _ _ _ _ | exact Kd.S_nil _ _ _ _ _,by repeat (first | (with_reducible first | exact HB.out | apply q0b | apply q0a | apply q0c) | exact HB.out)⟩
     ·rw [if_neg c5] at H
      have c5b0 : decide ((rd l1 x7_1) < 0) = false := decide_eq_false c5
      clear c5
      by_cases c6 : (rd l1 x7_1) ≥ (l0.length : Int)
      ·rw [if_pos c6] at H
       have c6b0 : decide ((l0.length : Int) ≤ (rd l1 x7_1)) = true := decide_eq_true c6
       clear c6
       simp only [Option.some.injEq,Prod.mk.injEq] at H
       obtain ⟨rfl,rfl⟩ := H
       have p182 : 0 ≤ (x7_1 : Int) := of_decide_eq_true (by first | (with_reducible assumption) | assumption)
       have q182 : x7_1 < (l1.length : Int) := of_decide_eq_true (by first | (with_reducible assumption) | assumption)
       obtain ⟨ad182,e182,hx182_0⟩ := Kd.at_int HR1.out x7_1 p182 q182
       cases e182
       replace hx182_0 := (HB.out.cell (World.block_lt_of_cell? w _ hx182_0)).trans hx182_0
       replace p182 := eq_true p182
       replace q182 := eq_true q182
       have p183 : 0 ≤ (x7_1 : Int) := of_decide_eq_true (by first | (with_reducible assumption) | assumption)
       have q183 : x7_1 < (l1.length : Int) := of_decide_eq_true (by first | (with_reducible assumption) | assumption)
       obtain ⟨ad183,e183,hx183_0⟩ := Kd.at_int HR1.out x7_1 p183 q183
       obtain rfl : ad182 = ad183 := (by injection e183)
       replace hx183_0 := (HB.out.cell (World.block_lt_of_cell? w _ hx183_0)).trans hx183_0
       replace p183 := eq_true p183
       replace q183 := eq_true q183
       go_wp2
       go_ret2
       exact ⟨_,by first | rfl | (simp [q0m,q0l] <;> rfl) | (simp [*,q0m,q0l] <;> rfl),by first | exact Kd.R_nil _ _ _ _ _ | exact Kd.N_nil _ _ _ _ _ | exact Kd.V_nil _ _ _ _ _ | exact Kd.Q_nil _ _ _ _ _ | exact Kd.S_nil _ _ _ _ _,by repeat (first | (with_reducible first | exact HB.out | apply q0b | apply q0a | apply q0c) | exact HB.out)⟩
      ·rw [if_neg c6] at H
       have c6b0 : decide ((l0.length : Int) ≤ (rd l1 x7_1)) = false := decide_eq_false c6
       clear c6
       by_cases c7 : 0 ≤ (rd l1 x7_1)
       ·rw [if_pos c7] at H
        have c7b0 : decide (0 ≤ (rd l1 x7_1)) = true := decide_eq_true c7
        clear c7
        by_cases c8 : (rd l1 x7_1) < (l0.length : Int)
        ·rw [if_pos c8] at H
         have c8b0 : decide ((rd l1 x7_1) < (l0.length : Int)) = true := decide_eq_true c8
         clear c8
         by_cases c9 : x6_1.length < 3518437208883
         ·rw [if_pos c9] at H
          have LMc9 := Aside0.mk c9
          clear c9
          obtain ⟨y186,hy186⟩ : ∃ y_ : List (S66),y_ = (x6_1 ++ [(⟨(q0f l0 (rd l1 x7_1)).f0,(q0f l0 (rd l1 x7_1)).f1,(q0f l0 (rd l1 x7_1)).f2,(q0f l0 (rd l1 x7_1)).f3⟩ : S66)]) := ⟨_,rfl⟩
          replace H : (verdererref02_Pick.l0 k1 l0 l1 y186 (wrap64 (x7_1 + 1))) = some (r1,r2) := by first | (rw [hy186];with_reducible exact H) | (have H2_ := (Option.bind_some _ _).symm.trans H;rw [hy186];with_reducible exact H2_) | (have H2_ := (Option.bind_some _ _).symm.trans H;with_reducible exact H2_) | with_reducible exact H | (rw [hy186];exact H) | exact H
          have Ny186 := Aside0.mk hy186
          clear hy186
          have H' := Aside0.mk H
          clear H
          have p182 : 0 ≤ (x7_1 : Int) := of_decide_eq_true (by first | (with_reducible assumption) | assumption)
          have q182 : x7_1 < (l1.length : Int) := of_decide_eq_true (by first | (with_reducible assumption) | assumption)
          obtain ⟨ad182,e182,hx182_0⟩ := Kd.at_int HR1.out x7_1 p182 q182
          cases e182
          replace hx182_0 := (HB.out.cell (World.block_lt_of_cell? w _ hx182_0)).trans hx182_0
          replace p182 := eq_true p182
          replace q182 := eq_true q182
          have p183 : 0 ≤ (x7_1 : Int) := of_decide_eq_true (by first | (with_reducible assumption) | assumption)
          have q183 : x7_1 < (l1.length : Int) := of_decide_eq_true (by first | (with_reducible assumption) | assumption)
          obtain ⟨ad183,e183,hx183_0⟩ := Kd.at_int HR1.out x7_1 p183 q183
          obtain rfl : ad182 = ad183 := (by injection e183)
          replace hx183_0 := (HB.out.cell (World.block_lt_of_cell? w _ hx183_0)).trans hx183_0
          replace p183 := eq_true p183
          replace q183 := eq_true q183
          have p184 : 0 ≤ (x7_1 : Int) := of_decide_eq_true (by first | (with_reducible assumption) | assumption)
          have q184 : x7_1 < (l1.length : Int) := of_decide_eq_true (by first | (with_reducible assumption) | assumption)
          obtain ⟨ad184,e184,hx184_0⟩ := Kd.at_int HR1.out x7_1 p184 q184
          obtain rfl : ad182 = ad184 := (by injection e184)
          replace hx184_0 := (HB.out.cell (World.block_lt_of_cell? w _ hx184_0)).trans hx184_0
          replace p184 := eq_true p184
          replace q184 := eq_true q184
          have p185 : 0 ≤ ((rd l1 x7_1) : Int) := of_decide_eq_true (by first | (with_reducible assumption) | assumption)
          have q185 : (rd l1 x7_1) < (l0.length : Int) := of_decide_eq_true (by first | (with_reducible assumption) | assumption)
          obtain ⟨ad185,e185,hx185_0,hx185_1,hx185_2,hx185_3⟩ := at_T66 HR0.out (rd l1 x7_1) p185 q185
          cases e185
          replace hx185_0 := (HB.out.cell (World.block_lt_of_cell? w _ hx185_0)).trans hx185_0
          replace hx185_1 := (HB.out.cell (World.block_lt_of_cell? w _ hx185_1)).trans hx185_1
          replace hx185_2 := (HB.out.cell (World.block_lt_of_cell? w _ hx185_2)).trans hx185_2
          replace hx185_3 := (HB.out.cell (World.block_lt_of_cell? w _ hx185_3)).trans hx185_3
          replace p185 := eq_true p185
          replace q185 := eq_true q185
          go_wp2_with (first | ((with_reducible refine q0v (b := .append) (xs := #[.tmp 28,.tmp 36]) rfl ?_);(try (refine gate_guard (by rfl) ?_;dsimp only));at_builtin;refine Kd.R_append k66 (w0 := w) w.heap.size rfl (.tmp 28) (.tmp 36) 23 66 (.agg #[(.int .i64 0),(.bool false),(.int .i64 0),(.string ⟨#[]⟩)]) 40 rfl Try.underlying23 info66 rfl (by decide) (by omega) u6 x6_1 (⟨(q0f l0 (rd l1 x7_1)).f0,(q0f l0 (rd l1 x7_1)).f1,(q0f l0 (rd l1 x7_1)).f2,(q0f l0 (rd l1 x7_1)).f3⟩ : S66) [.int .i64 ((q0f l0 (rd l1 x7_1)).f0),.bool ((q0f l0 (rd l1 x7_1)).f1),.int .i64 ((q0f l0 (rd l1 x7_1)).f2),.string ((q0f l0 (rd l1 x7_1)).f3)] (fun _ => True) (fun _ => False) rfl rfl ?aP (fun _ hk => hk.elim) ?aF ?aO ?aB ?aS ?aL ?_;(case aP => exact k66_mkM _ _ _ (⟨(q0f l0 (rd l1 x7_1)).f0,(q0f l0 (rd l1 x7_1)).f1,(q0f l0 (rd l1 x7_1)).f2,(q0f l0 (rd l1 x7_1)).f3⟩ : S66));(case aB => exact (by repeat (first | (with_reducible first | exact HB.out | apply q0b | apply q0a | apply q0c) | exact HB.out)));(case aF => exact (fun _ _ => trivial));(case aO => exact (by (with_reducible repeat (first | apply Kd.R_alloc | apply Kd.R_drewN | apply Kd.R_drew));exact HO_6.out));(case aS => exact (q0g (by repeat (first | (with_reducible first | exact HB.out | apply q0b | apply q0a | apply q0c) | exact HB.out))));(case aL => have := LMc9.out;omega);intro v187 w10 ho hb hg hat;rw [← Ny186.out] at ho;have n0_ := Aside0.mk (hb);have n1_ := Aside0.mk (ho);clear HB;clear HO_6;have HB := n0_;have HO188 := n1_;clear n0_ n1_;clear ho hb hg hat))
          go_roundg k1
          case measure => have := HK1.out;omega
          case rel => exact ⟨(y186),(wrap64 (x7_1 + 1)),(by first | rfl | (simp;done) | (simp [*];done)),H',⟨by have := HK1.out;omega⟩,⟨by (with_reducible repeat (first | apply Kd.R_alloc | apply Kd.R_drewN | apply Kd.R_drew));exact HO188.out⟩,⟨by repeat (first | (with_reducible first | exact HB.out | apply q0b | apply q0a | apply q0c) | exact HB.out)⟩⟩
         ·rw [if_neg c9] at H
          exact absurd H (by simp)
        ·rw [if_neg c8] at H
         exact absurd H (by simp)
       ·rw [if_neg c7] at H
        exact absurd H (by simp)
    ·rw [if_neg c4] at H
     exact absurd H (by simp)
   ·rw [if_neg c3] at H
    have c3b0 : decide (x7_1 < (l1.length : Int)) = false := decide_eq_false c3
    clear c3
    simp only [Option.some.injEq,Prod.mk.injEq] at H
    obtain ⟨rfl,rfl⟩ := H
    go_wp2
    go_ret2
    exact ⟨_,by first | rfl | (simp [q0m,q0l] <;> rfl) | (simp [*,q0m,q0l] <;> rfl),by (with_reducible repeat (first | apply Kd.R_alloc | apply Kd.R_drewN | apply Kd.R_drew));exact HO_6.out,by repeat (first | (with_reducible first | exact HB.out | apply q0b | apply q0a | apply q0c) | exact HB.out)⟩
end Go.Proofs.Ythmbfcfomcaaaaa.Z
end
section
namespace Go.Proofs.Ythmbfcfomcaaaaa.Z
set_option linter.unusedVariables false
set_option linter.unusedSimpArgs false
open Go.RowKit Go.Shelf Go.Maps Go.Proofs.YthmbfcfomcaaaaaW.PrintWords Go.Proofs.YthmbfcfomcaaaaaW.PrintLast Go.Proofs.YthmbfcfomcaaaaaW.PrintMore Go.Proofs.Ythmbfcfomcaaaaa.Cmp
theorem pickR_l0 (r : Rw) (cols : List Int) (hl : cols.length ≤ 1000000000) : ∀ d i k acc,cols.length - i = d → i ≤ cols.length → acc.length ≤ i → d < k → verdererref02_Pick.l0 k r cols acc (i : Int) = some (pickF r (cols.drop i) acc) := by
 intro d
 induction d with
 | zero =>
  intro i k acc hd hi ha hk
  obtain ⟨k,rfl⟩ : ∃ m,k = m + 1 := ⟨k - 1,by omega⟩
  simp only [verdererref02_Pick.l0]
  rw [if_neg (by omega),List.drop_eq_nil_of_le (by omega)]
  rfl
 | succ d ih =>
  intro i k acc hd hi ha hk
  obtain ⟨k,rfl⟩ : ∃ m,k = m + 1 := ⟨k - 1,by omega⟩
  have hlt : i < cols.length := by omega
  simp only [verdererref02_Pick.l0]
  rw [if_pos (by omega),if_pos (by omega),dropI_rd hlt]
  simp only [pickF]
  by_cases h1 : rd cols (i : Int) < 0
  ·rw [if_pos h1,if_pos (.inl h1)]
  ·by_cases h2 : rd cols (i : Int) ≥ (r.length : Int)
   ·rw [if_neg h1,if_pos h2,if_pos (.inr h2)]
   ·rw [if_neg h1,if_neg h2,if_pos (by omega),if_pos (by omega),if_pos (by omega),if_neg (by omega),wrap_succ hlt (by omega)]
    exact ih (i + 1) k _ (by omega) (by omega) (by simp;omega) (by omega)
theorem pickR_f (r : Rw) (cols : List Int) (hl : cols.length ≤ 1000000000) (k : Nat) (hk : cols.length < k) : verdererref02_Pick.f k r cols = some (pickF r cols []) := by
 have h := pickR_l0 r cols hl cols.length 0 k [] (by omega) (by omega) (by simp) hk
 rw [show ((0 : Nat) : Int) = 0 from rfl] at h
 exact h
theorem rpick_at (A0 A1 : Option Addr) (c0 c1 : Nat) (r : Rw) (cols : List Int) (w : World) (h0 : RowC w A0 c0 r) (h1 : Kd.C (Kd.int .i64) w A1 cols.length cols) (hc : cols.length ≤ c1) (hl : cols.length ≤ 1048576) :
  Calls Try.prog 82 #[.slice A0 r.length c0,.slice A1 cols.length c1] w fun e w' => ∃ v,e = .returned (.tuple #[v,.int .i64 (pickF r cols []).2]) ∧ Kd.R k66 66 w' w.heap.size (fun _ => True) v (keyR cols r) ∧ Below w.heap.size w w' :=
 verdererref02_Pick.calls 1048577 A0 c0 r A1 c1 cols (keyR cols r) (pickF r cols []).2 w h0.row h0.cap h1 hc (pickR_f r cols (by omega) 1048577 (by omega))
theorem int_get {w : World} {A : Option Addr} {n : Nat} {l : List Int} (h : Kd.C (Kd.int .i64) w A n l) {i : Nat} (hi : i < n) {v : Int} (hv : l[i]? = some v) : ∃ ad,A = some ad ∧ w.cell? (ad.add i) = some (.int .i64 v) := by
 obtain ⟨ad,e,hc⟩ := h.2.2 (by omega)
 obtain ⟨c,hl,hK,hcell⟩ := hc i v hv
 have hK' : c = [.int .i64 v] := hK
 subst hK'
 have h1 := hcell 0 _ rfl
 have e2 : i * (Kd.int .i64).sz + 0 = i := by show i * 1 + 0 = i;omega
 rw [e2] at h1
 exact ⟨ad,e,h1⟩
set_option maxHeartbeats 8000000 in
set_option maxRecDepth 100000 in
theorem ref_new (A : Option Addr) (c : Nat) (cols : List Int) (w : World) (hr : Kd.C (Kd.int .i64) w A cols.length cols) (hl : cols.length ≤ 1048576) :
  Calls Try.prog 36 #[.slice A cols.length c] w fun e w' => Below w.heap.size w w' ∧ ((badC cols = true ∧ e = .returned (.tuple #[.pointer none,.int .i64 2])) ∨ (badC cols = false ∧ ∃ g,e = .returned (.tuple #[.pointer (some ⟨g,0,none⟩),.int .i64 0]) ∧ w.heap.size ≤ g ∧ Ri.RefV (.slice A cols.length c) w' g none 0 [] (fun _ => False))) := by
 have HR := Aside0.mk hr
 obtain ⟨n,hn⟩ : ∃ n,cols.length = n := ⟨_,rfl⟩
 have LN := Aside0.mk hn
 rw [hn] at HR hl ⊢
 clear hr hn
 go_enter Try.func36,Try.ntmps36
 go_wp2_with (fail)
 go_loopw [4] (fun iv wr => ∃ i : Nat,iv = .int .i64 (i : Int) ∧ i ≤ n ∧ wr = w ∧ Aside0 (badC cols = badC (cols.drop i))) (fun iv _ => n - (intOf iv).toNat)
 case atStart => exact ⟨0,rfl,Nat.zero_le _,rfl,⟨rfl⟩⟩
 case round =>
  obtain ⟨i,rfl,hi,rfl,BC⟩ := hrel
  by_cases hlt : i < n
  ·have k0 : decide ((i : Int) < (n : Int)) = true := decide_eq_true (by omega)
   have k0' : decide (i < n) = true := decide_eq_true hlt
   have p0 : (0 : Int) ≤ (i : Int) := by omega
   have p1 : (i : Int) < (n : Int) := by omega
   obtain ⟨v,hv⟩ : ∃ v,cols[i]? = some v := ⟨cols[i]'(by have := LN.out;omega),List.getElem?_eq_getElem _⟩
   obtain ⟨ad,e1,x0⟩ := int_get HR.out hlt hv
   subst e1
   have BV := Aside0.mk (show badC (cols.drop i) = ((decide (v < 0) || decide (v ≥ 40)) || badC (cols.drop (i + 1))) by
    obtain ⟨hl2,hv2⟩ := List.getElem?_eq_some_iff.1 hv
    rw [List.drop_eq_getElem_cons hl2,hv2]
    rfl)
   clear hv
   by_cases h1 : v < 0
   ·have c0_ : decide (v < 0) = true := decide_eq_true h1
    have BE := Aside0.mk (show badC cols = true by rw [BC.out,BV.out,decide_eq_true h1];simp)
    go_wp2_with (fail)
    go_ret2
    exact ⟨Below.refl _ _,.inl ⟨BE.out,rfl⟩⟩
   ·have c0_ : decide (v < 0) = false := decide_eq_false h1
    by_cases h2 : v ≥ 40
    ·have c1_ : decide (v ≥ 40) = true := decide_eq_true h2
     have c2_ : decide ((40 : Int) ≤ v) = true := decide_eq_true h2
     have BE := Aside0.mk (show badC cols = true by rw [BC.out,BV.out,decide_eq_true h2];simp)
     clear h1 h2
     go_wp2_with (fail)
     go_ret2
     exact ⟨Below.refl _ _,.inl ⟨BE.out,rfl⟩⟩
    ·have c1_ : decide (v ≥ 40) = false := decide_eq_false h2
     have c2_ : decide ((40 : Int) ≤ v) = false := decide_eq_false h2
     have BE := Aside0.mk (show badC cols = badC (cols.drop (i + 1)) by rw [BC.out,BV.out,decide_eq_false h1,decide_eq_false h2];simp)
     clear h1 h2
     go_wp2_with (fail)
     go_roundw
     case rel => first | exact ⟨i + 1,by go_num,hlt,rfl,BE⟩ | exact ⟨i + 1,by go_num,hlt,trivial,BE⟩
     case measure => simp [intOf];omega
  ·have k0 : decide ((i : Int) < (n : Int)) = false := decide_eq_false (by omega)
   have k0' : decide (i < n) = false := decide_eq_false hlt
   have BE := Aside0.mk (show badC cols = false by rw [BC.out,List.drop_eq_nil_of_le (by have := LN.out;omega)];rfl)
   go_wp2_with (fail)
   go_ret2
   refine ⟨q0b (Below.refl _ _) _,.inr ⟨BE.out,wr.heap.size,rfl,Nat.le_refl _,⟨?_,Nat.le_refl 0,Kd.F_nil _ _ _,fun q => q,fun _ q => q.elim⟩⟩⟩
   exact blk_new wr _
def ColN (N : Nat) (A : Option Addr) (cols : List Int) : Prop := ∀ k,ColB A cols k → k < N
theorem col_step {N : Nat} {w w1 : World} {A : Option Addr} {cols : List Int} (h : Kd.C (Kd.int .i64) w A cols.length cols) (hN : ColN N A cols) (hb : Below N w w1) : Kd.C (Kd.int .i64) w1 A cols.length cols :=
 C_int h (fun ad e hn => hb.block _ (hN _ ⟨hn,ad,e,rfl⟩))
set_option maxHeartbeats 8000000 in
set_option maxRecDepth 100000 in
theorem ridx_add {D : Nat → Prop} (g : Nat) (Ac : Option Addr) (cc : Nat) (cols : List Int) (A1 : Option Addr) (c1 : Nat) (L : List En) (A : Option Addr) (c : Nat) (r : Rw) (mm : Int) (w : World) (h : Ri.RefV (.slice Ac cols.length cc) w g A1 c1 L D) (hc : Kd.C (Kd.int .i64) w Ac cols.length cols) (hcc : cols.length ≤ cc) (hs : SrtD L) (hk : OkD L) (hr : RowC w A c r) (hl : cols.length ≤ 1048576) (hL : L.length ≤ 1000000) :
  Calls Try.prog 39 #[.pointer (some ⟨g,0,none⟩),.slice A r.length c,.int .i64 mm] w fun e w' => ∃ A' c' D',e = .returned (.int .i64 (idxAdd cols r mm L).1) ∧ Ri.RefV (.slice Ac cols.length cc) w' g A' c' (idxAdd cols r mm L).2 D' ∧ RefCh w w' g D D' := by
 have HV := Aside0.mk h
 have HS := Aside0.mk hs
 have HK := Aside0.mk hk
 have HR := Aside0.mk hr
 have HL := Aside0.mk hL
 have g0 : w.cell? ⟨g,0,none⟩ = some (.slice Ac cols.length cc) := (q0d h.blk 0).trans rfl
 have PK := Aside0.mk (rpick_at A Ac c cc r cols w hr hc hcc hl)
 obtain ⟨p,hp⟩ : ∃ p,cols.length = p := ⟨_,rfl⟩
 have LP := Aside0.mk hp
 obtain ⟨rn,hrn⟩ : ∃ rn,r.length = rn := ⟨_,rfl⟩
 have LR := Aside0.mk hrn
 obtain ⟨q,hq⟩ : ∃ q,(pickF r cols []).2 = q := ⟨_,rfl⟩
 have QQ := Aside0.mk hq
 rw [hq,hp,hrn] at PK
 rw [hp] at g0
 rw [hrn]
 clear h hc hcc hs hk hr hl hL hp hrn hq
 go_enter Try.func39,Try.ntmps39
 go_wp2_with (fail)
 refine PK.out.mono ?_
 rintro e w1 ⟨v1,rfl,_,hb⟩
 have B1 := Aside0.mk hb
 have RT := Aside0.mk (rright_at A c r w1 (HR.out.below hb))
 rw [LR.out] at RT
 clear hb PK g0
 go_wp2_with (fail)
 refine RT.out.mono ?_
 rintro e w2 ⟨rfl,hb⟩
 have B2 := Aside0.mk (B1.out.trans (hb.mono B1.out.size))
 clear hb RT
 cases hrr : rright r with
 | false =>
  have E0 := Aside0.mk (show idxAdd cols r mm L = (2,L) by unfold idxAdd;rw [if_neg (fun s => by rw [hrr] at s;cases s.2)])
  clear hrr
  go_wp2_with (fail)
  go_ret
  rw [E0.out]
  exact ⟨_,_,_,rfl,HV.out.below B2.out,RefCh.same B2.out⟩
 | true =>
  have RR := Aside0.mk hrr
  clear hrr
  by_cases hq0 : q = 0
  ·subst hq0
   have E0 := Aside0.mk (show idxAdd cols r mm L = addD r mm L by unfold idxAdd;rw [if_pos ⟨QQ.out,RR.out⟩])
   have AD := Aside0.mk (Ri.ref_add g A1 c1 L A c r mm w2 (HV.out.below B2.out) HS.out HK.out (HR.out.below B2.out) HL.out)
   rw [LR.out] at AD
   go_wp2_with (fail)
   refine AD.out.mono ?_
   rintro e w3 ⟨A',c',D',rfl,h1,h2⟩
   have H1 := Aside0.mk h1
   have H2 := Aside0.mk h2
   clear h1 h2
   go_wp2_with (fail)
   go_ret
   rw [E0.out]
   exact ⟨A',c',D',rfl,H1.out,⟨(Ch.of_below (S := fun k => k = g) B2.out).then_ H2.out.ch (fun k s => .inl s),fun k hk => (H2.out.dat k hk).imp id (fun q => Nat.le_trans B2.out.size q)⟩⟩
  ·have q1 : (q != 0) = true := by rw [bne_iff_ne];exact hq0
   have q2 : (q == 0) = false := by rw [beq_eq_false_iff_ne];exact hq0
   have E0 := Aside0.mk (show idxAdd cols r mm L = (2,L) by unfold idxAdd;rw [if_neg (fun s => hq0 (by rw [← QQ.out];exact s.1))])
   go_wp2_with (fail)
   go_ret
   rw [E0.out]
   exact ⟨_,_,_,rfl,HV.out.below B2.out,RefCh.same B2.out⟩
theorem rsame_any (A0 A1 : Option Addr) (c0 c1 : Nat) (l0 l1 : Rw) (w : World) (h0 : RowC w A0 c0 l0) (h1 : RowC w A1 c1 l1) (hr : AllV l0) (hl : l0.length ≤ 1048576) :
  Calls Try.prog 84 #[.slice A0 l0.length c0,.slice A1 l1.length c1] w fun e w' => e = .returned (.bool (rcmp l0 l1 == 0)) ∧ Below w.heap.size w w' := by
 refine verdererref02_Same.calls 3000000 A0 c0 l0 A1 c1 l1 (rcmp l0 l1 == 0) w h0.row h0.cap h1.row h1.cap ?_
 unfold verdererref02_Same.f
 rw [refCompare_f l0 l1 h0.max 60 (fun x hx => vright_text (hr x hx)) (by omega) 3000000 (by omega)]
 rfl
theorem grp_take {cols : List Int} {key : Rw} {L : List En} {i : Nat} {x : En} (hx : L[i]? = some x) : grp cols key (L.take (i + 1)) = grp cols key (L.take i) ++ (if (rcmp (keyR cols x.f0) key == 0) = true then [x] else []) := by
 unfold grp
 rw [List.take_add_one,hx,List.filter_append]
 congr 1
 simp only [Option.toList_some,List.filter_cons,List.filter_nil]
 by_cases h : rcmp (keyR cols x.f0) key = 0
 ·simp [h]
 ·simp [h]
set_option maxHeartbeats 8000000 in
set_option maxRecDepth 100000 in
theorem ridx_find {D : Nat → Prop} (g : Nat) (Ac : Option Addr) (cc : Nat) (cols : List Int) (A1 : Option Addr) (c1 : Nat) (L : List En) (A : Option Addr) (c : Nat) (key : Rw) (w : World) (h : Ri.RefV (.slice Ac cols.length cc) w g A1 c1 L D) (hc : Kd.C (Kd.int .i64) w Ac cols.length cols) (hcc : cols.length ≤ cc) (hk : OkD L) (hp : ∀ x ∈ L,(pickF x.f0 cols []).2 = 0) (hr : RowC w A c key) (hl : cols.length ≤ 1048576) (hL : L.length ≤ 100000) (hcN : ColN w.heap.size Ac cols) :
  Calls Try.prog 42 #[.pointer (some ⟨g,0,none⟩),.slice A key.length c] w fun e w' => ∃ A' c',e = .returned (.slice A' (grp cols key L).length c') ∧ (grp cols key L).length ≤ c' ∧ Kd.C k34 w' A' (grp cols key L).length (grp cols key L) ∧ Below w.heap.size w w' := by
 have HV := Aside0.mk h
 have HK := Aside0.mk hk
 have HP := Aside0.mk hp
 have HR := Aside0.mk hr
 have HC := Aside0.mk hc
 have HCC := Aside0.mk hcc
 have HCN := Aside0.mk hcN
 have HL := Aside0.mk hl
 have HB := Aside0.mk (Below.refl w.heap.size w)
 obtain ⟨n,hn⟩ : ∃ n,L.length = n := ⟨_,rfl⟩
 have LN := Aside0.mk hn
 obtain ⟨p,hpn⟩ : ∃ p,cols.length = p := ⟨_,rfl⟩
 have LP := Aside0.mk hpn
 obtain ⟨kn,hkn⟩ : ∃ kn,key.length = kn := ⟨_,rfl⟩
 have LK := Aside0.mk hkn
 rw [hkn]
 rw [hn] at hL
 clear h hc hcc hk hp hr hl hcN hn hpn hkn
 go_enter Try.func42,Try.ntmps42
 go_wp2_with (fail)
 go_loopw [6,5] (fun iv ov wr => ∃ i : Nat,iv = .int .i64 (i : Int) ∧ i ≤ n ∧ Aside0 (Kd.N k34 34 wr w.heap.size (fun _ => True) ov (grp cols key (L.take i))) ∧ Aside0 (∀ k,ov.ownBlock = some k → w.heap.size ≤ k) ∧ Aside0 (Below w.heap.size w wr)) (fun iv _ _ => n - (intOf iv).toNat)
 case atStart => exact ⟨0,rfl,Nat.zero_le _,⟨Kd.N_nil _ _ _ _ _⟩,⟨fun k e => by simp [Value.ownBlock] at e⟩,HB⟩
 case round =>
  clear HB
  obtain ⟨i,rfl,hi,NO,OV,HB⟩ := hrel
  have VV := Aside0.mk (HV.out.below HB.out)
  have g1 : wr.cell? ⟨g,1,none⟩ = some (.slice A1 n c1) := by have := (q0d VV.out.blk 1).trans rfl;rw [LN.out] at this;exact this
  have g0 : wr.cell? ⟨g,0,none⟩ = some (.slice Ac p cc) := by have := (q0d VV.out.blk 0).trans rfl;rw [LP.out] at this;exact this
  by_cases hlt : i < n
  ·have k0 : decide ((i : Int) < (n : Int)) = true := decide_eq_true (by omega)
   have k0' : decide (i < n) = true := decide_eq_true hlt
   have p0 : (0 : Int) ≤ (i : Int) := by omega
   have p1 : (i : Int) < (n : Int) := by omega
   obtain ⟨x,hx⟩ : ∃ x,L[i]? = some x := ⟨L[i]'(by have := LN.out;omega),List.getElem?_eq_getElem _⟩
   obtain ⟨ad,A0,c0,e1,x0,x1,hxc,xcap,hxF⟩ := VV.out.get (by have := LN.out;omega) hx
   subst e1
   have HX := Aside0.mk hx
   have XF := Aside0.mk hxF
   have XCP := Aside0.mk xcap
   have CW := Aside0.mk (col_step HC.out HCN.out HB.out)
   have PK := Aside0.mk (fun W (e : SameW wr W) => rpick_at A0 Ac c0 cc x.f0 cols W (hxc.below (e.below _)) (col_step CW.out (fun k hk => Nat.lt_of_lt_of_le (HCN.out k hk) HB.out.size) (e.below _)) HCC.out HL.out)
   have KA := Aside0.mk (keyR_all (cols := cols) (HK.out x (List.mem_of_getElem? hx)).1)
   have KL := Aside0.mk (show (keyR cols x.f0).length ≤ 1048576 by have := (pickF_mem x.f0 cols [] (HP.out x (List.mem_of_getElem? hx))).2;unfold keyR;rw [this];simpa using HL.out)
   have GT := Aside0.mk (grp_take (cols := cols) (key := key) hx)
   have GL := Aside0.mk (show (grp cols key (L.take i)).length ≤ 100000 from Nat.le_trans (grp_len _ _ _) (Nat.le_trans (List.length_take_le _ _) (by omega)))
   rw [LP.out] at PK
   clear hx hxc hxF xcap CW
   obtain ⟨xr,xm⟩ := x
   simp only at *
   go_wp2_with (fail)
   go_region_held3 (fun w' => w'.cell? ⟨g,1,none⟩ = some (.slice (some ad) n c1) ∧ w'.cell? ⟨g,0,none⟩ = some (.slice Ac p cc) ∧ w'.cell? (ad.add (i * 2)) = some (.slice A0 xr.length c0)) (first | go_keep | exact ⟨by assumption,by assumption,by assumption⟩) (first
    | (go_at_call 82;(with_reducible refine (PK.out _ ?_).mono ?_);exact ⟨rfl,rfl,rfl,rfl⟩;rintro e w5 ⟨v5,rfl,hv,hb0⟩;have hb : Below wr.heap.size wr w5 := ((SameW.drew wr).below _).trans hb0;replace g1 := (hb.cell (World.block_lt_of_cell? _ _ g1)).trans g1;replace g0 := (hb.cell (World.block_lt_of_cell? _ _ g0)).trans g0;replace x0 := (hb.cell (World.block_lt_of_cell? _ _ x0)).trans x0;replace x1 := (hb.cell (World.block_lt_of_cell? _ _ x1)).trans x1;have V5 := Aside0.mk hv;have B5 := Aside0.mk hb;obtain ⟨A5,c5,e5⟩ := Kd.R_slice hv;clear hv hb hb0;subst e5))
   have SM := Aside0.mk (fun W (e : SameW w5 W) => rsame_any A5 A c5 c (keyR cols xr) key W (RowC.below ⟨(Kd.R_reads' V5.out).2.1,(Kd.R_reads' V5.out).2.2⟩ (e.below _)) ((HR.out.below HB.out).below (B5.out.trans ((e.below _).mono B5.out.size))) KA.out KL.out)
   rw [LK.out] at SM
   obtain ⟨sm,hsm⟩ : ∃ sm,(rcmp (keyR cols xr) key == 0) = sm := ⟨_,rfl⟩
   rw [hsm] at SM GT
   clear hsm PK
   go_wp2_with (fail)
   refine (SM.out _ ⟨rfl,rfl,rfl,rfl⟩).mono ?_
   rintro e w6 ⟨rfl,hb0⟩
   have hb : Below w5.heap.size w5 w6 := ((show SameW w5 _ from ⟨rfl,rfl,rfl,rfl⟩).below _).trans hb0
   have B6 := Aside0.mk (B5.out.trans (hb.mono B5.out.size))
   have W6 := Aside0.mk (HB.out.trans (B6.out.mono HB.out.size))
   replace g1 := (hb.cell (World.block_lt_of_cell? _ _ g1)).trans g1
   replace x0 := (hb.cell (World.block_lt_of_cell? _ _ x0)).trans x0
   replace x1 := (hb.cell (World.block_lt_of_cell? _ _ x1)).trans x1
   have NO6 := Aside0.mk (Kd.N_below NO.out B6.out)
   have XF6 := Aside0.mk (Kd.F_below XF.out B6.out)
   have DLT := Aside0.mk HV.out.lt
   clear hb hb0 SM g0 B5 V5
   cases sm with
   | false =>
    rw [if_neg (by simp),List.append_nil] at GT
    go_wp2_with (fail)
    go_roundw
    case rel => exact ⟨i + 1,by go_num,hlt,⟨by rw [GT.out];exact NO6.out⟩,OV,W6⟩
    case measure => simp [intOf];omega
   | true =>
    rw [if_pos rfl] at GT
    go_wp2_with (((with_reducible refine q0v (b := .append) (xs := #[.tmp 39,.tmp 48]) rfl ?_);at_builtin;refine Kd.N_append k34 (w0 := w) w.heap.size rfl (.tmp 39) (.tmp 48) 22 34 (.agg #[(.slice none 0 0),(.int .i64 0)]) 32 rfl Try.underlying22 info34 rfl (by decide) (by omega) u5 (grp cols key (L.take i)) (⟨xr,xm⟩ : En) [.slice A0 xr.length c0,.int .i64 xm] (fun _ => True) D rfl rfl (k34_mkF _ _ (⟨xr,xm⟩ : En) XCP.out XF6.out) (fun k hk => ⟨trivial,fun e => by have := OV.out k e.symm;have := DLT.out k hk;omega⟩) (fun _ _ => trivial) NO6.out W6.out W6.out.size (by have := GL.out;omega) ?_;intro v8 w8 hv hb3 hg hat;have NV8 := Aside0.mk hv;have B8 := Aside0.mk hb3;have OV8 := Aside0.mk (own_new2 OV.out W6.out.size hat);clear hv hb3 hg hat))
    go_roundw
    case rel => exact ⟨i + 1,by go_num,hlt,⟨by rw [GT.out];exact NV8.out⟩,OV8,B8⟩
    case measure => simp [intOf];omega
  ·have k0 : decide ((i : Int) < (n : Int)) = false := decide_eq_false (by omega)
   have k0' : decide (i < n) = false := decide_eq_false hlt
   have ei : L.take i = L := List.take_of_length_le (by have := LN.out;omega)
   rw [ei] at NO
   obtain ⟨A5,c5,e5,h1,h2⟩ := Kd.N_reads NO.out
   subst e5
   have H1 := Aside0.mk h1
   have H2 := Aside0.mk h2
   clear ei h1 h2
   go_wp2_with (fail)
   go_ret
   exact ⟨A5,c5,rfl,H1.out,H2.out,HB.out⟩
set_option maxHeartbeats 8000000 in
set_option maxRecDepth 100000 in
theorem ridx_has {D : Nat → Prop} (g : Nat) (Ac : Option Addr) (cc : Nat) (cols : List Int) (A1 : Option Addr) (c1 : Nat) (L : List En) (A : Option Addr) (c : Nat) (key : Rw) (w : World) (h : Ri.RefV (.slice Ac cols.length cc) w g A1 c1 L D) (hc : Kd.C (Kd.int .i64) w Ac cols.length cols) (hcc : cols.length ≤ cc) (hk : OkD L) (hp : ∀ x ∈ L,(pickF x.f0 cols []).2 = 0) (hr : RowC w A c key) (hl : cols.length ≤ 1048576) (hL : L.length ≤ 100000) (hcN : ColN w.heap.size Ac cols) :
  Calls Try.prog 44 #[.pointer (some ⟨g,0,none⟩),.slice A key.length c] w fun e w' => e = .returned (.int .i64 (sumM (grp cols key L))) ∧ Below w.heap.size w w' := by
 have FN := Aside0.mk (ridx_find g Ac cc cols A1 c1 L A c key w h hc hcc hk hp hr hl hL hcN)
 have OKG := Aside0.mk (show OkD (grp cols key L) from fun e he => hk e (List.mem_filter.1 he).1)
 have GL := Aside0.mk (show (grp cols key L).length ≤ 100000 from Nat.le_trans (grp_len cols key L) hL)
 obtain ⟨n,hn⟩ : ∃ n,key.length = n := ⟨_,rfl⟩
 rw [hn] at FN ⊢
 obtain ⟨G,hG⟩ : ∃ G,grp cols key L = G := ⟨_,rfl⟩
 rw [hG] at FN OKG GL ⊢
 clear h hc hcc hk hp hr hl hL hcN hn hG
 go_enter Try.func44,Try.ntmps44
 go_wp2_with (fail)
 refine FN.out.mono ?_
 rintro e w1 ⟨Ag,cg,rfl,hcap,hv,hb⟩
 have RV := Aside0.mk hv
 have B1 := Aside0.mk hb
 obtain ⟨g,hg⟩ : ∃ g,G.length = g := ⟨_,rfl⟩
 have LG := Aside0.mk hg
 have hg6 : g ≤ 100000 := by rw [← hg];exact GL.out
 rw [hg] at RV ⊢
 have SB := Aside0.mk (fun i => show -(1073741824 * 100000) ≤ sumM (G.take i) ∧ sumM (G.take i) ≤ 1073741824 * 100000 by
  have h1 := sumM_bd (l := G.take i) (fun e he => ⟨(OKG.out e (List.mem_of_mem_take he)).2.2.1,(OKG.out e (List.mem_of_mem_take he)).2.2.2⟩)
  have h3 := GL.out
  have h4 : (G.take i).length ≤ 100000 := by rw [List.length_take];omega
  omega)
 clear hv hb hg hcap FN
 go_wp2_with (fail)
 go_loopw [7,5] (fun iv cv wr => ∃ i : Nat,iv = .int .i64 (i : Int) ∧ i ≤ g ∧ cv = .int .i64 (sumM (G.take i)) ∧ wr = w1) (fun iv _ _ => g - (intOf iv).toNat)
 case atStart => exact ⟨0,rfl,Nat.zero_le _,rfl,rfl⟩
 case round =>
  obtain ⟨i,rfl,hin,rfl,ew⟩ := hrel
  subst ew
  by_cases hlt : i < g
  ·have k0 : decide ((i : Int) < (g : Int)) = true := decide_eq_true (by omega)
   have k0' : decide (i < g) = true := decide_eq_true hlt
   have p0 : (0 : Int) ≤ (i : Int) := by omega
   have p1 : (i : Int) < (g : Int) := by omega
   obtain ⟨e,he⟩ : ∃ e,G[i]? = some e := ⟨G[i]'(by have := LG.out;omega),List.getElem?_eq_getElem _⟩
   obtain ⟨ad,Ax,cx,e1,x0,x1,_⟩ := ent_get RV.out hlt he
   subst e1
   have ST := Aside0.mk (sumM_take he)
   have S1 := SB.out (i + 1)
   rw [ST.out] at S1
   obtain ⟨er,em⟩ := e
   obtain ⟨s,hs⟩ : ∃ s,sumM (G.take i) = s := ⟨_,rfl⟩
   rw [hs] at ST S1 ⊢
   simp only at ST S1
   clear he hs
   go_wp2_with (fail)
   go_roundw
   case rel => first | exact ⟨i + 1,by go_num,hlt,by rw [ST.out],rfl⟩ | exact ⟨i + 1,by go_num,hlt,by rw [ST.out];go_num,rfl⟩ | exact ⟨i + 1,by go_num,hlt,by rw [ST.out],trivial⟩ | exact ⟨i + 1,by go_num,hlt,by rw [ST.out];go_num,trivial⟩
   case measure => first | (simp [intOf];done) | (simp [intOf];omega)
  ·have k0 : decide ((i : Int) < (g : Int)) = false := decide_eq_false (by omega)
   have k0' : decide (i < g) = false := decide_eq_false hlt
   have ei : G.take i = G := List.take_of_length_le (by have := LG.out;omega)
   rw [ei]
   clear ei
   go_wp2_with (fail)
   go_ret
   exact ⟨rfl,B1.out⟩
end Go.Proofs.Ythmbfcfomcaaaaa.Z
end
