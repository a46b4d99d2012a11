/- Parts of the proof of PickSums: what its functions answer. -/
import Derived.Test.YthmbfcfomcaaaaaMPickSumsa
import Derived.Test.YthmbfcfomcaaaaaMPickSumsb
import Derived.Test.YthmbfcfomcaaaaaMPickSumsc
import Derived.Test.YthmbfcfomcaaaaaMPickSumsd
import Derived.Deep.Cut
import Derived.Deep.RegionHeld3
section
namespace Go.Proofs.Ythmbfcfomcaaaaa.Z
set_option linter.unusedVariables false
set_option linter.unusedSimpArgs false
open Go.RowKit Go.Proofs.YthmbfcfomcaaaaaW.PrintWords Go.Proofs.YthmbfcfomcaaaaaW.PrintLast Go.Proofs.YthmbfcfomcaaaaaW.PrintMore Go.Proofs.Ythmbfcfomcaaaaa.Cmp
structure RefCh (w w' : World) (g : Nat) (D D' : Nat → Prop) : Prop where
  ch : Ch (fun k => k = g) w w'
  dat : ∀ k,D' k → D k ∨ w.heap.size ≤ k
theorem ch_grown {w w1 : World} {S : Nat → Prop} {row : Option Nat} (hg : w.grownBy w1 row) (hr : ∀ k,row = some k → S k) : Ch S w w1 := ⟨hg.os,hg.tape,hg.output,hg.size,fun k hk hn => hg.block k hk (fun e => hn (hr k e.symm))⟩
theorem own_new {v1 : Value} {N : Nat} (h : v1.ownBlock = (Value.slice none 0 0).ownBlock ∨ ∃ b,v1.ownBlock = some b ∧ N ≤ b) : ∀ k,v1.ownBlock = some k → N ≤ k := fun k e => by
  rcases h with h | ⟨b,h,hb⟩
  · rw [h] at e;simp [Value.ownBlock] at e
  · rw [h] at e;injection e with e;omega
theorem own_new2 {v1 v2 : Value} {N M : Nat} (h1 : ∀ k,v1.ownBlock = some k → N ≤ k) (hm : N ≤ M) (h : v2.ownBlock = v1.ownBlock ∨ ∃ b,v2.ownBlock = some b ∧ M ≤ b) : ∀ k,v2.ownBlock = some k → N ≤ k := fun k e => by
  rcases h with h | ⟨b,h,hb⟩
  · rw [h] at e;exact h1 k e
  · rw [h] at e;injection e with e;omega
theorem RefCh.same {w w' : World} {g : Nat} {D : Nat → Prop} (h : Below w.heap.size w w') : RefCh w w' g D D := ⟨Ch.of_below h,fun _ h => .inl h⟩
theorem rright_at (A : Option Addr) (c : Nat) (r : Rw) (w : World) (hr : RowC w A c r) : Calls Try.prog 65 #[.slice A r.length c] w fun e w' => e = .returned (.bool (rright r)) ∧ Below w.heap.size w w' :=
  verdererref02_Right.calls 41 A c r (rright r) w hr.row hr.cap (rright_ref r 41 (by omega))
theorem rfew_calls (n : Int) (w : World) : Calls Try.prog 66 #[.int .i64 n] w fun e w' => e = .returned (.bool (few n)) ∧ Drawn0 w w' := by
  refine verdererref05_few.calls n (few n) w ?_
  unfold verdererref05_few.f few
  by_cases h : n ≥ -1073741824
  · rw [if_pos h,decide_eq_true (show -1073741824 ≤ n from h)];rfl
  · rw [if_neg h,decide_eq_false (show ¬ -1073741824 ≤ n from h)];rfl
theorem take_lo {r : Rw} {L : List En} (h : SrtD L) : L.take (loD r L).length = loD r L := by
  have h1 : (loD r L ++ (eqD r L ++ hiD r L)).take (loD r L).length = loD r L := List.take_left
  rwa [← List.append_assoc,← (srt_split r h).1] at h1
theorem drop_lo {r : Rw} {L : List En} (h : SrtD L) : L.drop (loD r L).length = (fndD r L).toList ++ hiD r L := by
  have h1 : (loD r L ++ (eqD r L ++ hiD r L)).drop (loD r L).length = eqD r L ++ hiD r L := List.drop_left
  rwa [← List.append_assoc,← (srt_split r h).1,(srt_split r h).2] at h1
set_option maxHeartbeats 4000000 in
set_option maxRecDepth 100000 in
theorem ref_addR {D : Nat → Prop} (g : Nat) (A1 : Option Addr) (c1 : Nat) (L : List En) (A : Option Addr) (c : Nat) (r : Rw) (m : Int) (w : World) (h : RefV w g A1 c1 L D) (hr : RowC w A c r) (hrt : rright r = false) :
    Calls Try.prog 17 #[.pointer (some ⟨g,0,none⟩),.slice A r.length c,.int .i64 m] w fun e w' => ∃ A' c' D',e = .returned (.int .i64 2) ∧ RefV w' g A' c' L D' ∧ RefCh w w' g D D' := by
  have HV := Aside0.mk h
  have RT := Aside0.mk (rright_at A c r w hr)
  rw [hrt] at RT
  clear h hr hrt
  go_enter Try.func17,Try.ntmps17
  go_wp2_with (fail)
  refine RT.out.mono ?_
  rintro e w1 ⟨rfl,hb⟩
  have HB1 := Aside0.mk hb
  have HV1 := Aside0.mk (HV.out.below hb)
  clear hb RT
  go_wp2_with (fail)
  go_ret
  first
    | exact ⟨_,_,_,rfl,HV1.out,RefCh.same HB1.out⟩
    | exact ⟨rfl,_,_,_,HV1.out,RefCh.same HB1.out⟩
set_option maxHeartbeats 4000000 in
set_option maxRecDepth 100000 in
theorem ref_addX {D : Nat → Prop} (g : Nat) (A1 : Option Addr) (c1 : Nat) (L : List En) (A : Option Addr) (c : Nat) (r : Rw) (m : Int) (w : World) (h : RefV w g A1 c1 L D) (hs : SrtD L) (hk : OkD L) (hr : RowC w A c r) (hl : L.length ≤ 1000000) (hrt : rright r = true) (hok : okAdd r m L = false) :
    Calls Try.prog 17 #[.pointer (some ⟨g,0,none⟩),.slice A r.length c,.int .i64 m] w fun e w' => ∃ A' c' D',e = .returned (.int .i64 10) ∧ RefV w' g A' c' L D' ∧ RefCh w w' g D D' := by
  have HV := Aside0.mk h
  have HS := Aside0.mk hs
  have HK := Aside0.mk hk
  have HR := Aside0.mk hr
  have RT := Aside0.mk (rright_at A c r w hr)
  have HL := Aside0.mk hl
  rw [hrt] at RT
  obtain ⟨k,hk0⟩ : ∃ k,manyD r L = k := ⟨_,rfl⟩
  have MK := Aside0.mk hk0
  obtain ⟨m0,m1⟩ := many_bd (r := r) hk
  rw [hk0] at m0 m1
  unfold okAdd at hok
  rw [hk0] at hok
  by_cases h1 : m < -2147483648
  · have q1 : decide (m < -2147483648) = true := decide_eq_true h1
    clear h hs hk hr hl hrt hok hk0
    go_enter Try.func17,Try.ntmps17
    go_wp2_with (fail)
    refine RT.out.mono ?_
    rintro e w1 ⟨rfl,hb⟩
    have HB1 := Aside0.mk hb
    have HV1 := Aside0.mk (HV.out.below hb)
    have HR1 := Aside0.mk (HR.out.below hb)
    clear hb RT
    go_wp2_with (fail)
    have MN := Aside0.mk (ref_many g A1 c1 L A c r w1 HV1.out HS.out HK.out HR1.out HL.out)
    rw [MK.out] at MN
    refine MN.out.mono ?_
    rintro e w2 ⟨rfl,hb⟩
    have HB2 := Aside0.mk (HB1.out.trans (hb.mono HB1.out.size))
    have HV2 := Aside0.mk (HV1.out.below hb)
    clear hb HB1 HV1 HR1 MN
    go_wp2_with (fail)
    go_ret
    first
      | exact ⟨_,_,_,rfl,HV2.out,RefCh.same HB2.out⟩
      | exact ⟨rfl,_,_,_,HV2.out,RefCh.same HB2.out⟩
  · have q1 : decide (m < -2147483648) = false := decide_eq_false h1
    by_cases h2 : 2147483648 < m
    · have q2 : decide (2147483648 < m) = true := decide_eq_true h2
      clear h hs hk hr hl hrt hok hk0
      go_enter Try.func17,Try.ntmps17
      go_wp2_with (fail)
      refine RT.out.mono ?_
      rintro e w1 ⟨rfl,hb⟩
      have HB1 := Aside0.mk hb
      have HV1 := Aside0.mk (HV.out.below hb)
      have HR1 := Aside0.mk (HR.out.below hb)
      clear hb RT
      go_wp2_with (fail)
      have MN := Aside0.mk (ref_many g A1 c1 L A c r w1 HV1.out HS.out HK.out HR1.out HL.out)
      rw [MK.out] at MN
      refine MN.out.mono ?_
      rintro e w2 ⟨rfl,hb⟩
      have HB2 := Aside0.mk (HB1.out.trans (hb.mono HB1.out.size))
      have HV2 := Aside0.mk (HV1.out.below hb)
      clear hb HB1 HV1 HR1 MN
      go_wp2_with (fail)
      go_ret
      first
        | exact ⟨_,_,_,rfl,HV2.out,RefCh.same HB2.out⟩
        | exact ⟨rfl,_,_,_,HV2.out,RefCh.same HB2.out⟩
    · have q2 : decide (2147483648 < m) = false := decide_eq_false h2
      have b0 : -2147483648 ≤ m := by omega
      have b1 : m ≤ 2147483648 := by omega
      rw [decide_eq_true b0,decide_eq_true b1] at hok
      simp only [Bool.true_and] at hok
      have FEW := Aside0.mk (fun W => rfew_calls (k + m) W)
      rw [hok] at FEW
      clear h hs hk hr hl hrt hok hk0
      go_enter Try.func17,Try.ntmps17
      go_wp2_with (fail)
      refine RT.out.mono ?_
      rintro e w1 ⟨rfl,hb⟩
      have HB1 := Aside0.mk hb
      have HV1 := Aside0.mk (HV.out.below hb)
      have HR1 := Aside0.mk (HR.out.below hb)
      clear hb RT
      go_wp2_with (fail)
      have MN := Aside0.mk (ref_many g A1 c1 L A c r w1 HV1.out HS.out HK.out HR1.out HL.out)
      rw [MK.out] at MN
      refine MN.out.mono ?_
      rintro e w2 ⟨rfl,hb⟩
      have HB2 := Aside0.mk (HB1.out.trans (hb.mono HB1.out.size))
      have HV2 := Aside0.mk (HV1.out.below hb)
      clear hb HB1 HV1 HR1 MN
      go_wp2_with (fail)
      refine (FEW.out w2).mono ?_
      rintro e w3 ⟨rfl,hd⟩
      have hb := hd.below
      have HB3 := Aside0.mk (HB2.out.trans (hb.mono HB2.out.size))
      have HV3 := Aside0.mk (HV2.out.below hb)
      clear hb hd HB2 HV2 FEW
      go_wp2_with (fail)
      go_ret
      first
        | exact ⟨_,_,_,rfl,HV3.out,RefCh.same HB3.out⟩
        | exact ⟨rfl,_,_,_,HV3.out,RefCh.same HB3.out⟩
set_option maxHeartbeats 4000000 in
set_option maxRecDepth 100000 in
theorem ref_addNN {D : Nat → Prop} (g : Nat) (A1 : Option Addr) (c1 : Nat) (L : List En) (A : Option Addr) (c : Nat) (r : Rw) (m n : Int) (w : World) (h : RefV w g A1 c1 L D) (hs : SrtD L) (hk : OkD L) (hr : RowC w A c r) (hl : L.length ≤ 1000000)
    (hrt : rright r = true) (hn : manyD r L + m = n) (hok : okAdd r m L = true) (hz : n ≠ 0) (hf : fndD r L = none) :
    Calls Try.prog 17 #[.pointer (some ⟨g,0,none⟩),.slice A r.length c,.int .i64 m] w fun e w' => ∃ A' c' D',e = .returned (.int .i64 0) ∧ RefV w' g A' c' (putD r n L) D' ∧ RefCh w w' g D D' := by
  have HV := Aside0.mk h
  have HS := Aside0.mk hs
  have HK := Aside0.mk hk
  have HR := Aside0.mk hr
  have HF := Aside0.mk hf
  have HN := Aside0.mk hn
  have RL := Aside0.mk (right_len hrt)
  have RT := Aside0.mk (rright_at A c r w hr)
  rw [hrt] at RT
  obtain ⟨k,hk0⟩ : ∃ k,manyD r L = k := ⟨_,rfl⟩
  have MK := Aside0.mk hk0
  obtain ⟨m0,m1⟩ := many_bd (r := r) hk
  rw [hk0] at m0 m1 hn
  have hok' := hok
  unfold okAdd at hok'
  rw [Bool.and_eq_true,Bool.and_eq_true,decide_eq_true_eq,decide_eq_true_eq,hk0,hn] at hok'
  obtain ⟨⟨b0,b1⟩,hfew⟩ := hok'
  have HFEW := Aside0.mk hfew
  have f0 := (few_iff.1 hfew).1
  have f1 := (few_iff.1 hfew).2
  have q1 : decide (m < -2147483648) = false := decide_eq_false (by omega)
  have q2 : decide (2147483648 < m) = false := decide_eq_false (by omega)
  have FEW := Aside0.mk (fun W => rfew_calls (k + m) W)
  rw [hn,hfew] at FEW
  have HN2 := Aside0.mk hn
  have q3 : (n != 0) = true := by simp [hz]
  have HZ := Aside0.mk hz
  obtain ⟨len,hlen⟩ : ∃ len,L.length = len := ⟨_,rfl⟩
  obtain ⟨at_,hat⟩ : ∃ at_,(loD r L).length = at_ := ⟨_,rfl⟩
  have HLEN := Aside0.mk hlen
  have HAT := Aside0.mk hat
  have al : at_ ≤ len := by have := lo_len r hs;omega
  have aB : at_ ≤ 1000000 := by omega
  have TK := Aside0.mk (take_lo (r := r) hs)
  have DP := Aside0.mk (drop_lo (r := r) hs)
  rw [hat] at TK DP
  rw [hf] at DP
  have DPH := Aside0.mk (show L.drop at_ = hiD r L from DP.out)
  obtain ⟨i0,hi0,hsz0⟩ : ∃ i0,Try.prog.info? 34 = some i0 ∧ i0.size = 2 := by
    obtain ⟨i0,hi,hz⟩ := Option.map_eq_some_iff.1 info34
    simp only [Prod.mk.injEq] at hz
    exact ⟨i0,hi,hz.2.1⟩
  have CT := Aside0.mk (cut_to 22 34 .i64 Try.underlying22 hi0 A1 len c1 (at_ : Int) (by omega) (by omega) (by have := h.cap;omega))
  have CF := Aside0.mk (cut_from 22 34 .i64 Try.underlying22 hi0 2 hsz0 A1 len c1 (at_ : Int) (by omega) (by omega))
  simp only [Int.toNat_natCast] at CT
  rw [show ((at_ : Int) : Int).toNat = at_ by omega] at CF
  obtain ⟨A2,hA2⟩ : ∃ A2,(if c1 = at_ then A1 else A1.map (·.add ((at_) * 2))) = A2 := ⟨_,rfl⟩
  have HA2 := Aside0.mk hA2
  rw [hA2] at CF
  have hct := CT.out
  have hcf := CF.out
  clear CT CF
  have g0 := (blk_cell h.blk 0).trans rfl
  rw [hlen] at g0
  have WLT := Aside0.mk (blk_lt h.blk)
  clear h hs hk hr hf hn hk0 hrt hok hfew hz hlen hat hi0 hsz0 hA2
  go_enter Try.func17,Try.ntmps17
  go_wp2_with (fail)
  refine RT.out.mono ?_
  rintro e w1 ⟨rfl,hb⟩
  have HB1 := Aside0.mk hb
  have HV1 := Aside0.mk (HV.out.below hb)
  have HR1 := Aside0.mk (HR.out.below hb)
  clear hb RT
  go_wp2_with (fail)
  have MN := Aside0.mk (ref_many g A1 c1 L A c r w1 HV1.out HS.out HK.out HR1.out (by have := HLEN.out;omega))
  rw [MK.out] at MN
  refine MN.out.mono ?_
  rintro e w2 ⟨rfl,hb⟩
  have HB2 := Aside0.mk (HB1.out.trans (hb.mono HB1.out.size))
  have HV2 := Aside0.mk (HV1.out.below hb)
  have HR2 := Aside0.mk (HR1.out.below hb)
  clear hb HB1 HV1 HR1 MN
  go_wp2_with (fail)
  rw [HN2.out]
  refine (FEW.out w2).mono ?_
  rintro e w3 ⟨rfl,hd⟩
  have hb := hd.below
  have HB3 := Aside0.mk (HB2.out.trans (hb.mono HB2.out.size))
  have HV3 := Aside0.mk (HV2.out.below hb)
  have HR3 := Aside0.mk (HR2.out.below hb)
  clear hb hd HB2 HV2 HR2 FEW
  go_wp2_with (fail)
  have FN := Aside0.mk (ref_find g A1 c1 L A c r w3 HV3.out HS.out HK.out HR3.out (by have := HLEN.out;omega))
  rw [HAT.out,HF.out] at FN
  simp only [Option.isSome_none] at FN
  refine FN.out.mono ?_
  rintro e w4 ⟨rfl,hb⟩
  have HB4 := Aside0.mk (HB3.out.trans (hb.mono HB3.out.size))
  have HV4 := Aside0.mk (HV3.out.below hb)
  have HR4 := Aside0.mk (HR3.out.below hb)
  replace g0 := (blk_cell HV4.out.blk 0).trans rfl
  rw [HLEN.out] at g0
  clear hb HB3 HV3 HR3 FN
  go_upto_region 8 with (fail)
  rw [HN2.out]
  have BX5 := Aside0.mk (blk_new w4 (Obj.cells #[.slice none 0 0,.int .i64 n] 34))
  have HB5 := Aside0.mk (below_alloc HB4.out (Obj.cells #[.slice none 0 0,.int .i64 n] 34))
  have HV5 := Aside0.mk (HV4.out.below (below_alloc (Below.refl w4.heap.size w4) (Obj.cells #[.slice none 0 0,.int .i64 n] 34)))
  have HR5 := Aside0.mk (HR4.out.below (below_alloc (Below.refl w4.heap.size w4) (Obj.cells #[.slice none 0 0,.int .i64 n] 34)))
  have GE := Aside0.mk HB4.out.size
  obtain ⟨bx,hbx⟩ : ∃ bx,w4.heap.size = bx := ⟨_,rfl⟩
  rw [hbx] at BX5 GE ⊢
  clear hbx HB4 HV4 HR4 g0
  generalize w4.alloc (Obj.cells #[.slice none 0 0,.int .i64 n] 34) = w5 at *
  have z0 := blk_frozen BX5.out 0
  have y0 := (blk_cell BX5.out 0).trans rfl
  have y1 := (blk_cell BX5.out 1).trans rfl
  go_upto_region 9 with (((with_reducible refine gate_builtin (b := .append) (xs := #[.tmp 42,.tmp 43]) rfl ?_);at_builtin;refine Kd.R_append_rows k66 (w0 := w) w.heap.size rfl (.tmp 42) (.tmp 43) 23 66 (.agg #[(.int .i64 0),(.bool false),(.int .i64 0),(.string ⟨#[]⟩)]) 40 rfl Try.underlying23 info66 rfl (by decide) (by omega) (.slice none 0 0) [] r A r.length c (fun k => k ≠ bx) (fun _ => False) rfl rfl (Kd.R_nil _ _ _ _ _) HR5.out.row (fun x cs h => by rw [k66_open h];exact k66_mkM _ _ _ _) (fun _ h => h.elim) (fun k hk => by have := blk_lt BX5.out;omega) HB5.out HB5.out.size (by have := RL.out;rw [List.length_nil];omega) ?_;intro v1 w6 hv hb3 hg hat;have HV1 := Aside0.mk hv;have HB6 := Aside0.mk hb3;have HV6 := Aside0.mk (HV5.out.keep (ch_grown (S := fun _ => False) hg (fun k e => by cases e)) (fun s => s) (fun _ _ s => s));have BX6 := Aside0.mk (blk_grown BX5.out hg (by simp [Value.ownBlock]));have z6 := blk_frozen BX6.out 0;have y6 := (blk_cell BX6.out 0).trans rfl;obtain ⟨Ar,cr,er⟩ := Kd.R_slice hv;clear hv hb3 hg hat z0 y0 y1;subst er))
  have cb6 : Ch (fun k => k = bx) w6 (w6.setCell ⟨bx,0,none⟩ (.slice Ar r.length cr)) := (Ch.refl (fun k => k = bx) w6).setCell (p := ⟨bx,0,none⟩) (.inl rfl) _
  have BX7 := Aside0.mk (show (w6.setCell ⟨bx,0,none⟩ (.slice Ar r.length cr)).heap[bx]? = some (.cells #[.slice Ar r.length cr,.int .i64 n] 34 (0,0)) from blk_put BX6.out 0 _ rfl)
  have HV7 := Aside0.mk (HV6.out.keep cb6 (fun e => by have := WLT.out;have := GE.out;omega) (fun k hk e => by have := HV.out.lt k hk;have := GE.out;omega))
  have HB7 := Aside0.mk (HB6.out.setCell (p := ⟨bx,0,none⟩) GE.out (.slice Ar r.length cr))
  have HR7 := Aside0.mk (Kd.R_far (p := ⟨bx,0,none⟩) HV1.out (fun k hk => hk) (.slice Ar r.length cr))
  clear cb6 z6 y6 HV1
  generalize w6.setCell ⟨bx,0,none⟩ (.slice Ar r.length cr) = w9 at *
  have RR := Aside0.mk (show ∃ NR : Nat → Prop,(∀ k,NR k → w.heap.size ≤ k ∧ k < w9.heap.size ∧ k ≠ bx) ∧ Kd.F k66 w9 NR Ar r.length r ∧ r.length ≤ cr from ⟨fun k => k ≠ bx ∧ w.heap.size ≤ k ∧ k < w9.heap.size,fun k hk => ⟨hk.2.1,hk.2.2,hk.1⟩,Kd.F_mono (Kd.R_F (Kd.R_bound HR7.out)) (fun k hk => ⟨hk.1,hk.2.1,hk.2.2.1⟩),(Kd.R_reads' HR7.out).2.1⟩)
  obtain ⟨NR,hNR,hFR,hcr⟩ := RR.out
  have NR1 := Aside0.mk hNR
  have FR1 := Aside0.mk hFR
  have CR1 := Aside0.mk hcr
  clear hNR hFR hcr RR HR7
  have HV9 := HV7
  have HB9 := HB7
  have BX9 := BX7
  have FR9 := Aside0.mk (Kd.F_mono (ok' := fun k => D k ∨ NR k) FR1.out (fun k hk => .inr hk))
  have NR9 := NR1
  have CR9 := CR1
  clear HV7 HB7 BX7 FR1 NR1 CR1
  have OKD := Aside0.mk (fun k (hk : D k) => show (D k ∨ NR k ∨ w9.heap.size ≤ k) ∧ k < w9.heap.size from ⟨.inl hk,Nat.lt_of_lt_of_le (HV.out.lt k hk) HB9.out.size⟩)
  have FT := Aside0.mk (show Kd.F k34 w9 D A1 at_ (loD r L) by
    have h1 := Kd.F_take (m := at_) HV9.out.row (by have := HLEN.out;omega)
    rw [TK.out,HAT.out] at h1
    exact h1)
  have g9 := (blk_cell HV9.out.blk 0).trans rfl
  rw [HLEN.out] at g9
  go_upto_region 13 with (((with_reducible refine gate_builtin (b := .append) (xs := #[.tmp 56,.tmp 62]) rfl ?_);at_builtin;refine Kd.N_append_rows k34 (w0 := w) w.heap.size rfl (.tmp 56) (.tmp 62) 22 34 (.agg #[(.slice none 0 0),(.int .i64 0)]) 32 rfl Try.underlying22 info34 rfl (by decide) (by omega) (.slice none 0 0) [] (loD r L) A1 at_ c1 (fun k => D k ∨ NR k ∨ w9.heap.size ≤ k) D rfl rfl (Kd.N_nil _ _ _ _ _) FT.out (fun k hk => ⟨.inl hk,by simp [Value.ownBlock]⟩) (fun k hk => .inr (.inr hk)) HB9.out HB9.out.size (by have := HLEN.out;rw [List.length_nil];omega) ?_;intro v1 w10 hv hb3 hg hat;rw [List.nil_append] at hv;have N10 := Aside0.mk hv;have HB10 := Aside0.mk hb3;have AT10 := Aside0.mk (own_new hat);have N10S := Aside0.mk hg.size;have HV10 := Aside0.mk (HV9.out.keep (ch_grown (S := fun _ => False) hg (fun k e => by cases e)) (fun s => s) (fun _ _ s => s));have BX10 := Aside0.mk (blk_grown BX9.out hg (by simp [Value.ownBlock]));have FR10 := Aside0.mk (Kd.F_grown FR9.out hg (fun k hk => by simp [Value.ownBlock]));have y10 := (blk_cell BX10.out 0).trans rfl;have y11 := (blk_cell BX10.out 1).trans rfl;obtain ⟨Al,cl,el⟩ := Kd.N_slice hv;clear hv hb3 hg hat g9;subst el))
  have OKE := Aside0.mk (fun k (hk : D k ∨ NR k) => show (D k ∨ NR k ∨ w9.heap.size ≤ k) ∧ some k ≠ (Value.slice Al (loD r L).length cl).ownBlock from ⟨hk.imp id .inl,fun e => by have := AT10.out k e.symm;have : k < w9.heap.size := hk.elim (fun q => (OKD.out k q).2) (fun q => (NR9.out k q).2.1);omega⟩)
  go_upto_region 15 with (((with_reducible refine gate_builtin (b := .append) (xs := #[.tmp 67,.tmp 69]) rfl ?_);at_builtin;refine Kd.N_append k34 (w0 := w) w.heap.size rfl (.tmp 67) (.tmp 69) 22 34 (.agg #[(.slice none 0 0),(.int .i64 0)]) 32 rfl Try.underlying22 info34 rfl (by decide) (by omega) (.slice Al (loD r L).length cl) (loD r L) (⟨r,n⟩ : En) [.slice Ar r.length cr,.int .i64 n] (fun k => D k ∨ NR k ∨ w9.heap.size ≤ k) (fun k => D k ∨ NR k) rfl rfl (k34_mkF _ _ (⟨r,n⟩ : En) CR9.out FR10.out) OKE.out (fun k hk => .inr (.inr (by have h1 := HB10.out.size;have h2 := HB9.out.size;have h3 := N10S.out;omega))) N10.out HB10.out HB10.out.size (by have := HLEN.out;have := HAT.out;omega) ?_;intro v2 w11 hv hb3 hg hat;obtain ⟨L2,hL2⟩ : ∃ L2,loD r L ++ [(⟨r,n⟩ : En)] = L2 := ⟨_,rfl⟩;rw [hL2] at hv;have HL2 := Aside0.mk hL2;clear hL2;have N12 := Aside0.mk hv;have HB12 := Aside0.mk hb3;have N12S := Aside0.mk (Nat.le_trans N10S.out hg.size);have AT12 := Aside0.mk (own_new2 AT10.out N10S.out hat);have HV12 := Aside0.mk (HV10.out.keep (ch_grown (S := fun k => w9.heap.size ≤ k) hg (fun k e => AT10.out k e)) (fun s => by have := WLT.out;have := HB9.out.size;omega) (fun k hk s => by have := (OKD.out k hk).2;omega));obtain ⟨Al2,cl2,el⟩ := Kd.N_slice hv;clear hv hb3 hg hat y10 y11;subst el))
  have g12 := (blk_cell HV12.out.blk 0).trans rfl
  rw [HLEN.out] at g12
  clear N10 HB10 HV10 AT10 FR10
  have FT2 := Aside0.mk (show Kd.F k34 w11 D A2 (len - at_) (hiD r L) by
    have h1 := Kd.F_cut (c := c1) (m := at_) HV12.out.row (by have := HLEN.out;omega) HV12.out.cap
    rw [DPH.out] at h1
    have h2 : (hiD r L).length = len - at_ := by rw [← DPH.out,List.length_drop,HLEN.out]
    rw [h2] at h1
    rw [← HA2.out]
    exact h1)
  have zg := blk_frozen HV12.out.blk 0
  go_wp2_with (((with_reducible refine gate_builtin (b := .append) (xs := #[.tmp 75,.tmp 81]) rfl ?_);at_builtin;refine Kd.N_append_rows k34 (w0 := w) w.heap.size rfl (.tmp 75) (.tmp 81) 22 34 (.agg #[(.slice none 0 0),(.int .i64 0)]) 32 rfl Try.underlying22 info34 rfl (by decide) (by omega) (.slice Al2 L2.length cl2) L2 (hiD r L) A2 (len - at_) (c1 - at_) (fun k => D k ∨ NR k ∨ w9.heap.size ≤ k) D rfl rfl N12.out FT2.out (fun k hk => ⟨.inl hk,fun e => by have := AT12.out k e.symm;have := (OKD.out k hk).2;omega⟩) (fun k hk => .inr (.inr (by have h1 := HB12.out.size;have h3 := N12S.out;omega))) HB12.out HB12.out.size (by have := HLEN.out;have := HAT.out;have hL2 := congrArg List.length HL2.out;rw [List.length_append] at hL2;simp at hL2;omega) ?_;intro v3 w12 hv hb3 hg hat;obtain ⟨L3,hL3⟩ : ∃ L3,L2 ++ hiD r L = L3 := ⟨_,rfl⟩;rw [hL3] at hv;have HL3 := Aside0.mk hL3;clear hL3;have N13 := Aside0.mk hv;have HB13 := Aside0.mk hb3;have HV13 := Aside0.mk (HV12.out.keep (ch_grown (S := fun k => w9.heap.size ≤ k) hg (fun k e => AT12.out k e)) (fun s => by have := WLT.out;have := HB9.out.size;omega) (fun k hk s => by have := (OKD.out k hk).2;omega));have zg2 := blk_frozen HV13.out.blk 0;have yg2 := (blk_cell HV13.out.blk 0).trans rfl;obtain ⟨Al3,cl3,el⟩ := Kd.N_slice hv;clear hv hb3 hg hat g12 zg;subst el))
  go_ret
  have hL : L3 = putD r n L := by
    rw [← HL3.out]
    rw [← HL2.out];unfold putD;rw [if_neg HZ.out]
  rw [← hL]
  have s9 := HB9.out.size
  have wl := WLT.out
  have cg : Ch (fun k => k = g) w12 (w12.setCell ⟨g,0,none⟩ (.slice Al3 L3.length cl3)) := (Ch.refl (fun k => k = g) w12).setCell (p := ⟨g,0,none⟩) (.inl rfl) _
  have dn : ∀ k,((D k ∨ NR k ∨ w9.heap.size ≤ k) ∧ k < w12.heap.size) → k ≠ g := fun k hk e => by
    rcases hk.1 with q | q | q
    · exact HV.out.g_not (e ▸ q)
    · have := (NR9.out k q).1;omega
    · omega
  have R1 : RefV (w12.setCell ⟨g,0,none⟩ (.slice Al3 L3.length cl3)) g Al3 cl3 L3 (fun k => (D k ∨ NR k ∨ w9.heap.size ≤ k) ∧ k < w12.heap.size) :=
    ⟨blk_put HV13.out.blk 0 _ rfl,(Kd.N_reads' N13.out).2.1,Kd.F_step (Kd.F_bound (Kd.N_F N13.out)) (fun k hk hlt => cg.block k hlt (dn k hk)),fun hk => dn g hk rfl,fun k hk => Nat.lt_of_lt_of_le hk.2 cg.size⟩
  have R2 : RefCh w (w12.setCell ⟨g,0,none⟩ (.slice Al3 L3.length cl3)) g D (fun k => (D k ∨ NR k ∨ w9.heap.size ≤ k) ∧ k < w12.heap.size) :=
    ⟨(Ch.of_below (S := fun k => k = g) HB13.out).then_ cg (fun k hk => .inl hk),fun k hk => hk.1.imp id (fun q => q.elim (fun q => (NR9.out k q).1) (fun q => by omega))⟩
  first
    | exact ⟨_,_,_,rfl,R1,R2⟩
    | exact ⟨rfl,_,_,_,R1,R2⟩
    | exact ⟨rfl,_,_,R1,R2⟩
set_option maxHeartbeats 4000000 in
set_option maxRecDepth 100000 in
theorem ref_addNZ {D : Nat → Prop} (g : Nat) (A1 : Option Addr) (c1 : Nat) (L : List En) (A : Option Addr) (c : Nat) (r : Rw) (m n : Int) (w : World) (h : RefV w g A1 c1 L D) (hs : SrtD L) (hk : OkD L) (hr : RowC w A c r) (hl : L.length ≤ 1000000)
    (hrt : rright r = true) (hn : manyD r L + m = n) (hok : okAdd r m L = true) (hz : n = 0) (hf : fndD r L = none) :
    Calls Try.prog 17 #[.pointer (some ⟨g,0,none⟩),.slice A r.length c,.int .i64 m] w fun e w' => ∃ A' c' D',e = .returned (.int .i64 0) ∧ RefV w' g A' c' (putD r n L) D' ∧ RefCh w w' g D D' := by
  have HV := Aside0.mk h
  have HS := Aside0.mk hs
  have HK := Aside0.mk hk
  have HR := Aside0.mk hr
  have HF := Aside0.mk hf
  have HN := Aside0.mk hn
  have RL := Aside0.mk (right_len hrt)
  have RT := Aside0.mk (rright_at A c r w hr)
  rw [hrt] at RT
  obtain ⟨k,hk0⟩ : ∃ k,manyD r L = k := ⟨_,rfl⟩
  have MK := Aside0.mk hk0
  obtain ⟨m0,m1⟩ := many_bd (r := r) hk
  rw [hk0] at m0 m1 hn
  have hok' := hok
  unfold okAdd at hok'
  rw [Bool.and_eq_true,Bool.and_eq_true,decide_eq_true_eq,decide_eq_true_eq,hk0,hn] at hok'
  obtain ⟨⟨b0,b1⟩,hfew⟩ := hok'
  have HFEW := Aside0.mk hfew
  have f0 := (few_iff.1 hfew).1
  have f1 := (few_iff.1 hfew).2
  have q1 : decide (m < -2147483648) = false := decide_eq_false (by omega)
  have q2 : decide (2147483648 < m) = false := decide_eq_false (by omega)
  have FEW := Aside0.mk (fun W => rfew_calls (k + m) W)
  rw [hn,hfew] at FEW
  have HN2 := Aside0.mk hn
  have q3 : (n != 0) = false := by simp [hz]
  have HZ := Aside0.mk hz
  obtain ⟨len,hlen⟩ : ∃ len,L.length = len := ⟨_,rfl⟩
  obtain ⟨at_,hat⟩ : ∃ at_,(loD r L).length = at_ := ⟨_,rfl⟩
  have HLEN := Aside0.mk hlen
  have HAT := Aside0.mk hat
  have al : at_ ≤ len := by have := lo_len r hs;omega
  have aB : at_ ≤ 1000000 := by omega
  have TK := Aside0.mk (take_lo (r := r) hs)
  have DP := Aside0.mk (drop_lo (r := r) hs)
  rw [hat] at TK DP
  rw [hf] at DP
  have DPH := Aside0.mk (show L.drop at_ = hiD r L from DP.out)
  obtain ⟨i0,hi0,hsz0⟩ : ∃ i0,Try.prog.info? 34 = some i0 ∧ i0.size = 2 := by
    obtain ⟨i0,hi,hz⟩ := Option.map_eq_some_iff.1 info34
    simp only [Prod.mk.injEq] at hz
    exact ⟨i0,hi,hz.2.1⟩
  have CT := Aside0.mk (cut_to 22 34 .i64 Try.underlying22 hi0 A1 len c1 (at_ : Int) (by omega) (by omega) (by have := h.cap;omega))
  have CF := Aside0.mk (cut_from 22 34 .i64 Try.underlying22 hi0 2 hsz0 A1 len c1 (at_ : Int) (by omega) (by omega))
  simp only [Int.toNat_natCast] at CT
  rw [show ((at_ : Int) : Int).toNat = at_ by omega] at CF
  obtain ⟨A2,hA2⟩ : ∃ A2,(if c1 = at_ then A1 else A1.map (·.add ((at_) * 2))) = A2 := ⟨_,rfl⟩
  have HA2 := Aside0.mk hA2
  rw [hA2] at CF
  have hct := CT.out
  have hcf := CF.out
  clear CT CF
  have g0 := (blk_cell h.blk 0).trans rfl
  rw [hlen] at g0
  have WLT := Aside0.mk (blk_lt h.blk)
  clear h hs hk hr hf hn hk0 hrt hok hfew hz hlen hat hi0 hsz0 hA2
  go_enter Try.func17,Try.ntmps17
  go_wp2_with (fail)
  refine RT.out.mono ?_
  rintro e w1 ⟨rfl,hb⟩
  have HB1 := Aside0.mk hb
  have HV1 := Aside0.mk (HV.out.below hb)
  have HR1 := Aside0.mk (HR.out.below hb)
  clear hb RT
  go_wp2_with (fail)
  have MN := Aside0.mk (ref_many g A1 c1 L A c r w1 HV1.out HS.out HK.out HR1.out (by have := HLEN.out;omega))
  rw [MK.out] at MN
  refine MN.out.mono ?_
  rintro e w2 ⟨rfl,hb⟩
  have HB2 := Aside0.mk (HB1.out.trans (hb.mono HB1.out.size))
  have HV2 := Aside0.mk (HV1.out.below hb)
  have HR2 := Aside0.mk (HR1.out.below hb)
  clear hb HB1 HV1 HR1 MN
  go_wp2_with (fail)
  rw [HN2.out]
  refine (FEW.out w2).mono ?_
  rintro e w3 ⟨rfl,hd⟩
  have hb := hd.below
  have HB3 := Aside0.mk (HB2.out.trans (hb.mono HB2.out.size))
  have HV3 := Aside0.mk (HV2.out.below hb)
  have HR3 := Aside0.mk (HR2.out.below hb)
  clear hb hd HB2 HV2 HR2 FEW
  go_wp2_with (fail)
  have FN := Aside0.mk (ref_find g A1 c1 L A c r w3 HV3.out HS.out HK.out HR3.out (by have := HLEN.out;omega))
  rw [HAT.out,HF.out] at FN
  simp only [Option.isSome_none] at FN
  refine FN.out.mono ?_
  rintro e w4 ⟨rfl,hb⟩
  have HB4 := Aside0.mk (HB3.out.trans (hb.mono HB3.out.size))
  have HV4 := Aside0.mk (HV3.out.below hb)
  have HR4 := Aside0.mk (HR3.out.below hb)
  replace g0 := (blk_cell HV4.out.blk 0).trans rfl
  rw [HLEN.out] at g0
  clear hb HB3 HV3 HR3 FN
  go_upto_region 8 with (fail)
  rw [HN2.out]
  have BX5 := Aside0.mk (blk_new w4 (Obj.cells #[.slice none 0 0,.int .i64 n] 34))
  have HB5 := Aside0.mk (below_alloc HB4.out (Obj.cells #[.slice none 0 0,.int .i64 n] 34))
  have HV5 := Aside0.mk (HV4.out.below (below_alloc (Below.refl w4.heap.size w4) (Obj.cells #[.slice none 0 0,.int .i64 n] 34)))
  have HR5 := Aside0.mk (HR4.out.below (below_alloc (Below.refl w4.heap.size w4) (Obj.cells #[.slice none 0 0,.int .i64 n] 34)))
  have GE := Aside0.mk HB4.out.size
  obtain ⟨bx,hbx⟩ : ∃ bx,w4.heap.size = bx := ⟨_,rfl⟩
  rw [hbx] at BX5 GE ⊢
  clear hbx HB4 HV4 HR4 g0
  generalize w4.alloc (Obj.cells #[.slice none 0 0,.int .i64 n] 34) = w5 at *
  have z0 := blk_frozen BX5.out 0
  have y0 := (blk_cell BX5.out 0).trans rfl
  have y1 := (blk_cell BX5.out 1).trans rfl
  go_upto_region 9 with (((with_reducible refine gate_builtin (b := .append) (xs := #[.tmp 42,.tmp 43]) rfl ?_);at_builtin;refine Kd.R_append_rows k66 (w0 := w) w.heap.size rfl (.tmp 42) (.tmp 43) 23 66 (.agg #[(.int .i64 0),(.bool false),(.int .i64 0),(.string ⟨#[]⟩)]) 40 rfl Try.underlying23 info66 rfl (by decide) (by omega) (.slice none 0 0) [] r A r.length c (fun k => k ≠ bx) (fun _ => False) rfl rfl (Kd.R_nil _ _ _ _ _) HR5.out.row (fun x cs h => by rw [k66_open h];exact k66_mkM _ _ _ _) (fun _ h => h.elim) (fun k hk => by have := blk_lt BX5.out;omega) HB5.out HB5.out.size (by have := RL.out;rw [List.length_nil];omega) ?_;intro v1 w6 hv hb3 hg hat;have HV1 := Aside0.mk hv;have HB6 := Aside0.mk hb3;have HV6 := Aside0.mk (HV5.out.keep (ch_grown (S := fun _ => False) hg (fun k e => by cases e)) (fun s => s) (fun _ _ s => s));have BX6 := Aside0.mk (blk_grown BX5.out hg (by simp [Value.ownBlock]));have z6 := blk_frozen BX6.out 0;have y6 := (blk_cell BX6.out 0).trans rfl;obtain ⟨Ar,cr,er⟩ := Kd.R_slice hv;clear hv hb3 hg hat z0 y0 y1;subst er))
  have cb6 : Ch (fun k => k = bx) w6 (w6.setCell ⟨bx,0,none⟩ (.slice Ar r.length cr)) := (Ch.refl (fun k => k = bx) w6).setCell (p := ⟨bx,0,none⟩) (.inl rfl) _
  have BX7 := Aside0.mk (show (w6.setCell ⟨bx,0,none⟩ (.slice Ar r.length cr)).heap[bx]? = some (.cells #[.slice Ar r.length cr,.int .i64 n] 34 (0,0)) from blk_put BX6.out 0 _ rfl)
  have HV7 := Aside0.mk (HV6.out.keep cb6 (fun e => by have := WLT.out;have := GE.out;omega) (fun k hk e => by have := HV.out.lt k hk;have := GE.out;omega))
  have HB7 := Aside0.mk (HB6.out.setCell (p := ⟨bx,0,none⟩) GE.out (.slice Ar r.length cr))
  have HR7 := Aside0.mk (Kd.R_far (p := ⟨bx,0,none⟩) HV1.out (fun k hk => hk) (.slice Ar r.length cr))
  clear cb6 z6 y6 HV1
  generalize w6.setCell ⟨bx,0,none⟩ (.slice Ar r.length cr) = w9 at *
  have RR := Aside0.mk (show ∃ NR : Nat → Prop,(∀ k,NR k → w.heap.size ≤ k ∧ k < w9.heap.size ∧ k ≠ bx) ∧ Kd.F k66 w9 NR Ar r.length r ∧ r.length ≤ cr from ⟨fun k => k ≠ bx ∧ w.heap.size ≤ k ∧ k < w9.heap.size,fun k hk => ⟨hk.2.1,hk.2.2,hk.1⟩,Kd.F_mono (Kd.R_F (Kd.R_bound HR7.out)) (fun k hk => ⟨hk.1,hk.2.1,hk.2.2.1⟩),(Kd.R_reads' HR7.out).2.1⟩)
  obtain ⟨NR,hNR,hFR,hcr⟩ := RR.out
  have NR1 := Aside0.mk hNR
  have FR1 := Aside0.mk hFR
  have CR1 := Aside0.mk hcr
  clear hNR hFR hcr RR HR7
  have HV9 := HV7
  have HB9 := HB7
  have BX9 := BX7
  have FR9 := Aside0.mk (Kd.F_mono (ok' := fun k => D k ∨ NR k) FR1.out (fun k hk => .inr hk))
  have NR9 := NR1
  have CR9 := CR1
  clear HV7 HB7 BX7 FR1 NR1 CR1
  have OKD := Aside0.mk (fun k (hk : D k) => show (D k ∨ NR k ∨ w9.heap.size ≤ k) ∧ k < w9.heap.size from ⟨.inl hk,Nat.lt_of_lt_of_le (HV.out.lt k hk) HB9.out.size⟩)
  have FT := Aside0.mk (show Kd.F k34 w9 D A1 at_ (loD r L) by
    have h1 := Kd.F_take (m := at_) HV9.out.row (by have := HLEN.out;omega)
    rw [TK.out,HAT.out] at h1
    exact h1)
  have g9 := (blk_cell HV9.out.blk 0).trans rfl
  rw [HLEN.out] at g9
  go_upto_region 13 with (((with_reducible refine gate_builtin (b := .append) (xs := #[.tmp 56,.tmp 62]) rfl ?_);at_builtin;refine Kd.N_append_rows k34 (w0 := w) w.heap.size rfl (.tmp 56) (.tmp 62) 22 34 (.agg #[(.slice none 0 0),(.int .i64 0)]) 32 rfl Try.underlying22 info34 rfl (by decide) (by omega) (.slice none 0 0) [] (loD r L) A1 at_ c1 (fun k => D k ∨ NR k ∨ w9.heap.size ≤ k) D rfl rfl (Kd.N_nil _ _ _ _ _) FT.out (fun k hk => ⟨.inl hk,by simp [Value.ownBlock]⟩) (fun k hk => .inr (.inr hk)) HB9.out HB9.out.size (by have := HLEN.out;rw [List.length_nil];omega) ?_;intro v1 w10 hv hb3 hg hat;rw [List.nil_append] at hv;have N10 := Aside0.mk hv;have HB10 := Aside0.mk hb3;have AT10 := Aside0.mk (own_new hat);have N10S := Aside0.mk hg.size;have HV10 := Aside0.mk (HV9.out.keep (ch_grown (S := fun _ => False) hg (fun k e => by cases e)) (fun s => s) (fun _ _ s => s));have BX10 := Aside0.mk (blk_grown BX9.out hg (by simp [Value.ownBlock]));have FR10 := Aside0.mk (Kd.F_grown FR9.out hg (fun k hk => by simp [Value.ownBlock]));have y10 := (blk_cell BX10.out 0).trans rfl;have y11 := (blk_cell BX10.out 1).trans rfl;obtain ⟨Al,cl,el⟩ := Kd.N_slice hv;clear hv hb3 hg hat g9;subst el))
  have N12 := N10
  have HB12 := HB10
  have HV12 := HV10
  have AT12 := AT10
  have N12S := N10S
  have g12 := (blk_cell HV12.out.blk 0).trans rfl
  rw [HLEN.out] at g12
  clear N10 HB10 HV10 AT10 FR10
  have FT2 := Aside0.mk (show Kd.F k34 w10 D A2 (len - at_) (hiD r L) by
    have h1 := Kd.F_cut (c := c1) (m := at_) HV12.out.row (by have := HLEN.out;omega) HV12.out.cap
    rw [DPH.out] at h1
    have h2 : (hiD r L).length = len - at_ := by rw [← DPH.out,List.length_drop,HLEN.out]
    rw [h2] at h1
    rw [← HA2.out]
    exact h1)
  have zg := blk_frozen HV12.out.blk 0
  go_wp2_with (((with_reducible refine gate_builtin (b := .append) (xs := #[.tmp 75,.tmp 81]) rfl ?_);at_builtin;refine Kd.N_append_rows k34 (w0 := w) w.heap.size rfl (.tmp 75) (.tmp 81) 22 34 (.agg #[(.slice none 0 0),(.int .i64 0)]) 32 rfl Try.underlying22 info34 rfl (by decide) (by omega) (.slice Al (loD r L).length cl) (loD r L) (hiD r L) A2 (len - at_) (c1 - at_) (fun k => D k ∨ NR k ∨ w9.heap.size ≤ k) D rfl rfl N12.out FT2.out (fun k hk => ⟨.inl hk,fun e => by have := AT12.out k e.symm;have := (OKD.out k hk).2;omega⟩) (fun k hk => .inr (.inr (by have h1 := HB12.out.size;have h3 := N12S.out;omega))) HB12.out HB12.out.size (by have := HLEN.out;have := HAT.out;omega) ?_;intro v3 w12 hv hb3 hg hat;obtain ⟨L3,hL3⟩ : ∃ L3,(loD r L) ++ hiD r L = L3 := ⟨_,rfl⟩;rw [hL3] at hv;have HL3 := Aside0.mk hL3;clear hL3;have N13 := Aside0.mk hv;have HB13 := Aside0.mk hb3;have HV13 := Aside0.mk (HV12.out.keep (ch_grown (S := fun k => w9.heap.size ≤ k) hg (fun k e => AT12.out k e)) (fun s => by have := WLT.out;have := HB9.out.size;omega) (fun k hk s => by have := (OKD.out k hk).2;omega));have zg2 := blk_frozen HV13.out.blk 0;have yg2 := (blk_cell HV13.out.blk 0).trans rfl;obtain ⟨Al3,cl3,el⟩ := Kd.N_slice hv;clear hv hb3 hg hat g12 zg;subst el))
  go_ret
  have hL : L3 = putD r n L := by
    rw [← HL3.out]
    unfold putD;rw [if_pos HZ.out,List.append_nil]
  rw [← hL]
  have s9 := HB9.out.size
  have wl := WLT.out
  have cg : Ch (fun k => k = g) w12 (w12.setCell ⟨g,0,none⟩ (.slice Al3 L3.length cl3)) := (Ch.refl (fun k => k = g) w12).setCell (p := ⟨g,0,none⟩) (.inl rfl) _
  have dn : ∀ k,((D k ∨ NR k ∨ w9.heap.size ≤ k) ∧ k < w12.heap.size) → k ≠ g := fun k hk e => by
    rcases hk.1 with q | q | q
    · exact HV.out.g_not (e ▸ q)
    · have := (NR9.out k q).1;omega
    · omega
  have R1 : RefV (w12.setCell ⟨g,0,none⟩ (.slice Al3 L3.length cl3)) g Al3 cl3 L3 (fun k => (D k ∨ NR k ∨ w9.heap.size ≤ k) ∧ k < w12.heap.size) :=
    ⟨blk_put HV13.out.blk 0 _ rfl,(Kd.N_reads' N13.out).2.1,Kd.F_step (Kd.F_bound (Kd.N_F N13.out)) (fun k hk hlt => cg.block k hlt (dn k hk)),fun hk => dn g hk rfl,fun k hk => Nat.lt_of_lt_of_le hk.2 cg.size⟩
  have R2 : RefCh w (w12.setCell ⟨g,0,none⟩ (.slice Al3 L3.length cl3)) g D (fun k => (D k ∨ NR k ∨ w9.heap.size ≤ k) ∧ k < w12.heap.size) :=
    ⟨(Ch.of_below (S := fun k => k = g) HB13.out).then_ cg (fun k hk => .inl hk),fun k hk => hk.1.imp id (fun q => q.elim (fun q => (NR9.out k q).1) (fun q => by omega))⟩
  first
    | exact ⟨_,_,_,rfl,R1,R2⟩
    | exact ⟨rfl,_,_,_,R1,R2⟩
    | exact ⟨rfl,_,_,R1,R2⟩
set_option maxHeartbeats 4000000 in
set_option maxRecDepth 100000 in
theorem ref_addSN {D : Nat → Prop} (g : Nat) (A1 : Option Addr) (c1 : Nat) (L : List En) (A : Option Addr) (c : Nat) (r : Rw) (m n : Int) (y : En) (w : World) (h : RefV w g A1 c1 L D) (hs : SrtD L) (hk : OkD L) (hr : RowC w A c r) (hl : L.length ≤ 1000000)
    (hrt : rright r = true) (hn : manyD r L + m = n) (hok : okAdd r m L = true) (hz : n ≠ 0) (hf : fndD r L = some y) :
    Calls Try.prog 17 #[.pointer (some ⟨g,0,none⟩),.slice A r.length c,.int .i64 m] w fun e w' => ∃ A' c' D',e = .returned (.int .i64 0) ∧ RefV w' g A' c' (putD r n L) D' ∧ RefCh w w' g D D' := by
  have HV := Aside0.mk h
  have HS := Aside0.mk hs
  have HK := Aside0.mk hk
  have HR := Aside0.mk hr
  have HF := Aside0.mk hf
  have HN := Aside0.mk hn
  have RL := Aside0.mk (right_len hrt)
  have RT := Aside0.mk (rright_at A c r w hr)
  rw [hrt] at RT
  obtain ⟨k,hk0⟩ : ∃ k,manyD r L = k := ⟨_,rfl⟩
  have MK := Aside0.mk hk0
  obtain ⟨m0,m1⟩ := many_bd (r := r) hk
  rw [hk0] at m0 m1 hn
  have hok' := hok
  unfold okAdd at hok'
  rw [Bool.and_eq_true,Bool.and_eq_true,decide_eq_true_eq,decide_eq_true_eq,hk0,hn] at hok'
  obtain ⟨⟨b0,b1⟩,hfew⟩ := hok'
  have HFEW := Aside0.mk hfew
  have f0 := (few_iff.1 hfew).1
  have f1 := (few_iff.1 hfew).2
  have q1 : decide (m < -2147483648) = false := decide_eq_false (by omega)
  have q2 : decide (2147483648 < m) = false := decide_eq_false (by omega)
  have FEW := Aside0.mk (fun W => rfew_calls (k + m) W)
  rw [hn,hfew] at FEW
  have HN2 := Aside0.mk hn
  have q3 : (n != 0) = true := by simp [hz]
  have HZ := Aside0.mk hz
  obtain ⟨len,hlen⟩ : ∃ len,L.length = len := ⟨_,rfl⟩
  obtain ⟨at_,hat⟩ : ∃ at_,(loD r L).length = at_ := ⟨_,rfl⟩
  have HLEN := Aside0.mk hlen
  have HAT := Aside0.mk hat
  have al : at_ ≤ len := by have := lo_len r hs;omega
  have aB : at_ ≤ 1000000 := by omega
  have TK := Aside0.mk (take_lo (r := r) hs)
  have DP := Aside0.mk (drop_lo (r := r) hs)
  rw [hat] at TK DP
  rw [hf] at DP
  have aln : at_ < len := by
    rcases Nat.lt_or_ge at_ len with q | q
    · exact q
    · rw [fnd_end hs (by omega)] at hf;cases hf
  have hy : L[at_]? = some y := by
    have h1 := List.getElem?_eq_getElem (show at_ < L.length by omega)
    rcases (fnd_at (r := r) hs (x := L[at_]) (by rw [hat];exact h1)).2 with q | q
    · rw [hf] at q;rw [h1,q]
    · rw [hf] at q;cases q
  have HY := Aside0.mk hy
  have hyr : y.f0 = r := by
    have h1 := List.find?_some (show L.find? (fun x => decide (rcmp r x.f0 = 0)) = some y from hf)
    exact (rright_eq hrt (hk y (List.mem_of_find?_eq_some hf)).1 (of_decide_eq_true h1)).symm
  have HYR := Aside0.mk hyr
  have p0 : (0 : Int) ≤ (at_ : Int) := by omega
  have p1 : (at_ : Int) < (len : Int) := by omega
  have DPH := Aside0.mk (show L.drop (at_ + 1) = hiD r L by
    rw [← List.drop_drop,DP.out];rfl)
  obtain ⟨i0,hi0,hsz0⟩ : ∃ i0,Try.prog.info? 34 = some i0 ∧ i0.size = 2 := by
    obtain ⟨i0,hi,hz⟩ := Option.map_eq_some_iff.1 info34
    simp only [Prod.mk.injEq] at hz
    exact ⟨i0,hi,hz.2.1⟩
  have CT := Aside0.mk (cut_to 22 34 .i64 Try.underlying22 hi0 A1 len c1 (at_ : Int) (by omega) (by omega) (by have := h.cap;omega))
  have CF := Aside0.mk (cut_from 22 34 .i64 Try.underlying22 hi0 2 hsz0 A1 len c1 ((at_ : Int) + 1) (by omega) (by omega))
  simp only [Int.toNat_natCast] at CT
  rw [show (((at_ : Int) + 1) : Int).toNat = at_ + 1 by omega] at CF
  obtain ⟨A2,hA2⟩ : ∃ A2,(if c1 = at_ + 1 then A1 else A1.map (·.add ((at_ + 1) * 2))) = A2 := ⟨_,rfl⟩
  have HA2 := Aside0.mk hA2
  rw [hA2] at CF
  have hct := CT.out
  have hcf := CF.out
  clear CT CF
  have g0 := (blk_cell h.blk 0).trans rfl
  rw [hlen] at g0
  have WLT := Aside0.mk (blk_lt h.blk)
  clear h hs hk hr hf hn hk0 hrt hok hfew hz hlen hat hi0 hsz0 hA2 hyr hy
  go_enter Try.func17,Try.ntmps17
  go_wp2_with (fail)
  refine RT.out.mono ?_
  rintro e w1 ⟨rfl,hb⟩
  have HB1 := Aside0.mk hb
  have HV1 := Aside0.mk (HV.out.below hb)
  have HR1 := Aside0.mk (HR.out.below hb)
  clear hb RT
  go_wp2_with (fail)
  have MN := Aside0.mk (ref_many g A1 c1 L A c r w1 HV1.out HS.out HK.out HR1.out (by have := HLEN.out;omega))
  rw [MK.out] at MN
  refine MN.out.mono ?_
  rintro e w2 ⟨rfl,hb⟩
  have HB2 := Aside0.mk (HB1.out.trans (hb.mono HB1.out.size))
  have HV2 := Aside0.mk (HV1.out.below hb)
  have HR2 := Aside0.mk (HR1.out.below hb)
  clear hb HB1 HV1 HR1 MN
  go_wp2_with (fail)
  rw [HN2.out]
  refine (FEW.out w2).mono ?_
  rintro e w3 ⟨rfl,hd⟩
  have hb := hd.below
  have HB3 := Aside0.mk (HB2.out.trans (hb.mono HB2.out.size))
  have HV3 := Aside0.mk (HV2.out.below hb)
  have HR3 := Aside0.mk (HR2.out.below hb)
  clear hb hd HB2 HV2 HR2 FEW
  go_wp2_with (fail)
  have FN := Aside0.mk (ref_find g A1 c1 L A c r w3 HV3.out HS.out HK.out HR3.out (by have := HLEN.out;omega))
  rw [HAT.out,HF.out] at FN
  simp only [Option.isSome_some] at FN
  refine FN.out.mono ?_
  rintro e w4 ⟨rfl,hb⟩
  have HB4 := Aside0.mk (HB3.out.trans (hb.mono HB3.out.size))
  have HV4 := Aside0.mk (HV3.out.below hb)
  have HR4 := Aside0.mk (HR3.out.below hb)
  replace g0 := (blk_cell HV4.out.blk 0).trans rfl
  rw [HLEN.out] at g0
  clear hb HB3 HV3 HR3 FN
  go_upto_region 8 with (fail)
  rw [HN2.out]
  have BX5 := Aside0.mk (blk_new w4 (Obj.cells #[.slice none 0 0,.int .i64 n] 34))
  have HB5 := Aside0.mk (below_alloc HB4.out (Obj.cells #[.slice none 0 0,.int .i64 n] 34))
  have HV5 := Aside0.mk (HV4.out.below (below_alloc (Below.refl w4.heap.size w4) (Obj.cells #[.slice none 0 0,.int .i64 n] 34)))
  have HR5 := Aside0.mk (HR4.out.below (below_alloc (Below.refl w4.heap.size w4) (Obj.cells #[.slice none 0 0,.int .i64 n] 34)))
  have GE := Aside0.mk HB4.out.size
  obtain ⟨bx,hbx⟩ : ∃ bx,w4.heap.size = bx := ⟨_,rfl⟩
  rw [hbx] at BX5 GE ⊢
  clear hbx HB4 HV4 HR4 g0
  generalize w4.alloc (Obj.cells #[.slice none 0 0,.int .i64 n] 34) = w5 at *
  have z0 := blk_frozen BX5.out 0
  have y0 := (blk_cell BX5.out 0).trans rfl
  have y1 := (blk_cell BX5.out 1).trans rfl
  go_upto_region 9 with (((with_reducible refine gate_builtin (b := .append) (xs := #[.tmp 42,.tmp 43]) rfl ?_);at_builtin;refine Kd.R_append_rows k66 (w0 := w) w.heap.size rfl (.tmp 42) (.tmp 43) 23 66 (.agg #[(.int .i64 0),(.bool false),(.int .i64 0),(.string ⟨#[]⟩)]) 40 rfl Try.underlying23 info66 rfl (by decide) (by omega) (.slice none 0 0) [] r A r.length c (fun k => k ≠ bx) (fun _ => False) rfl rfl (Kd.R_nil _ _ _ _ _) HR5.out.row (fun x cs h => by rw [k66_open h];exact k66_mkM _ _ _ _) (fun _ h => h.elim) (fun k hk => by have := blk_lt BX5.out;omega) HB5.out HB5.out.size (by have := RL.out;rw [List.length_nil];omega) ?_;intro v1 w6 hv hb3 hg hat;have HV1 := Aside0.mk hv;have HB6 := Aside0.mk hb3;have HV6 := Aside0.mk (HV5.out.keep (ch_grown (S := fun _ => False) hg (fun k e => by cases e)) (fun s => s) (fun _ _ s => s));have BX6 := Aside0.mk (blk_grown BX5.out hg (by simp [Value.ownBlock]));have z6 := blk_frozen BX6.out 0;have y6 := (blk_cell BX6.out 0).trans rfl;obtain ⟨Ar,cr,er⟩ := Kd.R_slice hv;clear hv hb3 hg hat z0 y0 y1;subst er))
  have cb6 : Ch (fun k => k = bx) w6 (w6.setCell ⟨bx,0,none⟩ (.slice Ar r.length cr)) := (Ch.refl (fun k => k = bx) w6).setCell (p := ⟨bx,0,none⟩) (.inl rfl) _
  have BX7 := Aside0.mk (show (w6.setCell ⟨bx,0,none⟩ (.slice Ar r.length cr)).heap[bx]? = some (.cells #[.slice Ar r.length cr,.int .i64 n] 34 (0,0)) from blk_put BX6.out 0 _ rfl)
  have HV7 := Aside0.mk (HV6.out.keep cb6 (fun e => by have := WLT.out;have := GE.out;omega) (fun k hk e => by have := HV.out.lt k hk;have := GE.out;omega))
  have HB7 := Aside0.mk (HB6.out.setCell (p := ⟨bx,0,none⟩) GE.out (.slice Ar r.length cr))
  have HR7 := Aside0.mk (Kd.R_far (p := ⟨bx,0,none⟩) HV1.out (fun k hk => hk) (.slice Ar r.length cr))
  clear cb6 z6 y6 HV1
  generalize w6.setCell ⟨bx,0,none⟩ (.slice Ar r.length cr) = w7 at *
  have RR := Aside0.mk (show ∃ NR : Nat → Prop,(∀ k,NR k → w.heap.size ≤ k ∧ k < w7.heap.size ∧ k ≠ bx) ∧ Kd.F k66 w7 NR Ar r.length r ∧ r.length ≤ cr from ⟨fun k => k ≠ bx ∧ w.heap.size ≤ k ∧ k < w7.heap.size,fun k hk => ⟨hk.2.1,hk.2.2,hk.1⟩,Kd.F_mono (Kd.R_F (Kd.R_bound HR7.out)) (fun k hk => ⟨hk.1,hk.2.1,hk.2.2.1⟩),(Kd.R_reads' HR7.out).2.1⟩)
  obtain ⟨NR,hNR,hFR,hcr⟩ := RR.out
  have NR1 := Aside0.mk hNR
  have FR1 := Aside0.mk hFR
  have CR1 := Aside0.mk hcr
  clear hNR hFR hcr RR HR7
  have g7 := (blk_cell HV7.out.blk 0).trans rfl
  rw [HLEN.out] at g7
  obtain ⟨ad,A0,c0,e1,x0,x1,_,hc0,hF0⟩ := HV7.out.get (by have := HLEN.out;omega) HY.out
  subst e1
  rw [HYR.out] at x0 hc0 hF0
  have FR2 := Aside0.mk hF0
  have CR2 := Aside0.mk hc0
  have z7 := blk_frozen BX7.out 0
  have y7 := (blk_cell BX7.out 0).trans rfl
  clear hc0 hF0 x1
  go_upto_region 11 with (fail)
  have cb7 : Ch (fun k => k = bx) w7 (w7.setCell ⟨bx,0,none⟩ (.slice A0 r.length c0)) := (Ch.refl (fun k => k = bx) w7).setCell (p := ⟨bx,0,none⟩) (.inl rfl) _
  have BX9 := Aside0.mk (show (w7.setCell ⟨bx,0,none⟩ (.slice A0 r.length c0)).heap[bx]? = some (.cells #[.slice A0 r.length c0,.int .i64 n] 34 (0,0)) from blk_put BX7.out 0 _ rfl)
  have HV9 := Aside0.mk (HV7.out.keep cb7 (fun e => by have := WLT.out;have := GE.out;omega) (fun k hk e => by have := HV.out.lt k hk;have := GE.out;omega))
  have HB9 := Aside0.mk (HB7.out.setCell (p := ⟨bx,0,none⟩) GE.out (.slice A0 r.length c0))
  have FR9 := Aside0.mk (Kd.F_mono (ok' := fun k => D k ∨ NR k) (Kd.F_step FR2.out (W1 := w7.setCell ⟨bx,0,none⟩ (.slice A0 r.length c0)) (fun k hk hlt => cb7.block k hlt (fun e => by have := HV.out.lt k hk;have := GE.out;omega))) (fun k hk => .inl hk))
  have NR9 := Aside0.mk (show ∀ k,NR k → w.heap.size ≤ k ∧ k < (w7.setCell ⟨bx,0,none⟩ (.slice A0 r.length c0)).heap.size ∧ k ≠ bx from fun k hk => ⟨(NR1.out k hk).1,Nat.lt_of_lt_of_le (NR1.out k hk).2.1 cb7.size,(NR1.out k hk).2.2⟩)
  have CR9 := CR2
  clear cb7 z7 y7 x0 g7 FR1 FR2 NR1 CR1 CR2 BX7 HV7 HB7
  generalize w7.setCell ⟨bx,0,none⟩ (.slice A0 r.length c0) = w9 at *
  have OKD := Aside0.mk (fun k (hk : D k) => show (D k ∨ NR k ∨ w9.heap.size ≤ k) ∧ k < w9.heap.size from ⟨.inl hk,Nat.lt_of_lt_of_le (HV.out.lt k hk) HB9.out.size⟩)
  have FT := Aside0.mk (show Kd.F k34 w9 D (some ad) at_ (loD r L) by
    have h1 := Kd.F_take (m := at_) HV9.out.row (by have := HLEN.out;omega)
    rw [TK.out,HAT.out] at h1
    exact h1)
  have g9 := (blk_cell HV9.out.blk 0).trans rfl
  rw [HLEN.out] at g9
  go_upto_region 13 with (((with_reducible refine gate_builtin (b := .append) (xs := #[.tmp 56,.tmp 62]) rfl ?_);at_builtin;refine Kd.N_append_rows k34 (w0 := w) w.heap.size rfl (.tmp 56) (.tmp 62) 22 34 (.agg #[(.slice none 0 0),(.int .i64 0)]) 32 rfl Try.underlying22 info34 rfl (by decide) (by omega) (.slice none 0 0) [] (loD r L) (some ad) at_ c1 (fun k => D k ∨ NR k ∨ w9.heap.size ≤ k) D rfl rfl (Kd.N_nil _ _ _ _ _) FT.out (fun k hk => ⟨.inl hk,by simp [Value.ownBlock]⟩) (fun k hk => .inr (.inr hk)) HB9.out HB9.out.size (by have := HLEN.out;rw [List.length_nil];omega) ?_;intro v1 w10 hv hb3 hg hat;rw [List.nil_append] at hv;have N10 := Aside0.mk hv;have HB10 := Aside0.mk hb3;have AT10 := Aside0.mk (own_new hat);have N10S := Aside0.mk hg.size;have HV10 := Aside0.mk (HV9.out.keep (ch_grown (S := fun _ => False) hg (fun k e => by cases e)) (fun s => s) (fun _ _ s => s));have BX10 := Aside0.mk (blk_grown BX9.out hg (by simp [Value.ownBlock]));have FR10 := Aside0.mk (Kd.F_grown FR9.out hg (fun k hk => by simp [Value.ownBlock]));have y10 := (blk_cell BX10.out 0).trans rfl;have y11 := (blk_cell BX10.out 1).trans rfl;obtain ⟨Al,cl,el⟩ := Kd.N_slice hv;clear hv hb3 hg hat g9;subst el))
  have OKE := Aside0.mk (fun k (hk : D k ∨ NR k) => show (D k ∨ NR k ∨ w9.heap.size ≤ k) ∧ some k ≠ (Value.slice Al (loD r L).length cl).ownBlock from ⟨hk.imp id .inl,fun e => by have := AT10.out k e.symm;have : k < w9.heap.size := hk.elim (fun q => (OKD.out k q).2) (fun q => (NR9.out k q).2.1);omega⟩)
  go_upto_region 15 with (((with_reducible refine gate_builtin (b := .append) (xs := #[.tmp 67,.tmp 69]) rfl ?_);at_builtin;refine Kd.N_append k34 (w0 := w) w.heap.size rfl (.tmp 67) (.tmp 69) 22 34 (.agg #[(.slice none 0 0),(.int .i64 0)]) 32 rfl Try.underlying22 info34 rfl (by decide) (by omega) (.slice Al (loD r L).length cl) (loD r L) (⟨r,n⟩ : En) [.slice A0 r.length c0,.int .i64 n] (fun k => D k ∨ NR k ∨ w9.heap.size ≤ k) (fun k => D k ∨ NR k) rfl rfl (k34_mkF _ _ (⟨r,n⟩ : En) CR9.out FR10.out) OKE.out (fun k hk => .inr (.inr (by have h1 := HB10.out.size;have h2 := HB9.out.size;have h3 := N10S.out;omega))) N10.out HB10.out HB10.out.size (by have := HLEN.out;have := HAT.out;omega) ?_;intro v2 w11 hv hb3 hg hat;obtain ⟨L2,hL2⟩ : ∃ L2,loD r L ++ [(⟨r,n⟩ : En)] = L2 := ⟨_,rfl⟩;rw [hL2] at hv;have HL2 := Aside0.mk hL2;clear hL2;have N12 := Aside0.mk hv;have HB12 := Aside0.mk hb3;have N12S := Aside0.mk (Nat.le_trans N10S.out hg.size);have AT12 := Aside0.mk (own_new2 AT10.out N10S.out hat);have HV12 := Aside0.mk (HV10.out.keep (ch_grown (S := fun k => w9.heap.size ≤ k) hg (fun k e => AT10.out k e)) (fun s => by have := WLT.out;have := HB9.out.size;omega) (fun k hk s => by have := (OKD.out k hk).2;omega));obtain ⟨Al2,cl2,el⟩ := Kd.N_slice hv;clear hv hb3 hg hat y10 y11;subst el))
  have g12 := (blk_cell HV12.out.blk 0).trans rfl
  rw [HLEN.out] at g12
  clear N10 HB10 HV10 AT10 FR10
  have FT2 := Aside0.mk (show Kd.F k34 w11 D A2 (len - (at_ + 1)) (hiD r L) by
    have h1 := Kd.F_cut (c := c1) (m := (at_ + 1)) HV12.out.row (by have := HLEN.out;omega) HV12.out.cap
    rw [DPH.out] at h1
    have h2 : (hiD r L).length = len - (at_ + 1) := by rw [← DPH.out,List.length_drop,HLEN.out]
    rw [h2] at h1
    rw [← HA2.out]
    exact h1)
  have zg := blk_frozen HV12.out.blk 0
  go_wp2_with (((with_reducible refine gate_builtin (b := .append) (xs := #[.tmp 75,.tmp 81]) rfl ?_);at_builtin;refine Kd.N_append_rows k34 (w0 := w) w.heap.size rfl (.tmp 75) (.tmp 81) 22 34 (.agg #[(.slice none 0 0),(.int .i64 0)]) 32 rfl Try.underlying22 info34 rfl (by decide) (by omega) (.slice Al2 L2.length cl2) L2 (hiD r L) A2 (len - (at_ + 1)) (c1 - (at_ + 1)) (fun k => D k ∨ NR k ∨ w9.heap.size ≤ k) D rfl rfl N12.out FT2.out (fun k hk => ⟨.inl hk,fun e => by have := AT12.out k e.symm;have := (OKD.out k hk).2;omega⟩) (fun k hk => .inr (.inr (by have h1 := HB12.out.size;have h3 := N12S.out;omega))) HB12.out HB12.out.size (by have := HLEN.out;have := HAT.out;have hL2 := congrArg List.length HL2.out;rw [List.length_append] at hL2;simp at hL2;omega) ?_;intro v3 w12 hv hb3 hg hat;obtain ⟨L3,hL3⟩ : ∃ L3,L2 ++ hiD r L = L3 := ⟨_,rfl⟩;rw [hL3] at hv;have HL3 := Aside0.mk hL3;clear hL3;have N13 := Aside0.mk hv;have HB13 := Aside0.mk hb3;have HV13 := Aside0.mk (HV12.out.keep (ch_grown (S := fun k => w9.heap.size ≤ k) hg (fun k e => AT12.out k e)) (fun s => by have := WLT.out;have := HB9.out.size;omega) (fun k hk s => by have := (OKD.out k hk).2;omega));have zg2 := blk_frozen HV13.out.blk 0;have yg2 := (blk_cell HV13.out.blk 0).trans rfl;obtain ⟨Al3,cl3,el⟩ := Kd.N_slice hv;clear hv hb3 hg hat g12 zg;subst el))
  go_ret
  have hL : L3 = putD r n L := by
    rw [← HL3.out]
    rw [← HL2.out];unfold putD;rw [if_neg HZ.out]
  rw [← hL]
  have s9 := HB9.out.size
  have wl := WLT.out
  have cg : Ch (fun k => k = g) w12 (w12.setCell ⟨g,0,none⟩ (.slice Al3 L3.length cl3)) := (Ch.refl (fun k => k = g) w12).setCell (p := ⟨g,0,none⟩) (.inl rfl) _
  have dn : ∀ k,((D k ∨ NR k ∨ w9.heap.size ≤ k) ∧ k < w12.heap.size) → k ≠ g := fun k hk e => by
    rcases hk.1 with q | q | q
    · exact HV.out.g_not (e ▸ q)
    · have := (NR9.out k q).1;omega
    · omega
  have R1 : RefV (w12.setCell ⟨g,0,none⟩ (.slice Al3 L3.length cl3)) g Al3 cl3 L3 (fun k => (D k ∨ NR k ∨ w9.heap.size ≤ k) ∧ k < w12.heap.size) :=
    ⟨blk_put HV13.out.blk 0 _ rfl,(Kd.N_reads' N13.out).2.1,Kd.F_step (Kd.F_bound (Kd.N_F N13.out)) (fun k hk hlt => cg.block k hlt (dn k hk)),fun hk => dn g hk rfl,fun k hk => Nat.lt_of_lt_of_le hk.2 cg.size⟩
  have R2 : RefCh w (w12.setCell ⟨g,0,none⟩ (.slice Al3 L3.length cl3)) g D (fun k => (D k ∨ NR k ∨ w9.heap.size ≤ k) ∧ k < w12.heap.size) :=
    ⟨(Ch.of_below (S := fun k => k = g) HB13.out).then_ cg (fun k hk => .inl hk),fun k hk => hk.1.imp id (fun q => q.elim (fun q => (NR9.out k q).1) (fun q => by omega))⟩
  first
    | exact ⟨_,_,_,rfl,R1,R2⟩
    | exact ⟨rfl,_,_,_,R1,R2⟩
    | exact ⟨rfl,_,_,R1,R2⟩
set_option maxHeartbeats 4000000 in
set_option maxRecDepth 100000 in
theorem ref_addSZ {D : Nat → Prop} (g : Nat) (A1 : Option Addr) (c1 : Nat) (L : List En) (A : Option Addr) (c : Nat) (r : Rw) (m n : Int) (y : En) (w : World) (h : RefV w g A1 c1 L D) (hs : SrtD L) (hk : OkD L) (hr : RowC w A c r) (hl : L.length ≤ 1000000)
    (hrt : rright r = true) (hn : manyD r L + m = n) (hok : okAdd r m L = true) (hz : n = 0) (hf : fndD r L = some y) :
    Calls Try.prog 17 #[.pointer (some ⟨g,0,none⟩),.slice A r.length c,.int .i64 m] w fun e w' => ∃ A' c' D',e = .returned (.int .i64 0) ∧ RefV w' g A' c' (putD r n L) D' ∧ RefCh w w' g D D' := by
  have HV := Aside0.mk h
  have HS := Aside0.mk hs
  have HK := Aside0.mk hk
  have HR := Aside0.mk hr
  have HF := Aside0.mk hf
  have HN := Aside0.mk hn
  have RL := Aside0.mk (right_len hrt)
  have RT := Aside0.mk (rright_at A c r w hr)
  rw [hrt] at RT
  obtain ⟨k,hk0⟩ : ∃ k,manyD r L = k := ⟨_,rfl⟩
  have MK := Aside0.mk hk0
  obtain ⟨m0,m1⟩ := many_bd (r := r) hk
  rw [hk0] at m0 m1 hn
  have hok' := hok
  unfold okAdd at hok'
  rw [Bool.and_eq_true,Bool.and_eq_true,decide_eq_true_eq,decide_eq_true_eq,hk0,hn] at hok'
  obtain ⟨⟨b0,b1⟩,hfew⟩ := hok'
  have HFEW := Aside0.mk hfew
  have f0 := (few_iff.1 hfew).1
  have f1 := (few_iff.1 hfew).2
  have q1 : decide (m < -2147483648) = false := decide_eq_false (by omega)
  have q2 : decide (2147483648 < m) = false := decide_eq_false (by omega)
  have FEW := Aside0.mk (fun W => rfew_calls (k + m) W)
  rw [hn,hfew] at FEW
  have HN2 := Aside0.mk hn
  have q3 : (n != 0) = false := by simp [hz]
  have HZ := Aside0.mk hz
  obtain ⟨len,hlen⟩ : ∃ len,L.length = len := ⟨_,rfl⟩
  obtain ⟨at_,hat⟩ : ∃ at_,(loD r L).length = at_ := ⟨_,rfl⟩
  have HLEN := Aside0.mk hlen
  have HAT := Aside0.mk hat
  have al : at_ ≤ len := by have := lo_len r hs;omega
  have aB : at_ ≤ 1000000 := by omega
  have TK := Aside0.mk (take_lo (r := r) hs)
  have DP := Aside0.mk (drop_lo (r := r) hs)
  rw [hat] at TK DP
  rw [hf] at DP
  have aln : at_ < len := by
    rcases Nat.lt_or_ge at_ len with q | q
    · exact q
    · rw [fnd_end hs (by omega)] at hf;cases hf
  have hy : L[at_]? = some y := by
    have h1 := List.getElem?_eq_getElem (show at_ < L.length by omega)
    rcases (fnd_at (r := r) hs (x := L[at_]) (by rw [hat];exact h1)).2 with q | q
    · rw [hf] at q;rw [h1,q]
    · rw [hf] at q;cases q
  have HY := Aside0.mk hy
  have hyr : y.f0 = r := by
    have h1 := List.find?_some (show L.find? (fun x => decide (rcmp r x.f0 = 0)) = some y from hf)
    exact (rright_eq hrt (hk y (List.mem_of_find?_eq_some hf)).1 (of_decide_eq_true h1)).symm
  have HYR := Aside0.mk hyr
  have p0 : (0 : Int) ≤ (at_ : Int) := by omega
  have p1 : (at_ : Int) < (len : Int) := by omega
  have DPH := Aside0.mk (show L.drop (at_ + 1) = hiD r L by
    rw [← List.drop_drop,DP.out];rfl)
  obtain ⟨i0,hi0,hsz0⟩ : ∃ i0,Try.prog.info? 34 = some i0 ∧ i0.size = 2 := by
    obtain ⟨i0,hi,hz⟩ := Option.map_eq_some_iff.1 info34
    simp only [Prod.mk.injEq] at hz
    exact ⟨i0,hi,hz.2.1⟩
  have CT := Aside0.mk (cut_to 22 34 .i64 Try.underlying22 hi0 A1 len c1 (at_ : Int) (by omega) (by omega) (by have := h.cap;omega))
  have CF := Aside0.mk (cut_from 22 34 .i64 Try.underlying22 hi0 2 hsz0 A1 len c1 ((at_ : Int) + 1) (by omega) (by omega))
  simp only [Int.toNat_natCast] at CT
  rw [show (((at_ : Int) + 1) : Int).toNat = at_ + 1 by omega] at CF
  obtain ⟨A2,hA2⟩ : ∃ A2,(if c1 = at_ + 1 then A1 else A1.map (·.add ((at_ + 1) * 2))) = A2 := ⟨_,rfl⟩
  have HA2 := Aside0.mk hA2
  rw [hA2] at CF
  have hct := CT.out
  have hcf := CF.out
  clear CT CF
  have g0 := (blk_cell h.blk 0).trans rfl
  rw [hlen] at g0
  have WLT := Aside0.mk (blk_lt h.blk)
  clear h hs hk hr hf hn hk0 hrt hok hfew hz hlen hat hi0 hsz0 hA2 hyr hy
  go_enter Try.func17,Try.ntmps17
  go_wp2_with (fail)
  refine RT.out.mono ?_
  rintro e w1 ⟨rfl,hb⟩
  have HB1 := Aside0.mk hb
  have HV1 := Aside0.mk (HV.out.below hb)
  have HR1 := Aside0.mk (HR.out.below hb)
  clear hb RT
  go_wp2_with (fail)
  have MN := Aside0.mk (ref_many g A1 c1 L A c r w1 HV1.out HS.out HK.out HR1.out (by have := HLEN.out;omega))
  rw [MK.out] at MN
  refine MN.out.mono ?_
  rintro e w2 ⟨rfl,hb⟩
  have HB2 := Aside0.mk (HB1.out.trans (hb.mono HB1.out.size))
  have HV2 := Aside0.mk (HV1.out.below hb)
  have HR2 := Aside0.mk (HR1.out.below hb)
  clear hb HB1 HV1 HR1 MN
  go_wp2_with (fail)
  rw [HN2.out]
  refine (FEW.out w2).mono ?_
  rintro e w3 ⟨rfl,hd⟩
  have hb := hd.below
  have HB3 := Aside0.mk (HB2.out.trans (hb.mono HB2.out.size))
  have HV3 := Aside0.mk (HV2.out.below hb)
  have HR3 := Aside0.mk (HR2.out.below hb)
  clear hb hd HB2 HV2 HR2 FEW
  go_wp2_with (fail)
  have FN := Aside0.mk (ref_find g A1 c1 L A c r w3 HV3.out HS.out HK.out HR3.out (by have := HLEN.out;omega))
  rw [HAT.out,HF.out] at FN
  simp only [Option.isSome_some] at FN
  refine FN.out.mono ?_
  rintro e w4 ⟨rfl,hb⟩
  have HB4 := Aside0.mk (HB3.out.trans (hb.mono HB3.out.size))
  have HV4 := Aside0.mk (HV3.out.below hb)
  have HR4 := Aside0.mk (HR3.out.below hb)
  replace g0 := (blk_cell HV4.out.blk 0).trans rfl
  rw [HLEN.out] at g0
  clear hb HB3 HV3 HR3 FN
  go_upto_region 8 with (fail)
  rw [HN2.out]
  have BX5 := Aside0.mk (blk_new w4 (Obj.cells #[.slice none 0 0,.int .i64 n] 34))
  have HB5 := Aside0.mk (below_alloc HB4.out (Obj.cells #[.slice none 0 0,.int .i64 n] 34))
  have HV5 := Aside0.mk (HV4.out.below (below_alloc (Below.refl w4.heap.size w4) (Obj.cells #[.slice none 0 0,.int .i64 n] 34)))
  have HR5 := Aside0.mk (HR4.out.below (below_alloc (Below.refl w4.heap.size w4) (Obj.cells #[.slice none 0 0,.int .i64 n] 34)))
  have GE := Aside0.mk HB4.out.size
  obtain ⟨bx,hbx⟩ : ∃ bx,w4.heap.size = bx := ⟨_,rfl⟩
  rw [hbx] at BX5 GE ⊢
  clear hbx HB4 HV4 HR4 g0
  generalize w4.alloc (Obj.cells #[.slice none 0 0,.int .i64 n] 34) = w5 at *
  have z0 := blk_frozen BX5.out 0
  have y0 := (blk_cell BX5.out 0).trans rfl
  have y1 := (blk_cell BX5.out 1).trans rfl
  go_upto_region 9 with (((with_reducible refine gate_builtin (b := .append) (xs := #[.tmp 42,.tmp 43]) rfl ?_);at_builtin;refine Kd.R_append_rows k66 (w0 := w) w.heap.size rfl (.tmp 42) (.tmp 43) 23 66 (.agg #[(.int .i64 0),(.bool false),(.int .i64 0),(.string ⟨#[]⟩)]) 40 rfl Try.underlying23 info66 rfl (by decide) (by omega) (.slice none 0 0) [] r A r.length c (fun k => k ≠ bx) (fun _ => False) rfl rfl (Kd.R_nil _ _ _ _ _) HR5.out.row (fun x cs h => by rw [k66_open h];exact k66_mkM _ _ _ _) (fun _ h => h.elim) (fun k hk => by have := blk_lt BX5.out;omega) HB5.out HB5.out.size (by have := RL.out;rw [List.length_nil];omega) ?_;intro v1 w6 hv hb3 hg hat;have HV1 := Aside0.mk hv;have HB6 := Aside0.mk hb3;have HV6 := Aside0.mk (HV5.out.keep (ch_grown (S := fun _ => False) hg (fun k e => by cases e)) (fun s => s) (fun _ _ s => s));have BX6 := Aside0.mk (blk_grown BX5.out hg (by simp [Value.ownBlock]));have z6 := blk_frozen BX6.out 0;have y6 := (blk_cell BX6.out 0).trans rfl;obtain ⟨Ar,cr,er⟩ := Kd.R_slice hv;clear hv hb3 hg hat z0 y0 y1;subst er))
  have cb6 : Ch (fun k => k = bx) w6 (w6.setCell ⟨bx,0,none⟩ (.slice Ar r.length cr)) := (Ch.refl (fun k => k = bx) w6).setCell (p := ⟨bx,0,none⟩) (.inl rfl) _
  have BX7 := Aside0.mk (show (w6.setCell ⟨bx,0,none⟩ (.slice Ar r.length cr)).heap[bx]? = some (.cells #[.slice Ar r.length cr,.int .i64 n] 34 (0,0)) from blk_put BX6.out 0 _ rfl)
  have HV7 := Aside0.mk (HV6.out.keep cb6 (fun e => by have := WLT.out;have := GE.out;omega) (fun k hk e => by have := HV.out.lt k hk;have := GE.out;omega))
  have HB7 := Aside0.mk (HB6.out.setCell (p := ⟨bx,0,none⟩) GE.out (.slice Ar r.length cr))
  have HR7 := Aside0.mk (Kd.R_far (p := ⟨bx,0,none⟩) HV1.out (fun k hk => hk) (.slice Ar r.length cr))
  clear cb6 z6 y6 HV1
  generalize w6.setCell ⟨bx,0,none⟩ (.slice Ar r.length cr) = w7 at *
  have RR := Aside0.mk (show ∃ NR : Nat → Prop,(∀ k,NR k → w.heap.size ≤ k ∧ k < w7.heap.size ∧ k ≠ bx) ∧ Kd.F k66 w7 NR Ar r.length r ∧ r.length ≤ cr from ⟨fun k => k ≠ bx ∧ w.heap.size ≤ k ∧ k < w7.heap.size,fun k hk => ⟨hk.2.1,hk.2.2,hk.1⟩,Kd.F_mono (Kd.R_F (Kd.R_bound HR7.out)) (fun k hk => ⟨hk.1,hk.2.1,hk.2.2.1⟩),(Kd.R_reads' HR7.out).2.1⟩)
  obtain ⟨NR,hNR,hFR,hcr⟩ := RR.out
  have NR1 := Aside0.mk hNR
  have FR1 := Aside0.mk hFR
  have CR1 := Aside0.mk hcr
  clear hNR hFR hcr RR HR7
  have g7 := (blk_cell HV7.out.blk 0).trans rfl
  rw [HLEN.out] at g7
  obtain ⟨ad,A0,c0,e1,x0,x1,_,hc0,hF0⟩ := HV7.out.get (by have := HLEN.out;omega) HY.out
  subst e1
  rw [HYR.out] at x0 hc0 hF0
  have FR2 := Aside0.mk hF0
  have CR2 := Aside0.mk hc0
  have z7 := blk_frozen BX7.out 0
  have y7 := (blk_cell BX7.out 0).trans rfl
  clear hc0 hF0 x1
  go_upto_region 11 with (fail)
  have cb7 : Ch (fun k => k = bx) w7 (w7.setCell ⟨bx,0,none⟩ (.slice A0 r.length c0)) := (Ch.refl (fun k => k = bx) w7).setCell (p := ⟨bx,0,none⟩) (.inl rfl) _
  have BX9 := Aside0.mk (show (w7.setCell ⟨bx,0,none⟩ (.slice A0 r.length c0)).heap[bx]? = some (.cells #[.slice A0 r.length c0,.int .i64 n] 34 (0,0)) from blk_put BX7.out 0 _ rfl)
  have HV9 := Aside0.mk (HV7.out.keep cb7 (fun e => by have := WLT.out;have := GE.out;omega) (fun k hk e => by have := HV.out.lt k hk;have := GE.out;omega))
  have HB9 := Aside0.mk (HB7.out.setCell (p := ⟨bx,0,none⟩) GE.out (.slice A0 r.length c0))
  have FR9 := Aside0.mk (Kd.F_mono (ok' := fun k => D k ∨ NR k) (Kd.F_step FR2.out (W1 := w7.setCell ⟨bx,0,none⟩ (.slice A0 r.length c0)) (fun k hk hlt => cb7.block k hlt (fun e => by have := HV.out.lt k hk;have := GE.out;omega))) (fun k hk => .inl hk))
  have NR9 := Aside0.mk (show ∀ k,NR k → w.heap.size ≤ k ∧ k < (w7.setCell ⟨bx,0,none⟩ (.slice A0 r.length c0)).heap.size ∧ k ≠ bx from fun k hk => ⟨(NR1.out k hk).1,Nat.lt_of_lt_of_le (NR1.out k hk).2.1 cb7.size,(NR1.out k hk).2.2⟩)
  have CR9 := CR2
  clear cb7 z7 y7 x0 g7 FR1 FR2 NR1 CR1 CR2 BX7 HV7 HB7
  generalize w7.setCell ⟨bx,0,none⟩ (.slice A0 r.length c0) = w9 at *
  have OKD := Aside0.mk (fun k (hk : D k) => show (D k ∨ NR k ∨ w9.heap.size ≤ k) ∧ k < w9.heap.size from ⟨.inl hk,Nat.lt_of_lt_of_le (HV.out.lt k hk) HB9.out.size⟩)
  have FT := Aside0.mk (show Kd.F k34 w9 D (some ad) at_ (loD r L) by
    have h1 := Kd.F_take (m := at_) HV9.out.row (by have := HLEN.out;omega)
    rw [TK.out,HAT.out] at h1
    exact h1)
  have g9 := (blk_cell HV9.out.blk 0).trans rfl
  rw [HLEN.out] at g9
  go_upto_region 13 with (((with_reducible refine gate_builtin (b := .append) (xs := #[.tmp 56,.tmp 62]) rfl ?_);at_builtin;refine Kd.N_append_rows k34 (w0 := w) w.heap.size rfl (.tmp 56) (.tmp 62) 22 34 (.agg #[(.slice none 0 0),(.int .i64 0)]) 32 rfl Try.underlying22 info34 rfl (by decide) (by omega) (.slice none 0 0) [] (loD r L) (some ad) at_ c1 (fun k => D k ∨ NR k ∨ w9.heap.size ≤ k) D rfl rfl (Kd.N_nil _ _ _ _ _) FT.out (fun k hk => ⟨.inl hk,by simp [Value.ownBlock]⟩) (fun k hk => .inr (.inr hk)) HB9.out HB9.out.size (by have := HLEN.out;rw [List.length_nil];omega) ?_;intro v1 w10 hv hb3 hg hat;rw [List.nil_append] at hv;have N10 := Aside0.mk hv;have HB10 := Aside0.mk hb3;have AT10 := Aside0.mk (own_new hat);have N10S := Aside0.mk hg.size;have HV10 := Aside0.mk (HV9.out.keep (ch_grown (S := fun _ => False) hg (fun k e => by cases e)) (fun s => s) (fun _ _ s => s));have BX10 := Aside0.mk (blk_grown BX9.out hg (by simp [Value.ownBlock]));have FR10 := Aside0.mk (Kd.F_grown FR9.out hg (fun k hk => by simp [Value.ownBlock]));have y10 := (blk_cell BX10.out 0).trans rfl;have y11 := (blk_cell BX10.out 1).trans rfl;obtain ⟨Al,cl,el⟩ := Kd.N_slice hv;clear hv hb3 hg hat g9;subst el))
  have N12 := N10
  have HB12 := HB10
  have HV12 := HV10
  have AT12 := AT10
  have N12S := N10S
  have g12 := (blk_cell HV12.out.blk 0).trans rfl
  rw [HLEN.out] at g12
  clear N10 HB10 HV10 AT10 FR10
  have FT2 := Aside0.mk (show Kd.F k34 w10 D A2 (len - (at_ + 1)) (hiD r L) by
    have h1 := Kd.F_cut (c := c1) (m := (at_ + 1)) HV12.out.row (by have := HLEN.out;omega) HV12.out.cap
    rw [DPH.out] at h1
    have h2 : (hiD r L).length = len - (at_ + 1) := by rw [← DPH.out,List.length_drop,HLEN.out]
    rw [h2] at h1
    rw [← HA2.out]
    exact h1)
  have zg := blk_frozen HV12.out.blk 0
  go_wp2_with (((with_reducible refine gate_builtin (b := .append) (xs := #[.tmp 75,.tmp 81]) rfl ?_);at_builtin;refine Kd.N_append_rows k34 (w0 := w) w.heap.size rfl (.tmp 75) (.tmp 81) 22 34 (.agg #[(.slice none 0 0),(.int .i64 0)]) 32 rfl Try.underlying22 info34 rfl (by decide) (by omega) (.slice Al (loD r L).length cl) (loD r L) (hiD r L) A2 (len - (at_ + 1)) (c1 - (at_ + 1)) (fun k => D k ∨ NR k ∨ w9.heap.size ≤ k) D rfl rfl N12.out FT2.out (fun k hk => ⟨.inl hk,fun e => by have := AT12.out k e.symm;have := (OKD.out k hk).2;omega⟩) (fun k hk => .inr (.inr (by have h1 := HB12.out.size;have h3 := N12S.out;omega))) HB12.out HB12.out.size (by have := HLEN.out;have := HAT.out;omega) ?_;intro v3 w12 hv hb3 hg hat;obtain ⟨L3,hL3⟩ : ∃ L3,(loD r L) ++ hiD r L = L3 := ⟨_,rfl⟩;rw [hL3] at hv;have HL3 := Aside0.mk hL3;clear hL3;have N13 := Aside0.mk hv;have HB13 := Aside0.mk hb3;have HV13 := Aside0.mk (HV12.out.keep (ch_grown (S := fun k => w9.heap.size ≤ k) hg (fun k e => AT12.out k e)) (fun s => by have := WLT.out;have := HB9.out.size;omega) (fun k hk s => by have := (OKD.out k hk).2;omega));have zg2 := blk_frozen HV13.out.blk 0;have yg2 := (blk_cell HV13.out.blk 0).trans rfl;obtain ⟨Al3,cl3,el⟩ := Kd.N_slice hv;clear hv hb3 hg hat g12 zg;subst el))
  go_ret
  have hL : L3 = putD r n L := by
    rw [← HL3.out]
    unfold putD;rw [if_pos HZ.out,List.append_nil]
  rw [← hL]
  have s9 := HB9.out.size
  have wl := WLT.out
  have cg : Ch (fun k => k = g) w12 (w12.setCell ⟨g,0,none⟩ (.slice Al3 L3.length cl3)) := (Ch.refl (fun k => k = g) w12).setCell (p := ⟨g,0,none⟩) (.inl rfl) _
  have dn : ∀ k,((D k ∨ NR k ∨ w9.heap.size ≤ k) ∧ k < w12.heap.size) → k ≠ g := fun k hk e => by
    rcases hk.1 with q | q | q
    · exact HV.out.g_not (e ▸ q)
    · have := (NR9.out k q).1;omega
    · omega
  have R1 : RefV (w12.setCell ⟨g,0,none⟩ (.slice Al3 L3.length cl3)) g Al3 cl3 L3 (fun k => (D k ∨ NR k ∨ w9.heap.size ≤ k) ∧ k < w12.heap.size) :=
    ⟨blk_put HV13.out.blk 0 _ rfl,(Kd.N_reads' N13.out).2.1,Kd.F_step (Kd.F_bound (Kd.N_F N13.out)) (fun k hk hlt => cg.block k hlt (dn k hk)),fun hk => dn g hk rfl,fun k hk => Nat.lt_of_lt_of_le hk.2 cg.size⟩
  have R2 : RefCh w (w12.setCell ⟨g,0,none⟩ (.slice Al3 L3.length cl3)) g D (fun k => (D k ∨ NR k ∨ w9.heap.size ≤ k) ∧ k < w12.heap.size) :=
    ⟨(Ch.of_below (S := fun k => k = g) HB13.out).then_ cg (fun k hk => .inl hk),fun k hk => hk.1.imp id (fun q => q.elim (fun q => (NR9.out k q).1) (fun q => by omega))⟩
  first
    | exact ⟨_,_,_,rfl,R1,R2⟩
    | exact ⟨rfl,_,_,_,R1,R2⟩
    | exact ⟨rfl,_,_,R1,R2⟩
theorem ref_add {D : Nat → Prop} (g : Nat) (A1 : Option Addr) (c1 : Nat) (L : List En) (A : Option Addr) (c : Nat) (r : Rw) (m : Int) (w : World) (h : RefV w g A1 c1 L D) (hs : SrtD L) (hk : OkD L) (hr : RowC w A c r) (hl : L.length ≤ 1000000) :
    Calls Try.prog 17 #[.pointer (some ⟨g,0,none⟩),.slice A r.length c,.int .i64 m] w fun e w' => ∃ A' c' D',e = .returned (.int .i64 (addD r m L).1) ∧ RefV w' g A' c' (addD r m L).2 D' ∧ RefCh w w' g D D' := by
  by_cases hrt : rright r = true
  · rw [add_right hrt]
    by_cases hok : okAdd r m L = true
    · rw [if_pos hok]
      by_cases hz : manyD r L + m = 0
      · cases hf : fndD r L with
        | none => exact ref_addNZ g A1 c1 L A c r m _ w h hs hk hr hl hrt rfl hok hz hf
        | some y => exact ref_addSZ g A1 c1 L A c r m _ y w h hs hk hr hl hrt rfl hok hz hf
      · cases hf : fndD r L with
        | none => exact ref_addNN g A1 c1 L A c r m _ w h hs hk hr hl hrt rfl hok hz hf
        | some y => exact ref_addSN g A1 c1 L A c r m _ y w h hs hk hr hl hrt rfl hok hz hf
    · rw [if_neg hok]
      exact ref_addX g A1 c1 L A c r m w h hs hk hr hl hrt (by simpa using hok)
  · have e1 : addD r m L = (2,L) := by unfold addD;rw [if_neg hrt]
    rw [e1]
    exact ref_addR g A1 c1 L A c r m w h hr (by simpa using hrt)
end Go.Proofs.Ythmbfcfomcaaaaa.Z
end
section
namespace Go.Proofs.Ythmbfcfomcaaaaa.Z
set_option linter.unusedVariables false
set_option linter.unusedSimpArgs false
open Go.RowKit Go.Shelf Go.Proofs.YthmbfcfomcaaaaaW.PrintWords Go.Proofs.YthmbfcfomcaaaaaW.PrintLast Go.Proofs.YthmbfcfomcaaaaaW.PrintMore Go.Proofs.Ythmbfcfomcaaaaa.Cmp
attribute [local go_sem] Oper.semAt_some
def RowsS (Bl bx : Nat) (v : Value) (ex : Ent) (w' : World) : Prop := w'.cell? ⟨Bl,0,none⟩ = some v ∧ w'.cell? ⟨bx,0,none⟩ = some (.slice ex.A ex.row.length ex.c) ∧ w'.cell? ⟨bx,1,none⟩ = some (.int .i64 ex.many)
theorem heldS {W : World} {Bl bx t q : Nat} {v : Value} {ex : Ent} {l r : Tr} {k : Int} (h : W.heap[Bl]? = some (.cells #[v] t (0,0))) (hx : W.heap[bx]? = some (.cells (ncells ex l r k) q (0,0))) : RowsS Bl bx v ex W :=
  ⟨(blk_cell h 0).trans rfl,(blk_cell hx 0).trans rfl,(blk_cell hx 1).trans rfl⟩
theorem keepsO_below {W W' : World} (h : Below W.heap.size W W') : KeepsOthers W W' := ⟨h.size,fun k o hk _ => (h.block k (Array.getElem?_eq_some_iff.1 hk).1).trans hk⟩
theorem docT_items (t : Tr) : docT t = t.items.map docI := by unfold docT docE Tr.ents entsL;rw [List.map_map];rfl
def RowsI (w : World) (L : List En) (W : World) : Prop := ∃ v,W.heap[w.heap.size]? = some (.cells #[v] 22 (0,0)) ∧ Kd.R k34 34 W w.heap.size (fun k => k ≠ w.heap.size) v L
theorem own_rows (w : World) {α : Type} (f : List α → List En) (B : Nat) : OwnFrom B (fun pre W => RowsI w (f pre) W) := by
  rintro pre W W' row ⟨v,hb,hR⟩ hg hr
  have hne : ∀ {k : Nat} {cs : Array Value} {q : TypeId},W.heap[k]? = some (.cells cs q (0,0)) → some k ≠ row := fun {k cs q} hk e => by
    obtain ⟨_,o,ho,hc⟩ := hr k e.symm
    rw [hk] at ho
    cases ho
    cases hc
  refine ⟨v,blk_grown hb hg (hne hb),Kd.R_mono (Kd.R_grown (Kd.R_bound hR) hg (fun k hk => by obtain ⟨q,_,cs,hc⟩ := hk.2.2.2;exact hne hc)) (fun k hk => hk.1)⟩
set_option maxRecDepth 100000 in
set_option maxHeartbeats 4000000 in
theorem bag_rows {D : Nat → Prop} (b : Nat) (t : Tr) (w : World) (h : BagAt w b t D) (hs : t.size ≤ 1000000) :
    Calls Try.prog 34 #[.pointer (some ⟨b,0,none⟩)] w fun e w' => ∃ v,e = .returned v ∧ Kd.R k34 34 w' w.heap.size (fun _ => True) v (docT t) ∧ Below w.heap.size w w' := by
  have HA := Aside0.mk h
  have HS := Aside0.mk hs
  have c0 := blk_cell h.blk 0
  simp only [bcells,List.getElem?_toArray,List.getElem?_cons_zero] at c0
  have hb := h.lt.1
  have NALL := Aside0.mk (fun w' => nd_all t w')
  have STOPS := Aside0.mk (fun Bt w' hBt hn hc hT => nd_all_stops (D := D) 2 Bt w.heap.size t w' hBt hn hc hT)
  obtain ⟨q0,hq0⟩ := ptr_case t
  have HQ0 := Aside0.mk hq0
  rw [hq0] at c0 NALL STOPS
  clear h hs hq0
  have hdd : ∀ k : Nat,(Fence.wide.depth.isSome = true → 1 ≤ k) := fun k h => by cases h
  have hwA : Fence.wide.fn 76 := trivial
  have hwC : Fence.wide.fn 63 := trivial
  refine (callsIn_wide (n := 3)).1 ?_
  refine callsIn_of_wp_marks Try.func34 rfl trivial ?_ rfl
  simp only [Try.ntmps34,List.size_toArray,List.length_cons,List.length_nil,Nat.reduceAdd,Nat.reduceSub,Array.replicate_succ,Array.replicate_zero,List.push_toArray,List.append_toArray,List.nil_append,List.cons_append]
  gi_wp2_with ((try refine ⟨hdd _,?_⟩);gi_at_call 76;refine (callsIn_wide.2 (NALL.out _)).mono ?_;rintro e w' ⟨rfl,rfl⟩)
  obtain ⟨B0,hB0e⟩ : ∃ B0,w.heap.size = B0 := ⟨_,rfl⟩
  have hB0 : Below w.heap.size w ((w.alloc (.cells #[.slice none 0 0] 22)).alloc (.cells #[.pointer q0] 81)) := below_alloc (below_alloc (Below.refl _ _) _) _
  have hbx0 : ((w.alloc (.cells #[.slice none 0 0] 22)).alloc (.cells #[.pointer q0] 81)).heap[w.heap.size]? = some (.cells #[.slice none 0 0] 22 (0,0)) := blk_alloc (blk_new w _) _
  have hbn : ((w.alloc (.cells #[.slice none 0 0] 22)).alloc (.cells #[.pointer q0] 81)).cell? ⟨w.heap.size + 1,0,none⟩ = some (.pointer q0) := by
    have := blk_new (w.alloc (.cells #[.slice none 0 0] 22)) (.cells #[.pointer q0] 81)
    rw [World.size_alloc] at this
    exact (blk_cell this 0).trans rfl
  have hT : InB w.heap.size ((w.alloc (.cells #[.slice none 0 0] 22)).alloc (.cells #[.pointer q0] 81)) D t := ⟨(HA.out.below hB0).tree.inn,HA.out.lt.2.1,HA.out.lt.2.2⟩
  clear hB0e
  refine wpIn_rangeFunc_ownG (F := Fence.wide) (n := 3) rfl (by omega) (gf := 97) (lb := #[.pointer (some ⟨w.heap.size + 1,0,none⟩)]) rfl trivial (enters_of Try.func97 (by kernel_rfl) rfl) (STOPS.out (w.heap.size + 1) _ (by simp) (by simp;omega) hbn hT) belowK_t (belowK_b (by simp;omega)) (Below.refl _ _) (fun _ => rfl)
    (fun pre W => RowsI w (pre.map (fun y => docI y.1)) W ∧ Below w.heap.size w W) (fun _ _ _ => False)
    (OwnFrom.and (own_rows w (fun pre : List { x : Nat × Ent // x ∈ t.items } => pre.map (fun y => docI y.1)) _) (ownFrom_below (Nat.le_refl _) (by simp;omega))) (fun _ _ _ _ _ hs _ _ => hs)
    ⟨⟨.slice none 0 0,hbx0,Kd.R_nil _ _ _ _ _⟩,hB0⟩
    (fun x => { tmps := #[.pointer (some ⟨b,0,none⟩),undef,.slice none 0 0,.pointer (some ⟨w.heap.size,0,none⟩),.pointer (some ⟨x.1.1,0,none⟩),.pointer (some ⟨b,0,none⟩),.bool false,.pointer (some ⟨b,0,none⟩),.pointer (some ⟨b,0,none⟩),.pointer (some ⟨b,0,none⟩),.pointer q0,.func (.func 97) #[] #[.pointer (some ⟨w.heap.size + 1,0,none⟩)],.pointer (some ⟨x.1.1,0,none⟩),undef,undef,undef,undef,undef,undef,undef,undef,undef,undef,undef,undef,undef,undef,undef,undef],defers := [] }) ?assign ?body ?done ?stop
  case assign =>
    intro l x W K hK
    simp only [ptrOf]
    gi_wp2
    exact hK
  case body =>
    rintro l pre ⟨x,hx⟩ W ⟨⟨v,hbx,hR⟩,hB⟩ hlt
    obtain ⟨bx,ex⟩ := x
    obtain ⟨tl,tr,k,hnx,hex⟩ := (HA.out.below hB).tree.inn.node_of _ hx
    obtain ⟨L,hL⟩ : ∃ L,pre.map (fun y => docI y.1) = L := ⟨_,rfl⟩
    have HL := Aside0.mk hL
    have LPR := Aside0.mk (show L.length < 1000000 by have h1 := HS.out;unfold Tr.size at h1;rw [← hL,List.length_map];omega)
    change Kd.R _ _ _ _ _ _ (pre.map (fun y => docI y.1)) at hR
    rw [hL] at hR
    clear hL
    have BX1 := Aside0.mk (show W.drew.heap[w.heap.size]? = some (.cells #[v] 22 (0,0)) from hbx)
    have NX1 := Aside0.mk (show W.drew.heap[bx]? = some (.cells (ncells ex tl tr k) 90 (0,0)) from hnx)
    have HRW := Aside0.mk (Kd.R_drew hR)
    have HBW := Aside0.mk (below_drew1 hB)
    have RL := right_len (HA.out.ok.item hx).1
    have CLN := Aside0.mk (clone_at ex.A ex.c ex.row W.drew (hex.c.below (below_drew1 (Below.refl _ _))) (by have : ex.row.length ≤ 40 := RL;omega))
    obtain ⟨Av,cv,ev⟩ := Kd.R_slice hR
    have KO := Aside0.mk (KeepsOthers.drew W)
    have HD := Aside0.mk (show Below w.heap.size W W.drew from below_drew1 (Below.refl _ _))
    have LTB := Aside0.mk (blk_lt BX1.out)
    clear hbx hnx hR hB hex RL
    subst ev
    gi_wp2
    refine startR_ (m := 16) (S := RowsS w.heap.size bx (.slice Av L.length cv) ex) (ds := [15]) #[false,false,false,false,false,false,false,false,false,false,false,false,false,false,false,false] (by kernel_rfl) (noDefer_at (by kernel_rfl)) (fun ⟨_,_,h⟩ => h) rfl rfl (heldS BX1.out NX1.out) (fun hHeld => ?_)
    generalize W.drew = W1 at *
    refine pure_ (i := 1) (N := some 14) (v := ?_) (a' := ?_) #[false,true,false,false,false,false,false,false,false,false,false,false,false,false,false,false] rfl rfl (by kernel_rfl) (fun _ _ _ h => h) (Or.inl ⟨by rfl,?_⟩) ?_ ?_
    rotate_left
    · intro w'
      go_simp
      with_reducible rfl
    rotate_left
    · simp only [Act.put,zA,zB,zC,i64_w,i32_w]
      rfl
    refine pure_ (i := 2) (N := some 15) (v := ?_) (a' := ?_) #[false,true,true,false,false,false,false,false,false,false,false,false,false,false,false,false] rfl rfl (by kernel_rfl) (fun _ _ _ h => h) (Or.inl ⟨by rfl,?_⟩) ?_ ?_
    rotate_left
    · intro w'
      go_simp
      with_reducible rfl
    rotate_left
    · simp only [Act.put,zA,zB,zC,i64_w,i32_w]
      rfl
    refine pure_ (i := 3) (N := some 16) (v := ?_) (a' := ?_) #[false,true,true,true,false,false,false,false,false,false,false,false,false,false,false,false] rfl rfl (by kernel_rfl) (fun _ _ _ h => h) (Or.inl ⟨by rfl,?_⟩) ?_ ?_
    rotate_left
    · intro w'
      go_simp
      with_reducible rfl
    rotate_left
    · simp only [Act.put,zA,zB,zC,i64_w,i32_w]
      rfl
    refine pure_ (i := 4) (N := some 17) (v := ?_) (a' := ?_) #[false,true,true,true,true,false,false,false,false,false,false,false,false,false,false,false] rfl rfl (by kernel_rfl) (fun _ _ _ h => h) (Or.inl ⟨by rfl,?_⟩) ?_ ?_
    rotate_left
    · intro w'
      go_simp
      with_reducible rfl
    rotate_left
    · simp only [Act.put,zA,zB,zC,i64_w,i32_w]
      rfl
    refine pure_ (i := 7) (N := some 20) (v := ?_) (a' := ?_) #[false,true,true,true,true,false,false,true,false,false,false,false,false,false,false,false] rfl rfl (by kernel_rfl) (fun _ _ _ h => h) (Or.inl ⟨by rfl,?_⟩) ?_ ?_
    rotate_left
    · intro w'
      go_simp
      with_reducible rfl
    rotate_left
    · simp only [Act.put,zA,zB,zC,i64_w,i32_w]
      rfl
    refine pure_ (i := 8) (N := some 21) (v := ?_) (a' := ?_) #[false,true,true,true,true,false,false,true,true,false,false,false,false,false,false,false] rfl rfl (by kernel_rfl) (fun _ _ _ h => h) (Or.inl ⟨by rfl,?_⟩) ?_ ?_
    rotate_left
    · intro w'
      go_simp
      with_reducible rfl
    rotate_left
    · simp only [Act.put,zA,zB,zC,i64_w,i32_w]
      rfl
    refine pure_ (i := 9) (N := some 22) (v := ?_) (a' := ?_) #[false,true,true,true,true,false,false,true,true,true,false,false,false,false,false,false] rfl rfl (by kernel_rfl) (fun _ _ _ h => h) (Or.inl ⟨by rfl,?_⟩) ?_ ?_
    rotate_left
    · intro w'
      go_simp
      with_reducible rfl
    rotate_left
    · simp only [Act.put,zA,zB,zC,i64_w,i32_w]
      rfl
    refine pure_ (i := 10) (N := some 23) (v := ?_) (a' := ?_) #[false,true,true,true,true,false,false,true,true,true,true,false,false,false,false,false] rfl rfl (by kernel_rfl) (fun _ _ _ h => h) (Or.inl ⟨by rfl,?_⟩) ?_ ?_
    rotate_left
    · intro w'
      go_simp
      with_reducible rfl
    rotate_left
    · simp only [Act.put,zA,zB,zC,i64_w,i32_w]
      rfl
    refine take_ (i := 0) (N := some 13) (v := ?_) (a' := ?_) #[true,true,true,true,true,false,false,true,true,true,true,false,false,false,false,false] rfl rfl (by kernel_rfl) (fun _ _ _ h => h) (Or.inl ⟨by rfl,?_⟩) hHeld ?_ ?_
    rotate_left
    · rintro w' ⟨s0,s1,s2⟩
      go_simp
      with_reducible rfl
    rotate_left
    · simp only [Act.put,zA,zB,zC,i64_w,i32_w]
      rfl
    refine take_ (i := 5) (N := some 18) (v := ?_) (a' := ?_) #[true,true,true,true,true,true,false,true,true,true,true,false,false,false,false,false] rfl rfl (by kernel_rfl) (fun _ _ _ h => h) (Or.inl ⟨by rfl,?_⟩) hHeld ?_ ?_
    rotate_left
    · rintro w' ⟨s0,s1,s2⟩
      go_simp
      with_reducible rfl
    rotate_left
    · simp only [Act.put,zA,zB,zC,i64_w,i32_w]
      rfl
    refine take_ (i := 11) (N := some 24) (v := ?_) (a' := ?_) #[true,true,true,true,true,true,false,true,true,true,true,true,false,false,false,false] rfl rfl (by kernel_rfl) (fun _ _ _ h => h) (Or.inl ⟨by rfl,?_⟩) hHeld ?_ ?_
    rotate_left
    · rintro w' ⟨s0,s1,s2⟩
      go_simp
      with_reducible rfl
    rotate_left
    · simp only [Act.put,zA,zB,zC,i64_w,i32_w]
      rfl
    refine one_ (i := 6) (N := some 19) #[true,true,true,true,true,true,true,true,true,true,true,true,false,false,false,false] rfl rfl (by kernel_rfl) (by decide) (fun K hK => ?_)
    refine goes_ Try.func63 (by kernel_rfl) rfl #[.slice ex.A ex.row.length ex.c] (by rfl) rfl rfl (by (try simp only [List.map_toArray,List.map_cons,List.map_nil]);first | done | rfl) ?_
    refine (CLN.out.mono ?_)
    rintro e w2 ⟨v1,rfl,hv,hb⟩
    refine ⟨_,rfl,?_⟩
    have HV := Aside0.mk hv
    have B2 := Aside0.mk hb
    have BX2 := Aside0.mk (blk_below BX1.out hb)
    have NX2 := Aside0.mk (blk_below NX1.out hb)
    obtain ⟨A1,c1,e1⟩ := Kd.R_slice hv
    clear hv hb CLN BX1 NX1
    subst e1
    refine hK.out _ _ (heldS BX2.out NX2.out) (fun hHeld => ?_)
    clear hK K
    refine norm_ (a' := ?_) ?_ ?_
    rotate_left
    · show Act.put _ (some 19) _ = _
      simp only [Act.put,zA,zB,zC,i64_w,i32_w]
      rfl
    refine pure_ (i := 12) (N := some 25) (v := ?_) (a' := ?_) #[true,true,true,true,true,true,true,true,true,true,true,true,true,false,false,false] rfl rfl (by kernel_rfl) (fun _ _ _ h => h) (Or.inl ⟨by rfl,?_⟩) ?_ ?_
    rotate_left
    · intro w'
      go_simp
      with_reducible rfl
    rotate_left
    · simp only [Act.put,zA,zB,zC,i64_w,i32_w]
      rfl
    refine one_ (i := 13) (N := some 26) #[true,true,true,true,true,true,true,true,true,true,true,true,true,true,false,false] rfl rfl (by kernel_rfl) (by decide) (fun K hK => ?_)
    refine value_ (w1 := ?_) (v := ?_) (by rfl) rfl ?_ ?_
    rotate_left 2
    · go_simp
      constructor
      · rfl
      · rfl
    refine hK.out _ _ (heldS (blk_alloc BX2.out _) (blk_alloc NX2.out _)) (fun hHeld => ?_)
    clear hK K
    refine norm_ (a' := ?_) ?_ ?_
    rotate_left
    · show Act.put _ (some 26) _ = _
      simp only [Act.put,zA,zB,zC,i64_w,i32_w]
      rfl
    refine one_ (i := 14) (N := some 27) #[true,true,true,true,true,true,true,true,true,true,true,true,true,true,true,false] rfl rfl (by kernel_rfl) (by decide) (fun K hK => ?_)
    have HRW2 := Aside0.mk (Kd.R_below HRW.out B2.out)
    have APM := Aside0.mk (show Kd.R k66 66 w2 w.heap.size (fun k => W1.heap.size ≤ k) (.slice A1 ex.row.length c1) ex.row from Kd.R_lower (Kd.R_mono (Kd.R_bound HV.out) (fun k hk => hk.2.1)) (Nat.le_of_lt LTB.out))
    have APK := Aside0.mk (fun k (hk : W1.heap.size ≤ k) => show k ≠ w.heap.size ∧ some k ≠ ((.slice Av L.length cv) : Value).ownBlock from ⟨by have := LTB.out;omega,fun e => by have := Kd.R_lt HRW.out k e.symm;omega⟩)
    refine Kd.R_append_step k34 (w0 := w) w.heap.size (by rfl) (.tmp 13) (.tmp 26) 22 34 (.agg #[(.slice none 0 0),(.int .i64 0)]) 32 rfl Try.underlying22 info34 rfl (by decide) (by omega) (.slice Av L.length cv) L (⟨ex.row,ex.many⟩ : En) [.slice A1 ex.row.length c1,.int .i64 ex.many] (fun k => k ≠ w.heap.size) (fun k => W1.heap.size ≤ k) rfl rfl (k34_mkM _ _ _ (⟨ex.row,ex.many⟩ : En) APM.out) APK.out (fun k hk => by have := LTB.out;have := B2.out.size;omega) HRW2.out (HBW.out.trans (B2.out.mono HBW.out.size)) (by have := LTB.out;have := B2.out.size;omega) (by have := LPR.out;omega) ?_
    intro v3 w3 ho hb3 hg hat
    have BX3 := Aside0.mk (blk_grown BX2.out hg (fun e => (HRW2.out.1 _ e.symm) rfl))
    have NX3 := Aside0.mk (blk_grown NX2.out hg (fun e => by have h1 := (Kd.R_typed HRW2.out) _ e.symm;obtain ⟨cs,hcs⟩ := h1;rw [NX2.out] at hcs;cases hcs))
    have HO := Aside0.mk ho
    have HB3 := Aside0.mk hb3
    have KO3 := Aside0.mk ((KO.out.trans (keepsO_below B2.out)).trans (KeepsOthers.of_grownBy hg (fun j o e ho2 => by obtain ⟨cs,hcs⟩ := Kd.R_typed HRW2.out j e;rw [hcs] at ho2;cases ho2;rfl)))
    have HD3 := Aside0.mk ((HD.out.trans (B2.out.mono (by have := HBW.out.size;omega))).grown hg (by have := HBW.out.size;have := B2.out.size;omega) (fun k e => Kd.R_base HRW2.out k e))
    obtain ⟨A3,c3,e3⟩ := Kd.R_slice ho
    clear ho hb3 hg hat
    subst e3
    refine hK.out _ _ (heldS BX3.out NX3.out) (fun hHeld => ?_)
    clear hK K
    refine norm_ (a' := ?_) ?_ ?_
    rotate_left
    · show Act.put _ (some 27) _ = _
      simp only [Act.put,zA,zB,zC,i64_w,i32_w]
      rfl
    refine last_ (i := 15) (N := none) #[true,true,true,true,true,true,true,true,true,true,true,true,true,true,true,true] rfl rfl (by kernel_rfl) (by decide) (fun K hK => ?_)
    have z0 := blk_frozen BX3.out 0
    have y0 := (blk_cell BX3.out 0).trans rfl
    refine skip_ (w1 := w3.setCell ⟨w.heap.size,0,none⟩ (.slice A3 (L ++ [(⟨ex.row,ex.many⟩ : En)]).length c3)) (by rfl) rfl ?_ ?_
    · go_simp
      try with_reducible rfl
    refine hK.out _ _ ?_
    clear hK K
    refine done_ (by kernel_rfl) ?_
    show KeepsFrom _ _ _ ∧ Below _ _ _ ∧ RowsI _ _ _ ∧ Below _ _ _
    refine ⟨(KO3.out.trans (KeepsOthers.setCell _ _ _)).from _,HD3.out.setCell (Nat.le_refl _) _,⟨_,blk_put BX3.out 0 _ rfl,?_⟩,HB3.out.setCell (Nat.le_refl _) _⟩
    rw [List.map_append,HL.out]
    exact Kd.R_far (p := ⟨w.heap.size,0,none⟩) HO.out (fun k hk => hk) _
  case done =>
    rintro D2 ys W hD2 hys ⟨⟨v,hbx,hR⟩,hB⟩ hK
    have hd : ys.map (fun y => docI y.1) = docT t := by
      have h1 := congrArg (List.map docI) hys
      rw [List.map_map] at h1
      exact h1.trans (docT_items t).symm
    change Kd.R _ _ _ _ _ _ (ys.map (fun y => docI y.1)) at hR
    rw [hd] at hR
    clear hd
    obtain ⟨A9,c9,e9⟩ := Kd.R_slice hR
    have HR9 := Aside0.mk hR
    have HB9 := Aside0.mk hB
    have LK := Aside0.mk (show D2 ≠ w.heap.size by simp at hD2;omega)
    have y0 := (blk_cell hbx 0).trans rfl
    have HK := Aside0.mk hK
    have HYS := Aside0.mk hys
    have HD2 := Aside0.mk hD2
    clear hR hB hbx hK hys hD2
    subst e9
    gi_wp2
    refine ⟨by simp,.inl ⟨_,_,rfl,run_takeDeferred HK.out,?_⟩⟩
    have hg := grownBy_putObj' W D2 (.deferred none)
    have hR' := Kd.R_mono (ok' := fun _ => True) (Kd.R_grown (Kd.R_bound HR9.out) hg (fun k hk e => by
      obtain ⟨q,_,cs,hc⟩ := hk.2.2.2
      injection e with e
      subst e
      rw [HK.out] at hc
      cases hc)) (fun _ _ => trivial)
    exact ⟨_,results_tmp rfl _ _ _,.slice A9 (docT t).length c9,rfl,hR',HB9.out.trans (belowK_b (w := w) (Nat.le_refl _) W D2 _ _ (by have := HD2.out;simp at this;omega) HK.out rfl rfl)⟩
  case stop =>
    rintro D2 c pre W _ _ h _
    exact h.elim
end Go.Proofs.Ythmbfcfomcaaaaa.Z
end
section
namespace Go.Proofs.Ythmbfcfomcaaaaa.Z
open Go.RowKit Go.Proofs.YthmbfcfomcaaaaaW.PrintWords Go.Proofs.YthmbfcfomcaaaaaW.PrintLast Go.Proofs.YthmbfcfomcaaaaaW.PrintMore
attribute [local go_sem] max2_int min2_int max_two min_two max_three min_three max_four min_four
set_option linter.unusedVariables false
set_option linter.unusedSimpArgs false
def verdererref05_Alike.l0 : Nat → List (S34) → List (S34) → Int → Option (Bool)
  | 0,_,_,_ => none
  | k + 1,x0,x1,x5 => if x5 < (x0.length : Int) then (if 0 ≤ x5 then (if x5 < (x1.length : Int) then (if ((rd_T34 x0 x5).f1) = ((rd_T34 x1 x5).f1) then ((verdererref02_Equal.f k ((rd_T34 x0 x5).f0) ((rd_T34 x1 x5).f0)).bind fun t173 => (if t173 = true then (verdererref05_Alike.l0 k x0 x1 (wrap64 (x5 + 1))) else (some false))) else (some false)) else (none)) else (none)) else (some true)
def verdererref05_Alike.f (k : Nat) (l0 : List (S34)) (l1 : List (S34)) : Option (Bool) := if (l0.length : Int) = (l1.length : Int) then (verdererref05_Alike.l0 k l0 l1 0) else (some false)
theorem verdererref05_Alike.mono_l : ∀ k,(∀ y0 y1 y2,LeO (verdererref05_Alike.l0 k y0 y1 y2) (verdererref05_Alike.l0 (k + 1) y0 y1 y2))
  | 0 => fun _ _ _ r h => by simp [verdererref05_Alike.l0] at h
  | k + 1 => by
    have ih0 := verdererref05_Alike.mono_l k
    · intro y0 y1 y2
      unfold verdererref05_Alike.l0
      repeat' first
      | (with_reducible exact ih0 _ _ _)
      | (with_reducible exact verdererref02_Equal.mono _ _ _)
      | (with_reducible exact LeO.refl _)
      | (with_reducible exact LeO.none _)
      | (with_reducible refine LeO.ite ?_ ?_)
      | (with_reducible refine LeO.bind ?_ (fun _ => ?_))
      | exact ih0 _ _ _
      | exact verdererref02_Equal.mono _ _ _
      | exact LeO.none _
      | refine LeO.ite ?_ ?_
      | refine LeO.bind ?_ (fun _ => ?_)
theorem verdererref05_Alike.mono : ∀ a0 a1 k,LeO (verdererref05_Alike.f k a0 a1) (verdererref05_Alike.f (k + 1) a0 a1) := by
  intro a0 a1 k
  have ih0 := verdererref05_Alike.mono_l k
  unfold verdererref05_Alike.f
  repeat' first
      | (with_reducible exact ih0 _ _ _)
      | (with_reducible exact verdererref02_Equal.mono _ _ _)
      | (with_reducible exact LeO.refl _)
      | (with_reducible exact LeO.none _)
      | (with_reducible refine LeO.ite ?_ ?_)
      | (with_reducible refine LeO.bind ?_ (fun _ => ?_))
      | exact ih0 _ _ _
      | exact verdererref02_Equal.mono _ _ _
      | exact LeO.none _
      | refine LeO.ite ?_ ?_
      | refine LeO.bind ?_ (fun _ => ?_)
set_option maxHeartbeats 8000000 in
set_option maxRecDepth 100000 in
theorem verdererref05_Alike.calls (k : Nat) (A0 : Option Addr) (c0 : Nat) (l0 : List (S34)) (A1 : Option Addr) (c1 : Nat) (l1 : List (S34)) (r : Bool) (w : World) (hr0 : Kd.C k34 w A0 l0.length l0) (hc0 : l0.length ≤ c0) (hr1 : Kd.C k34 w A1 l1.length l1) (hc1 : l1.length ≤ c1) (h : verdererref05_Alike.f k l0 l1 = some r) :
    Calls Try.prog 31 #[.slice A0 l0.length c0,.slice A1 l1.length c1] w fun e w' => e = .returned (.bool r) ∧ Drawn0 w w' := by
  have HR0 := Aside0.mk hr0
  have HC0 := Aside0.mk hc0
  clear hr0 hc0
  have HR1 := Aside0.mk hr1
  have HC1 := Aside0.mk hc1
  clear hr1 hc1
  have H : (if (l0.length : Int) = (l1.length : Int) then (verdererref05_Alike.l0 k l0 l1 0) else (some false)) = some r := h
  clear h
  by_cases c3 : (l0.length : Int) = (l1.length : Int)
  · rw [if_pos c3] at H
    have c3b0 : ((l0.length : Int) == (l1.length : Int)) = true := beq_iff_eq.mpr c3
    have c3b1 : ((l0.length : Int) != (l1.length : Int)) = false := bne_eq_false_iff_eq.mpr c3
    have c3b2 : (l0.length == l1.length) = true := by first | simpa using c3 | (simp at c3 ⊢;omega)
    clear c3
    have H' := Aside0.mk H
    clear H
    go_enter Try.func31,Try.ntmps31
    go_wp2
    repeat (go_quiet (fail);try go_wp2)
    go_loopg [5] k (fun kq v5 w' => ∃ (x5_1 : Int),v5 = .int .i64 x5_1 ∧ Aside0 (verdererref05_Alike.l0 kq l0 l1 x5_1 = some r) ∧ Aside0 (kq ≤ k) ∧ Drawn0 w w')
    case atStart => exact ⟨(0),(by first | rfl | (simp;done) | (simp [*];done)),H',⟨Nat.le_refl _⟩,by repeat (first | exact Drawn0.refl _ | apply Drawn0.step)⟩
    case round =>
      clear H'
      try clear c1
      try clear p2
      try clear c3
      try clear c3b0
      try clear c3b1
      try clear c3b2
      obtain ⟨x5_1,rfl,HA,HK1,⟨m1,rfl⟩⟩ := hrel
      cases gk with
      | zero => exact absurd HA.out (by simp [verdererref05_Alike.l0])
      | succ k1 =>
        have H := HA.out
        clear HA
        simp only [verdererref05_Alike.l0] at H
        by_cases c4 : x5_1 < (l0.length : Int)
        · rw [if_pos c4] at H
          have c4b0 : decide (x5_1 < (l0.length : Int)) = true := decide_eq_true c4
          clear c4
          by_cases c5 : 0 ≤ x5_1
          · rw [if_pos c5] at H
            have c5b0 : decide (0 ≤ x5_1) = true := decide_eq_true c5
            clear c5
            by_cases c6 : x5_1 < (l1.length : Int)
            · rw [if_pos c6] at H
              have c6b0 : decide (x5_1 < (l1.length : Int)) = true := decide_eq_true c6
              clear c6
              by_cases c7 : ((rd_T34 l0 x5_1).f1) = ((rd_T34 l1 x5_1).f1)
              · rw [if_pos c7] at H
                have c7b0 : (((rd_T34 l0 x5_1).f1) == ((rd_T34 l1 x5_1).f1)) = true := beq_iff_eq.mpr c7
                have c7b1 : (((rd_T34 l0 x5_1).f1) != ((rd_T34 l1 x5_1).f1)) = false := bne_eq_false_iff_eq.mpr c7
                clear c7
                replace H := Option.bind_eq_some_iff.mp H
                obtain ⟨t173,A80,H⟩ := H
                replace H : (if t173 = true then (verdererref05_Alike.l0 k1 l0 l1 (wrap64 (x5_1 + 1))) else (some false)) = some r := H
                have A8 := Aside0.mk A80
                clear A80
                by_cases c9 : t173 = true
                · subst c9
                  have H1 : (verdererref05_Alike.l0 k1 l0 l1 (wrap64 (x5_1 + 1))) = some r := by rw [if_pos rfl] at H;exact H
                  clear H
                  have H := H1
                  clear H1
                  have H' := Aside0.mk H
                  clear H
                  have p169 : 0 ≤ (x5_1 : Int) := of_decide_eq_true (by first | (with_reducible assumption) | assumption)
                  have q169 : x5_1 < (l0.length : Int) := of_decide_eq_true (by first | (with_reducible assumption) | assumption)
                  obtain ⟨ad169,A169_0,c169_0,e169,hx169_0,hx169_1,hl169_0,hi169_0⟩ := at_T34 HR0.out x5_1 p169 q169
                  cases e169
                  have HR169_0 := Aside0.mk hi169_0
                  have HC169_0 := Aside0.mk hl169_0
                  clear hi169_0 hl169_0
                  replace p169 := eq_true p169
                  replace q169 := eq_true q169
                  have p170 : 0 ≤ (x5_1 : Int) := of_decide_eq_true (by first | (with_reducible assumption) | assumption)
                  have q170 : x5_1 < (l1.length : Int) := of_decide_eq_true (by first | (with_reducible assumption) | assumption)
                  obtain ⟨ad170,A170_0,c170_0,e170,hx170_0,hx170_1,hl170_0,hi170_0⟩ := at_T34 HR1.out x5_1 p170 q170
                  cases e170
                  have HR170_0 := Aside0.mk hi170_0
                  have HC170_0 := Aside0.mk hl170_0
                  clear hi170_0 hl170_0
                  replace p170 := eq_true p170
                  replace q170 := eq_true q170
                  have p171 : 0 ≤ (x5_1 : Int) := of_decide_eq_true (by first | (with_reducible assumption) | assumption)
                  have q171 : x5_1 < (l0.length : Int) := of_decide_eq_true (by first | (with_reducible assumption) | assumption)
                  obtain ⟨ad171,A171_0,c171_0,e171,hx171_0,hx171_1,hl171_0,hi171_0⟩ := at_T34 HR0.out x5_1 p171 q171
                  obtain rfl : ad169 = ad171 := (by injection e171)
                  have HR171_0 := Aside0.mk hi171_0
                  have HC171_0 := Aside0.mk hl171_0
                  clear hi171_0 hl171_0
                  replace p171 := eq_true p171
                  replace q171 := eq_true q171
                  have ea_ := Option.some.inj (hx169_0.symm.trans hx171_0)
                  injection ea_ with ea_ en_ ec_
                  subst ea_
                  subst ec_
                  clear en_
                  have p172 : 0 ≤ (x5_1 : Int) := of_decide_eq_true (by first | (with_reducible assumption) | assumption)
                  have q172 : x5_1 < (l1.length : Int) := of_decide_eq_true (by first | (with_reducible assumption) | assumption)
                  obtain ⟨ad172,A172_0,c172_0,e172,hx172_0,hx172_1,hl172_0,hi172_0⟩ := at_T34 HR1.out x5_1 p172 q172
                  obtain rfl : ad170 = ad172 := (by injection e172)
                  have HR172_0 := Aside0.mk hi172_0
                  have HC172_0 := Aside0.mk hl172_0
                  clear hi172_0 hl172_0
                  replace p172 := eq_true p172
                  replace q172 := eq_true q172
                  have ea_ := Option.some.inj (hx170_0.symm.trans hx172_0)
                  injection ea_ with ea_ en_ ec_
                  subst ea_
                  subst ec_
                  clear en_
                  go_wp2_with (first | (go_at_call 22;(with_reducible refine (verdererref02_Equal.calls k1 _ _ ((rd_T34 l0 x5_1).f0) _ _ ((rd_T34 l1 x5_1).f0) true _ ?side1 ?side2 ?side3 ?side4 A8.out).mono ?_);(case side1 => repeat (first | exact HR171_0.out | (with_reducible refine Kd.C_alloc ?_ _) | (with_reducible refine Kd.C_drewN ?_ _) | (with_reducible refine Kd.C_drew ?_)));(case side2 => exact HC171_0.out);(case side3 => repeat (first | exact HR172_0.out | (with_reducible refine Kd.C_alloc ?_ _) | (with_reducible refine Kd.C_drewN ?_ _) | (with_reducible refine Kd.C_drew ?_)));(case side4 => exact HC172_0.out);rintro e w' ⟨rfl,⟨nd,rfl⟩⟩;(try first | exact ⟨rfl,_,World.drewN_drewN _ _ _⟩ | exact ⟨rfl,_,Eq.trans (World.drewN_drewN _ _ _) (congrArg (World.drewN _) (Nat.add_assoc _ _ _))⟩)))
                  repeat (go_quiet (first | (go_at_call 22;(with_reducible refine (verdererref02_Equal.calls k1 _ _ ((rd_T34 l0 x5_1).f0) _ _ ((rd_T34 l1 x5_1).f0) true _ ?side1 ?side2 ?side3 ?side4 A8.out).mono ?_);(case side1 => repeat (first | exact HR171_0.out | (with_reducible refine Kd.C_alloc ?_ _) | (with_reducible refine Kd.C_drewN ?_ _) | (with_reducible refine Kd.C_drew ?_)));(case side2 => exact HC171_0.out);(case side3 => repeat (first | exact HR172_0.out | (with_reducible refine Kd.C_alloc ?_ _) | (with_reducible refine Kd.C_drewN ?_ _) | (with_reducible refine Kd.C_drew ?_)));(case side4 => exact HC172_0.out);rintro e w' ⟨rfl,⟨nd,rfl⟩⟩;(try first | exact ⟨rfl,_,World.drewN_drewN _ _ _⟩ | exact ⟨rfl,_,Eq.trans (World.drewN_drewN _ _ _) (congrArg (World.drewN _) (Nat.add_assoc _ _ _))⟩)));try go_wp2_with (first | (go_at_call 22;(with_reducible refine (verdererref02_Equal.calls k1 _ _ ((rd_T34 l0 x5_1).f0) _ _ ((rd_T34 l1 x5_1).f0) true _ ?side1 ?side2 ?side3 ?side4 A8.out).mono ?_);(case side1 => repeat (first | exact HR171_0.out | (with_reducible refine Kd.C_alloc ?_ _) | (with_reducible refine Kd.C_drewN ?_ _) | (with_reducible refine Kd.C_drew ?_)));(case side2 => exact HC171_0.out);(case side3 => repeat (first | exact HR172_0.out | (with_reducible refine Kd.C_alloc ?_ _) | (with_reducible refine Kd.C_drewN ?_ _) | (with_reducible refine Kd.C_drew ?_)));(case side4 => exact HC172_0.out);rintro e w' ⟨rfl,⟨nd,rfl⟩⟩;(try first | exact ⟨rfl,_,World.drewN_drewN _ _ _⟩ | exact ⟨rfl,_,Eq.trans (World.drewN_drewN _ _ _) (congrArg (World.drewN _) (Nat.add_assoc _ _ _))⟩))))
                  go_roundg k1
                  case measure => have := HK1.out;omega
                  case rel => exact ⟨(wrap64 (x5_1 + 1)),(by first | rfl | (simp;done) | (simp [*];done)),H',⟨by have := HK1.out;omega⟩,by repeat (first | exact Drawn0.refl _ | apply Drawn0.step)⟩
                · replace c9 := Bool.eq_false_iff.mpr c9
                  subst c9
                  have H1 : (some false) = some r := by rw [if_neg (show ¬ (false = true) by decide)] at H;exact H
                  clear H
                  have H := H1
                  clear H1
                  obtain rfl := Option.some.inj H
                  have p169 : 0 ≤ (x5_1 : Int) := of_decide_eq_true (by first | (with_reducible assumption) | assumption)
                  have q169 : x5_1 < (l0.length : Int) := of_decide_eq_true (by first | (with_reducible assumption) | assumption)
                  obtain ⟨ad169,A169_0,c169_0,e169,hx169_0,hx169_1,hl169_0,hi169_0⟩ := at_T34 HR0.out x5_1 p169 q169
                  cases e169
                  have HR169_0 := Aside0.mk hi169_0
                  have HC169_0 := Aside0.mk hl169_0
                  clear hi169_0 hl169_0
                  replace p169 := eq_true p169
                  replace q169 := eq_true q169
                  have p170 : 0 ≤ (x5_1 : Int) := of_decide_eq_true (by first | (with_reducible assumption) | assumption)
                  have q170 : x5_1 < (l1.length : Int) := of_decide_eq_true (by first | (with_reducible assumption) | assumption)
                  obtain ⟨ad170,A170_0,c170_0,e170,hx170_0,hx170_1,hl170_0,hi170_0⟩ := at_T34 HR1.out x5_1 p170 q170
                  cases e170
                  have HR170_0 := Aside0.mk hi170_0
                  have HC170_0 := Aside0.mk hl170_0
                  clear hi170_0 hl170_0
                  replace p170 := eq_true p170
                  replace q170 := eq_true q170
                  have p171 : 0 ≤ (x5_1 : Int) := of_decide_eq_true (by first | (with_reducible assumption) | assumption)
                  have q171 : x5_1 < (l0.length : Int) := of_decide_eq_true (by first | (with_reducible assumption) | assumption)
                  obtain ⟨ad171,A171_0,c171_0,e171,hx171_0,hx171_1,hl171_0,hi171_0⟩ := at_T34 HR0.out x5_1 p171 q171
                  obtain rfl : ad169 = ad171 := (by injection e171)
                  have HR171_0 := Aside0.mk hi171_0
                  have HC171_0 := Aside0.mk hl171_0
                  clear hi171_0 hl171_0
                  replace p171 := eq_true p171
                  replace q171 := eq_true q171
                  have ea_ := Option.some.inj (hx169_0.symm.trans hx171_0)
                  injection ea_ with ea_ en_ ec_
                  subst ea_
                  subst ec_
                  clear en_
                  have p172 : 0 ≤ (x5_1 : Int) := of_decide_eq_true (by first | (with_reducible assumption) | assumption)
                  have q172 : x5_1 < (l1.length : Int) := of_decide_eq_true (by first | (with_reducible assumption) | assumption)
                  obtain ⟨ad172,A172_0,c172_0,e172,hx172_0,hx172_1,hl172_0,hi172_0⟩ := at_T34 HR1.out x5_1 p172 q172
                  obtain rfl : ad170 = ad172 := (by injection e172)
                  have HR172_0 := Aside0.mk hi172_0
                  have HC172_0 := Aside0.mk hl172_0
                  clear hi172_0 hl172_0
                  replace p172 := eq_true p172
                  replace q172 := eq_true q172
                  have ea_ := Option.some.inj (hx170_0.symm.trans hx172_0)
                  injection ea_ with ea_ en_ ec_
                  subst ea_
                  subst ec_
                  clear en_
                  go_wp2_with (first | (go_at_call 22;(with_reducible refine (verdererref02_Equal.calls k1 _ _ ((rd_T34 l0 x5_1).f0) _ _ ((rd_T34 l1 x5_1).f0) false _ ?side1 ?side2 ?side3 ?side4 A8.out).mono ?_);(case side1 => repeat (first | exact HR171_0.out | (with_reducible refine Kd.C_alloc ?_ _) | (with_reducible refine Kd.C_drewN ?_ _) | (with_reducible refine Kd.C_drew ?_)));(case side2 => exact HC171_0.out);(case side3 => repeat (first | exact HR172_0.out | (with_reducible refine Kd.C_alloc ?_ _) | (with_reducible refine Kd.C_drewN ?_ _) | (with_reducible refine Kd.C_drew ?_)));(case side4 => exact HC172_0.out);rintro e w' ⟨rfl,⟨nd,rfl⟩⟩;(try first | exact ⟨rfl,_,World.drewN_drewN _ _ _⟩ | exact ⟨rfl,_,Eq.trans (World.drewN_drewN _ _ _) (congrArg (World.drewN _) (Nat.add_assoc _ _ _))⟩)))
                  repeat (go_quiet (first | (go_at_call 22;(with_reducible refine (verdererref02_Equal.calls k1 _ _ ((rd_T34 l0 x5_1).f0) _ _ ((rd_T34 l1 x5_1).f0) false _ ?side1 ?side2 ?side3 ?side4 A8.out).mono ?_);(case side1 => repeat (first | exact HR171_0.out | (with_reducible refine Kd.C_alloc ?_ _) | (with_reducible refine Kd.C_drewN ?_ _) | (with_reducible refine Kd.C_drew ?_)));(case side2 => exact HC171_0.out);(case side3 => repeat (first | exact HR172_0.out | (with_reducible refine Kd.C_alloc ?_ _) | (with_reducible refine Kd.C_drewN ?_ _) | (with_reducible refine Kd.C_drew ?_)));(case side4 => exact HC172_0.out);rintro e w' ⟨rfl,⟨nd,rfl⟩⟩;(try first | exact ⟨rfl,_,World.drewN_drewN _ _ _⟩ | exact ⟨rfl,_,Eq.trans (World.drewN_drewN _ _ _) (congrArg (World.drewN _) (Nat.add_assoc _ _ _))⟩)));try go_wp2_with (first | (go_at_call 22;(with_reducible refine (verdererref02_Equal.calls k1 _ _ ((rd_T34 l0 x5_1).f0) _ _ ((rd_T34 l1 x5_1).f0) false _ ?side1 ?side2 ?side3 ?side4 A8.out).mono ?_);(case side1 => repeat (first | exact HR171_0.out | (with_reducible refine Kd.C_alloc ?_ _) | (with_reducible refine Kd.C_drewN ?_ _) | (with_reducible refine Kd.C_drew ?_)));(case side2 => exact HC171_0.out);(case side3 => repeat (first | exact HR172_0.out | (with_reducible refine Kd.C_alloc ?_ _) | (with_reducible refine Kd.C_drewN ?_ _) | (with_reducible refine Kd.C_drew ?_)));(case side4 => exact HC172_0.out);rintro e w' ⟨rfl,⟨nd,rfl⟩⟩;(try first | exact ⟨rfl,_,World.drewN_drewN _ _ _⟩ | exact ⟨rfl,_,Eq.trans (World.drewN_drewN _ _ _) (congrArg (World.drewN _) (Nat.add_assoc _ _ _))⟩))))
                  go_ret
                  exact ⟨by first | rfl | (simp;done) | (simp [*];done),by repeat (first | exact Drawn0.refl _ | apply Drawn0.step)⟩
              · rw [if_neg c7] at H
                have c7b0 : (((rd_T34 l0 x5_1).f1) == ((rd_T34 l1 x5_1).f1)) = false := beq_eq_false_iff_ne.mpr c7
                have c7b1 : (((rd_T34 l0 x5_1).f1) != ((rd_T34 l1 x5_1).f1)) = true := bne_iff_ne.mpr c7
                obtain rfl := Option.some.inj H
                have p169 : 0 ≤ (x5_1 : Int) := of_decide_eq_true (by first | (with_reducible assumption) | assumption)
                have q169 : x5_1 < (l0.length : Int) := of_decide_eq_true (by first | (with_reducible assumption) | assumption)
                obtain ⟨ad169,A169_0,c169_0,e169,hx169_0,hx169_1,hl169_0,hi169_0⟩ := at_T34 HR0.out x5_1 p169 q169
                cases e169
                have HR169_0 := Aside0.mk hi169_0
                have HC169_0 := Aside0.mk hl169_0
                clear hi169_0 hl169_0
                replace p169 := eq_true p169
                replace q169 := eq_true q169
                have p170 : 0 ≤ (x5_1 : Int) := of_decide_eq_true (by first | (with_reducible assumption) | assumption)
                have q170 : x5_1 < (l1.length : Int) := of_decide_eq_true (by first | (with_reducible assumption) | assumption)
                obtain ⟨ad170,A170_0,c170_0,e170,hx170_0,hx170_1,hl170_0,hi170_0⟩ := at_T34 HR1.out x5_1 p170 q170
                cases e170
                have HR170_0 := Aside0.mk hi170_0
                have HC170_0 := Aside0.mk hl170_0
                clear hi170_0 hl170_0
                replace p170 := eq_true p170
                replace q170 := eq_true q170
                go_wp2
                repeat (go_quiet (fail);try go_wp2)
                go_ret
                exact ⟨by first | rfl | (simp;done) | (simp [*];done),by repeat (first | exact Drawn0.refl _ | apply Drawn0.step)⟩
            · rw [if_neg c6] at H
              exact absurd H (by simp)
          · rw [if_neg c5] at H
            exact absurd H (by simp)
        · rw [if_neg c4] at H
          have c4b0 : decide (x5_1 < (l0.length : Int)) = false := decide_eq_false c4
          clear c4
          obtain rfl := Option.some.inj H
          go_wp2
          repeat (go_quiet (fail);try go_wp2)
          go_ret
          exact ⟨by first | rfl | (simp;done) | (simp [*];done),by repeat (first | exact Drawn0.refl _ | apply Drawn0.step)⟩
  · rw [if_neg c3] at H
    have c3b0 : ((l0.length : Int) == (l1.length : Int)) = false := beq_eq_false_iff_ne.mpr c3
    have c3b1 : ((l0.length : Int) != (l1.length : Int)) = true := bne_iff_ne.mpr c3
    have c3b2 : (l0.length == l1.length) = false := by first | simpa using c3 | (simp at c3 ⊢;omega)
    obtain rfl := Option.some.inj H
    go_enter Try.func31,Try.ntmps31
    go_wp2
    repeat (go_quiet (fail);try go_wp2)
    go_ret
    exact ⟨by first | rfl | (simp;done) | (simp [*];done),by repeat (first | exact Drawn0.refl _ | apply Drawn0.step)⟩
end Go.Proofs.Ythmbfcfomcaaaaa.Z
end
section
namespace Go.Proofs.Ythmbfcfomcaaaaa.Z
set_option linter.unusedVariables false
set_option linter.unusedSimpArgs false
open Go.RowKit Go.Proofs.YthmbfcfomcaaaaaW.PrintWords Go.Proofs.YthmbfcfomcaaaaaW.PrintLast Go.Proofs.YthmbfcfomcaaaaaW.PrintMore Go.Proofs.Ythmbfcfomcaaaaa.Cmp
structure EnsC (w : World) (A : Option Addr) (c : Nat) (L : List En) : Prop where
  cap : L.length ≤ c
  row : Kd.C k34 w A L.length L
theorem EnsC.below {w w1 : World} {A : Option Addr} {c : Nat} {L : List En} (h : EnsC w A c L) (hb : Below w.heap.size w w1) : EnsC w1 A c L := ⟨h.cap,Kd.C_below h.row hb⟩
theorem rd_at (xs : List En) (i : Nat) : rd_T34 xs (i : Int) = xs.getD i z34 := rfl
end Go.Proofs.Ythmbfcfomcaaaaa.Z
end
section
namespace Go.Proofs.Ythmbfcfomcaaaaa.Z
set_option linter.unusedVariables false
set_option linter.unusedSimpArgs false
open Go.RowKit Go.Proofs.YthmbfcfomcaaaaaW.PrintWords Go.Proofs.YthmbfcfomcaaaaaW.PrintLast Go.Proofs.YthmbfcfomcaaaaaW.PrintMore Go.Proofs.Ythmbfcfomcaaaaa.Cmp
structure SameW (w w' : World) : Prop where
  heap : w'.heap = w.heap
  os : w'.os = w.os
  tape : w'.tape = w.tape
  output : w'.output = w.output
structure NextW (N : Nat) (w w' : World) : Prop where
  below : Below N w w'
  le : N ≤ w'.heap.size
theorem NextW.refl (w : World) : NextW w.heap.size w w := ⟨Below.refl _ _,Nat.le_refl _⟩
theorem NextW.next {N : Nat} {w w1 w2 W : World} (h : NextW N w w1) (hb : Below W.heap.size W w2) (e : SameW w1 W := by exact ⟨rfl,rfl,rfl,rfl⟩) : NextW N w w2 := by
  have h1 : Below N w W := ⟨e.os.trans h.below.os,e.tape.trans h.below.tape,e.output.trans h.below.output,by rw [e.heap];exact h.below.size,fun k hk => by rw [e.heap];exact h.below.block k hk⟩
  have hs : N ≤ W.heap.size := by rw [e.heap];exact h.le
  exact ⟨h1.trans (hb.mono hs),Nat.le_trans hs hb.size⟩
theorem NextW.nextN {N : Nat} {w w1 w2 W : World} (h : NextW N w w1) (hb : Below N W w2) (e : SameW w1 W := by exact ⟨rfl,rfl,rfl,rfl⟩) : NextW N w w2 := by
  have h1 : Below N w W := ⟨e.os.trans h.below.os,e.tape.trans h.below.tape,e.output.trans h.below.output,by rw [e.heap];exact h.below.size,fun k hk => by rw [e.heap];exact h.below.block k hk⟩
  have hs : N ≤ W.heap.size := by rw [e.heap];exact h.le
  exact ⟨h1.trans hb,Nat.le_trans hs hb.size⟩
theorem NextW.at_ {N : Nat} {w w1 W : World} (h : NextW N w w1) (e : SameW w1 W := by exact ⟨rfl,rfl,rfl,rfl⟩) : Below N w W :=
  ⟨e.os.trans h.below.os,e.tape.trans h.below.tape,e.output.trans h.below.output,by rw [e.heap];exact h.below.size,fun k hk => by rw [e.heap];exact h.below.block k hk⟩
theorem SameW.below {w W : World} (e : SameW w W) (N : Nat) : Below N w W := ⟨e.os,e.tape,e.output,by rw [e.heap];exact Nat.le_refl _,fun k _ => by rw [e.heap]⟩
theorem SameW.refl (w : World) : SameW w w := ⟨rfl,rfl,rfl,rfl⟩
theorem SameW.drew (w : World) : SameW w w.drew := ⟨rfl,rfl,rfl,rfl⟩
theorem SameW.drewN (w : World) (n : Nat) : SameW w (w.drewN n) := ⟨rfl,rfl,rfl,rfl⟩
theorem alike_l0 (L : List En) (hm : ∀ x ∈ L,x.f0.length ≤ 1000000) (hl : L.length ≤ 1000000) : ∀ d i k,L.length - i = d → i ≤ L.length → d + 1000001 < k → verdererref05_Alike.l0 k L L (i : Int) = some true := by
  intro d
  induction d with
  | zero =>
    intro i k hd hi hk
    obtain ⟨k,rfl⟩ : ∃ m,k = m + 1 := ⟨k - 1,by omega⟩
    simp only [verdererref05_Alike.l0]
    rw [if_neg (by omega)]
  | succ d ih =>
    intro i k hd hi hk
    obtain ⟨k,rfl⟩ : ∃ m,k = m + 1 := ⟨k - 1,by omega⟩
    simp only [verdererref05_Alike.l0]
    have h1 : (rd_T34 L (i : Int)).f0.length ≤ 1000000 := by
      rw [rd_at]
      have e : L.getD i z34 = L[i]'(by omega) := by simp [List.getD,List.getElem?_eq_getElem (show i < L.length by omega)]
      rw [e]
      exact hm _ (List.getElem_mem _)
    rw [if_pos (by omega),if_pos (by omega),if_pos (by omega),if_pos trivial,equal_self _ (by omega) k (by omega),Option.bind_some,if_pos rfl,show wrap64 ((i : Int) + 1) = ((i + 1 : Nat) : Int) by unfold wrap64;omega]
    exact ih (i + 1) k (by omega) (by omega) (by omega)
theorem OkD.len {L : List En} (h : OkD L) : ∀ x ∈ L,x.f0.length ≤ 1000000 := fun x hx => by have := right_len (h x hx).1;omega
theorem alike_at (A0 A1 : Option Addr) (n c0 c1 : Nat) (L : List En) (w : World) (h0 : Kd.C k34 w A0 n L) (h1 : Kd.C k34 w A1 n L) (hc0 : n ≤ c0) (hc1 : n ≤ c1) (hk : OkD L) (hl : n ≤ 1000000) :
    Calls Try.prog 31 #[.slice A0 n c0,.slice A1 n c1] w fun e w' => e = .returned (.bool true) ∧ Below w.heap.size w w' := by
  have e : L.length = n := h0.1
  subst e
  refine (verdererref05_Alike.calls (L.length + 2000000) A0 c0 L A1 c1 L true w h0 hc0 h1 hc1 ?_).mono ?_
  · unfold verdererref05_Alike.f
    rw [if_pos rfl]
    exact alike_l0 L hk.len hl L.length 0 _ (by omega) (by omega) (by omega)
  · rintro e w' ⟨rfl,hd⟩
    exact ⟨rfl,hd.below⟩
structure Two (N : Nat) (w : World) (b : Nat) (t : Tr) (D : Nat → Prop) (g : Nat) (A : Option Addr) (c : Nat) (L : List En) (E : Nat → Prop) : Prop where
  bag : BagAt w b t D
  ref : RefV w g A c L E
  own : ∀ k,BagOwn b t D k → N ≤ k ∧ k ≠ g ∧ ¬ E k
  g_le : N ≤ g
  e_le : ∀ k,E k → N ≤ k
theorem BagAt.own_lt {w : World} {b : Nat} {t : Tr} {D : Nat → Prop} (h : BagAt w b t D) : ∀ k,BagOwn b t D k → k < w.heap.size := fun k hk => by
  rcases hk with rfl | q | q
  · exact h.lt.1
  · exact h.lt.2.1 k q
  · exact h.lt.2.2 k q
theorem RefV.g_lt {w : World} {g : Nat} {A : Option Addr} {c : Nat} {L : List En} {E : Nat → Prop} (h : RefV w g A c L E) : g < w.heap.size := blk_lt h.blk
theorem Two.below {N : Nat} {w w1 : World} {b : Nat} {t : Tr} {D : Nat → Prop} {g : Nat} {A : Option Addr} {c : Nat} {L : List En} {E : Nat → Prop} (h : Two N w b t D g A c L E) (hb : Below w.heap.size w w1) : Two N w1 b t D g A c L E :=
  ⟨h.bag.below hb,h.ref.below hb,h.own,h.g_le,h.e_le⟩
theorem Two.heap {N : Nat} {w w1 : World} {b : Nat} {t : Tr} {D : Nat → Prop} {g : Nat} {A : Option Addr} {c : Nat} {L : List En} {E : Nat → Prop} (h : Two N w b t D g A c L E) (e : SameW w w1 := by exact ⟨rfl,rfl,rfl,rfl⟩) : Two N w1 b t D g A c L E :=
  h.below ⟨e.os,e.tape,e.output,by rw [e.heap];exact Nat.le_refl _,fun k _ => by rw [e.heap]⟩
theorem Two.bagged {N : Nat} {w w1 : World} {b : Nat} {t t' : Tr} {D D' : Nat → Prop} {g : Nat} {A : Option Addr} {c : Nat} {L : List En} {E : Nat → Prop} (h : Two N w b t D g A c L E) (hN : N ≤ w.heap.size) (ha : BagAt w1 b t' D') (hc : BagCh w w1 b t t' D D') : Two N w1 b t' D' g A c L E ∧ Below N w w1 := by
  have hg := h.ref.g_lt
  refine ⟨⟨ha,h.ref.keep hc.ch (fun s => (h.own g (s.elim .inl (fun q => .inr (.inl q)))).2.1 rfl) (fun k hk s => (h.own k (s.elim .inl (fun q => .inr (.inl q)))).2.2 hk),fun k hk => ?_,h.g_le,h.e_le⟩,hc.ch.toBelow hN (fun k s => (h.own k (s.elim .inl (fun q => .inr (.inl q)))).1)⟩
  rcases hc.own k hk with q | q
  · exact h.own k q
  · exact ⟨by omega,by omega,fun he => by have := h.ref.lt k he;omega⟩
theorem Two.reffed {N : Nat} {w w1 : World} {b : Nat} {t : Tr} {D : Nat → Prop} {g : Nat} {A A' : Option Addr} {c c' : Nat} {L L' : List En} {E E' : Nat → Prop} (h : Two N w b t D g A c L E) (hN : N ≤ w.heap.size) (ha : RefV w1 g A' c' L' E') (hc : RefCh w w1 g E E') : Two N w1 b t D g A' c' L' E' ∧ Below N w w1 := by
  have hch := hc.ch
  refine ⟨⟨h.bag.keep hch (fun k s => fun hk => (h.own k hk).2.1 s),ha,fun k hk => ⟨(h.own k hk).1,(h.own k hk).2.1,fun he => ?_⟩,h.g_le,fun k hk => ?_⟩,hch.toBelow hN (fun k s => by subst s;exact h.g_le)⟩
  · rcases hc.dat k he with q | q
    · exact (h.own k hk).2.2 q
    · have := h.bag.own_lt k hk;omega
  · rcases hc.dat k hk with q | q
    · exact h.e_le k q
    · omega
end Go.Proofs.Ythmbfcfomcaaaaa.Z
end
section
namespace Go.Proofs.Ythmbfcfomcaaaaa.Z
set_option linter.unusedVariables false
set_option linter.unusedSimpArgs false
open Go.RowKit Go.Proofs.YthmbfcfomcaaaaaW.PrintWords Go.Proofs.YthmbfcfomcaaaaaW.PrintLast Go.Proofs.YthmbfcfomcaaaaaW.PrintMore Go.Proofs.Ythmbfcfomcaaaaa.Cmp
theorem row_one {w : World} {g q : Nat} {x : S66} (h : w.heap[g]? = some (.cells #[.int .i64 x.f0,.bool x.f1,.int .i64 x.f2,.string x.f3] q (0,0))) : RowC w (some ⟨g,0,none⟩) 1 [x] :=
  ⟨Nat.le_refl 1,rfl,by simp,fun _ => ⟨_,rfl,fun j p hj => by
    cases j with
    | succ j => simp at hj
    | zero =>
      simp only [List.getElem?_cons_zero,Option.some.injEq] at hj
      subst hj
      refine ⟨_,rfl,k66_mk w x,fun i u hi => ?_⟩
      rw [Nat.zero_mul,Nat.zero_add,add_plain]
      have h1 := blk_cell h i
      rw [h1,← hi]
      simp⟩⟩
def knV (n : Int) : S66 := ⟨2,false,n,⟨#[]⟩⟩
structure One (N : Nat) (w : World) (b : Nat) (t : Tr) (D : Nat → Prop) : Prop where
  bag : BagAt w b t D
  own : ∀ k,BagOwn b t D k → N ≤ k
theorem One.below {N : Nat} {w w1 : World} {b : Nat} {t : Tr} {D : Nat → Prop} (h : One N w b t D) (hb : Below w.heap.size w w1) : One N w1 b t D := ⟨h.bag.below hb,h.own⟩
theorem One.bagged {N : Nat} {w w1 : World} {b : Nat} {t t' : Tr} {D D' : Nat → Prop} (h : One N w b t D) (hN : N ≤ w.heap.size) (ha : BagAt w1 b t' D') (hc : BagCh w w1 b t t' D D') : One N w1 b t' D' ∧ Below N w w1 :=
  ⟨⟨ha,fun k hk => (hc.own k hk).elim (h.own k) (fun q => by omega)⟩,hc.ch.toBelow hN (fun k s => h.own k (s.elim .inl (fun q => .inr (.inl q))))⟩
theorem bag_new1 (w : World) : Calls Try.prog 15 #[] w fun e w' => ∃ b,e = .returned (.pointer (some ⟨b,0,none⟩)) ∧ One w.heap.size w' b .nil (fun _ => False) ∧ Below w.heap.size w w' := by
  refine (bag_new w).mono ?_
  rintro e w1 ⟨rfl,hA,hb⟩
  exact ⟨_,rfl,⟨hA,fun k hk => by rcases hk with rfl | q | q <;> first | exact Nat.le_refl _ | (simp [Tr.ids_nil] at q) | exact q.elim⟩,hb⟩
def Off (w w' : World) (o o' : Nat → Prop) : Prop := ∀ k,k < w.heap.size → ¬ o k → w'.heap[k]? = w.heap[k]? ∧ ¬ o' k
theorem BagCh.off {w w' : World} {b : Nat} {t t' : Tr} {D D' : Nat → Prop} (h : BagCh w w' b t t' D D') : Off w w' (BagOwn b t D) (BagOwn b t' D') := fun k hk hn =>
  ⟨h.ch.block k hk (fun s => hn (s.elim .inl (fun q => .inr (.inl q)))),fun ho => (h.own k ho).elim hn (fun q => by omega)⟩
structure Lit (w : World) (o : Nat → Prop) (g : Nat) (x : S66) : Prop where
  blk : w.heap[g]? = some (.cells #[.int .i64 x.f0,.bool x.f1,.int .i64 x.f2,.string x.f3] 66 (0,0))
  off : ¬ o g
theorem Lit.step {w w' : World} {o o' : Nat → Prop} {g : Nat} {x : S66} (h : Lit w o g x) (k : Off w w' o o') : Lit w' o' g x := ⟨(k g (blk_lt h.blk) h.off).1.trans h.blk,(k g (blk_lt h.blk) h.off).2⟩
theorem Lit.below {w w' : World} {o : Nat → Prop} {g : Nat} {x : S66} (h : Lit w o g x) (k : Below w.heap.size w w') : Lit w' o g x := ⟨(k.block g (blk_lt h.blk)).trans h.blk,h.off⟩
theorem Lit.row {w : World} {o : Nat → Prop} {g : Nat} {x : S66} (h : Lit w o g x) : RowC w (some ⟨g,0,none⟩) 1 [x] := row_one h.blk
theorem add1 {N : Nat} {D : Nat → Prop} {b : Nat} {t : Tr} {A : Option Addr} {c : Nat} {r : Rw} (m : Int) {w : World} {L L' : List En} {q : Int} (h : One N w b t D) (hN : N ≤ w.heap.size) (hr : RowC w A c r) (hd : docT t = L) (hs : L.length ≤ 1000000) (ha : addD r m L = (q,L')) :
    Calls Try.prog 16 #[.pointer (some ⟨b,0,none⟩),.slice A r.length c,.int .i64 m] w fun e w' => ∃ t' D',e = .returned (.int .i64 q) ∧ docT t' = L' ∧ One N w' b t' D' ∧ Below N w w' ∧ Off w w' (BagOwn b t D) (BagOwn b t' D') := by
  refine (bag_add b t A c r m w h.bag hr (by rw [← doc_len,hd];omega)).mono ?_
  rintro e w1 ⟨t',D',rfl,h2,h3,h4⟩
  rw [hd,ha] at h2 ⊢
  obtain ⟨i1,i2⟩ := h.bagged hN h3 h4
  exact ⟨t',D',rfl,h2,i1,i2,h4.off⟩
end Go.Proofs.Ythmbfcfomcaaaaa.Z
end
section
namespace Go.Proofs.Ythmbfcfomcaaaaa.Z
open Go.RowKit Go.Proofs.YthmbfcfomcaaaaaW.PrintWords Go.Proofs.YthmbfcfomcaaaaaW.PrintLast Go.Proofs.YthmbfcfomcaaaaaW.PrintMore
attribute [local go_sem] max2_int min2_int max_two min_two max_three min_three max_four min_four
set_option linter.unusedVariables false
set_option linter.unusedSimpArgs false
def verdererlaw05_few.l0 : Nat → List (S34) → Int → Option (Bool)
  | 0,_,_ => none
  | k + 1,x0,x3 => if x3 < (x0.length : Int) then (if 0 ≤ x3 then (if (((rd_T34 x0 x3).f0).length : Int) > 50 then (some false) else (verdererlaw05_few.l0 k x0 (wrap64 (x3 + 1)))) else (none)) else (some true)
def verdererlaw05_few.f (k : Nat) (l0 : List (S34)) : Option (Bool) := if (l0.length : Int) > 120 then (some false) else (verdererlaw05_few.l0 k l0 0)
theorem verdererlaw05_few.mono_l : ∀ k,(∀ y0 y1,LeO (verdererlaw05_few.l0 k y0 y1) (verdererlaw05_few.l0 (k + 1) y0 y1))
  | 0 => fun _ _ r h => by simp [verdererlaw05_few.l0] at h
  | k + 1 => by
    have ih0 := verdererlaw05_few.mono_l k
    · intro y0 y1
      unfold verdererlaw05_few.l0
      repeat' first
      | (with_reducible exact ih0 _ _)
      | (with_reducible exact LeO.refl _)
      | (with_reducible exact LeO.none _)
      | (with_reducible refine LeO.ite ?_ ?_)
      | (with_reducible refine LeO.bind ?_ (fun _ => ?_))
      | exact ih0 _ _
      | exact LeO.none _
      | refine LeO.ite ?_ ?_
      | refine LeO.bind ?_ (fun _ => ?_)
theorem verdererlaw05_few.mono : ∀ a0 k,LeO (verdererlaw05_few.f k a0) (verdererlaw05_few.f (k + 1) a0) := by
  intro a0 k
  have ih0 := verdererlaw05_few.mono_l k
  unfold verdererlaw05_few.f
  repeat' first
      | (with_reducible exact ih0 _ _)
      | (with_reducible exact LeO.refl _)
      | (with_reducible exact LeO.none _)
      | (with_reducible refine LeO.ite ?_ ?_)
      | (with_reducible refine LeO.bind ?_ (fun _ => ?_))
      | exact ih0 _ _
      | exact LeO.none _
      | refine LeO.ite ?_ ?_
      | refine LeO.bind ?_ (fun _ => ?_)
set_option maxHeartbeats 8000000 in
set_option maxRecDepth 100000 in
theorem verdererlaw05_few.calls (k : Nat) (A0 : Option Addr) (c0 : Nat) (l0 : List (S34)) (r : Bool) (w : World) (hr0 : Kd.C k34 w A0 l0.length l0) (hc0 : l0.length ≤ c0) (h : verdererlaw05_few.f k l0 = some r) :
    Calls Try.prog 13 #[.slice A0 l0.length c0] w fun e w' => e = .returned (.bool r) ∧ Drawn0 w w' := by
  have HR0 := Aside0.mk hr0
  have HC0 := Aside0.mk hc0
  clear hr0 hc0
  have H : (if (l0.length : Int) > 120 then (some false) else (verdererlaw05_few.l0 k l0 0)) = some r := h
  clear h
  by_cases c2 : (l0.length : Int) > 120
  · rw [if_pos c2] at H
    have c2b0 : decide (120 < (l0.length : Int)) = true := decide_eq_true c2
    have c2b1 : decide (120 < l0.length) = true := decide_eq_true (by omega)
    clear c2
    obtain rfl := Option.some.inj H
    go_enter Try.func13,Try.ntmps13
    go_wp2
    go_ret
    exact ⟨by first | rfl | (simp;done) | (simp [*];done),by repeat (first | exact Drawn0.refl _ | apply Drawn0.step)⟩
  · rw [if_neg c2] at H
    have c2b0 : decide (120 < (l0.length : Int)) = false := decide_eq_false c2
    have c2b1 : decide (120 < l0.length) = false := decide_eq_false (by omega)
    clear c2
    have H' := Aside0.mk H
    clear H
    go_enter Try.func13,Try.ntmps13
    go_wp2
    go_loopg [3] k (fun kq v3 w' => ∃ (x3_1 : Int),v3 = .int .i64 x3_1 ∧ Aside0 (verdererlaw05_few.l0 kq l0 x3_1 = some r) ∧ Aside0 (kq ≤ k) ∧ Drawn0 w w')
    case atStart => exact ⟨(0),(by first | rfl | (simp;done) | (simp [*];done)),H',⟨Nat.le_refl _⟩,by repeat (first | exact Drawn0.refl _ | apply Drawn0.step)⟩
    case round =>
      clear H'
      try clear c1
      try clear c2
      try clear c2b0
      try clear c2b1
      try clear p2
      obtain ⟨x3_1,rfl,HA,HK1,⟨m1,rfl⟩⟩ := hrel
      cases gk with
      | zero => exact absurd HA.out (by simp [verdererlaw05_few.l0])
      | succ k1 =>
        have H := HA.out
        clear HA
        simp only [verdererlaw05_few.l0] at H
        by_cases c3 : x3_1 < (l0.length : Int)
        · rw [if_pos c3] at H
          have c3b0 : decide (x3_1 < (l0.length : Int)) = true := decide_eq_true c3
          clear c3
          by_cases c4 : 0 ≤ x3_1
          · rw [if_pos c4] at H
            have c4b0 : decide (0 ≤ x3_1) = true := decide_eq_true c4
            clear c4
            by_cases c5 : (((rd_T34 l0 x3_1).f0).length : Int) > 50
            · rw [if_pos c5] at H
              have c5b0 : decide (50 < (((rd_T34 l0 x3_1).f0).length : Int)) = true := decide_eq_true c5
              have c5b1 : decide (50 < ((rd_T34 l0 x3_1).f0).length) = true := decide_eq_true (by omega)
              clear c5
              obtain rfl := Option.some.inj H
              have p168 : 0 ≤ (x3_1 : Int) := of_decide_eq_true (by first | (with_reducible assumption) | assumption)
              have q168 : x3_1 < (l0.length : Int) := of_decide_eq_true (by first | (with_reducible assumption) | assumption)
              obtain ⟨ad168,A168_0,c168_0,e168,hx168_0,hx168_1,hl168_0,hi168_0⟩ := at_T34 HR0.out x3_1 p168 q168
              cases e168
              have HR168_0 := Aside0.mk hi168_0
              have HC168_0 := Aside0.mk hl168_0
              clear hi168_0 hl168_0
              replace p168 := eq_true p168
              replace q168 := eq_true q168
              go_wp2
              go_ret
              exact ⟨by first | rfl | (simp;done) | (simp [*];done),by repeat (first | exact Drawn0.refl _ | apply Drawn0.step)⟩
            · rw [if_neg c5] at H
              have c5b0 : decide (50 < (((rd_T34 l0 x3_1).f0).length : Int)) = false := decide_eq_false c5
              have c5b1 : decide (50 < ((rd_T34 l0 x3_1).f0).length) = false := decide_eq_false (by omega)
              clear c5
              have H' := Aside0.mk H
              clear H
              have p168 : 0 ≤ (x3_1 : Int) := of_decide_eq_true (by first | (with_reducible assumption) | assumption)
              have q168 : x3_1 < (l0.length : Int) := of_decide_eq_true (by first | (with_reducible assumption) | assumption)
              obtain ⟨ad168,A168_0,c168_0,e168,hx168_0,hx168_1,hl168_0,hi168_0⟩ := at_T34 HR0.out x3_1 p168 q168
              cases e168
              have HR168_0 := Aside0.mk hi168_0
              have HC168_0 := Aside0.mk hl168_0
              clear hi168_0 hl168_0
              replace p168 := eq_true p168
              replace q168 := eq_true q168
              go_wp2
              go_roundg k1
              case measure => have := HK1.out;omega
              case rel => exact ⟨(wrap64 (x3_1 + 1)),(by first | rfl | (simp;done) | (simp [*];done)),H',⟨by have := HK1.out;omega⟩,by repeat (first | exact Drawn0.refl _ | apply Drawn0.step)⟩
          · rw [if_neg c4] at H
            exact absurd H (by simp)
        · rw [if_neg c3] at H
          have c3b0 : decide (x3_1 < (l0.length : Int)) = false := decide_eq_false c3
          clear c3
          obtain rfl := Option.some.inj H
          go_wp2
          go_ret
          exact ⟨by first | rfl | (simp;done) | (simp [*];done),by repeat (first | exact Drawn0.refl _ | apply Drawn0.step)⟩
end Go.Proofs.Ythmbfcfomcaaaaa.Z
end
section
namespace Go.Proofs.Ythmbfcfomcaaaaa.Z
set_option linter.unusedVariables false
set_option linter.unusedSimpArgs false
open Go.RowKit Go.Proofs.YthmbfcfomcaaaaaW.PrintWords Go.Proofs.YthmbfcfomcaaaaaW.PrintLast Go.Proofs.YthmbfcfomcaaaaaW.PrintMore Go.Proofs.Ythmbfcfomcaaaaa.Cmp
theorem ent_get {w : World} {A : Option Addr} {n : Nat} {L : List En} (h : Kd.C k34 w A n L) {i : Nat} (hi : i < n) {x : En} (hx : L[i]? = some x) :
    ∃ ad A0 c0,A = some ad ∧ w.cell? (ad.add (i * 2)) = some (.slice A0 x.f0.length c0) ∧ w.cell? ⟨(ad.add (i * 2)).block,(ad.add (i * 2)).off + 1,none⟩ = some (.int .i64 x.f1) ∧ RowC w A0 c0 x.f0 := by
  obtain ⟨ad,cs,e1,hcl,hK,hcc⟩ := Kd.C_get h z34 (i : Int) (by omega) (by omega)
  simp only [Int.toNat_natCast] at hK hcc
  rw [List.getD_eq_getElem?_getD,hx] at hK
  obtain ⟨A0,c0,e2,hl,hF⟩ := k34_open hK
  subst e2
  have hc : ∀ j u,[Value.slice A0 x.f0.length c0,Value.int .i64 x.f1][j]? = some u → w.cell? (ad.add (i * 2 + j)) = some u := hcc
  exact ⟨ad,A0,c0,e1,hc 0 _ rfl,by rw [← add_field _ _ 1 (by omega)];exact hc 1 _ rfl,hl,hF⟩
theorem addD_len (r : Rw) (m : Int) {L : List En} (h : SrtD L) : (addD r m L).2.length ≤ L.length + 1 := by
  unfold addD
  split
  · split
    · have := putD_len r (manyD r L + m) h
      simp only
      split at this <;> omega
    · simp
  · simp
theorem bag_two {N : Nat} {w0 : World} (w : World) (hN : NextW N w0 w) : Calls Try.prog 15 #[] w fun e w' => ∃ b,e = .returned (.pointer (some ⟨b,0,none⟩)) ∧ One N w' b .nil (fun _ => False) ∧ NextW N w0 w' := by
  refine (bag_new1 w).mono ?_
  rintro e w1 ⟨b,rfl,h1,hb⟩
  exact ⟨b,rfl,⟨h1.bag,fun k hk => Nat.le_trans hN.le (h1.own k hk)⟩,hN.next hb⟩
end Go.Proofs.Ythmbfcfomcaaaaa.Z
end
section
namespace Go.Proofs.Ythmbfcfomcaaaaa.Z
set_option linter.unusedVariables false
set_option linter.unusedSimpArgs false
open Go.RowKit Go.Proofs.YthmbfcfomcaaaaaW.PrintWords Go.Proofs.YthmbfcfomcaaaaaW.PrintLast Go.Proofs.YthmbfcfomcaaaaaW.PrintMore Go.Proofs.Ythmbfcfomcaaaaa.Cmp
end Go.Proofs.Ythmbfcfomcaaaaa.Z
end
section
namespace Go.Proofs.Ythmbfcfomcaaaaa.Z
set_option linter.unusedVariables false
set_option linter.unusedSimpArgs false
open Go.RowKit Go.Proofs.YthmbfcfomcaaaaaW.PrintWords Go.Proofs.YthmbfcfomcaaaaaW.PrintLast Go.Proofs.YthmbfcfomcaaaaaW.PrintMore Go.Proofs.Ythmbfcfomcaaaaa.Cmp
def ofD : List En → List En → Int × List En
  | [],L => (0,L)
  | e :: es,L => if (addD e.f0 e.f1 L).1 = 0 then ofD es (addD e.f0 e.f1 L).2 else ((addD e.f0 e.f1 L).1,L)
set_option maxHeartbeats 8000000 in
set_option maxRecDepth 100000 in
theorem bag_of (A : Option Addr) (n c : Nat) (l : List En) (w : World) (hl : Kd.C k34 w A n l) (hn : n ≤ 1000) :
    Calls Try.prog 26 #[.slice A n c] w fun e w' => ∃ p q L,ofD l [] = (q,L) ∧ e = .returned (.tuple #[.pointer p,.int .i64 q]) ∧ Below w.heap.size w w' ∧ (q ≠ 0 → p = none) ∧ (q = 0 → ∃ b t D,p = some ⟨b,0,none⟩ ∧ docT t = L ∧ L.length ≤ n ∧ One w.heap.size w' b t D) := by
  have HL := Aside0.mk hl
  have LN := Aside0.mk (show l.length = n from hl.1)
  obtain ⟨N,hN⟩ : ∃ N,w.heap.size = N := ⟨_,rfl⟩
  have I0 := Aside0.mk (NextW.refl w)
  have HN := Aside0.mk hN
  rw [hN] at I0 ⊢
  clear hl hN
  go_enter Try.func26,Try.ntmps26
  go_wp2_with (fail)
  refine (bag_two w I0.out).mono ?_
  rintro e w1 ⟨b,rfl,h1,h2⟩
  have T1 := Aside0.mk h1
  have I1 := Aside0.mk h2
  clear h1 h2 I0
  go_wp2_with (fail)
  go_loopw [11] (fun iv wr => ∃ i : Nat,iv = .int .i64 (i : Int) ∧ i ≤ n ∧ Aside0 (∃ t D L,docT t = L ∧ L.length ≤ i ∧ One N wr b t D ∧ ofD l [] = ofD (l.drop i) L) ∧ Aside0 (NextW N w wr)) (fun iv _ => n - (intOf iv).toNat)
  case atStart => exact ⟨0,rfl,Nat.zero_le _,⟨⟨.nil,_,[],rfl,Nat.le_refl 0,T1.out,rfl⟩⟩,I1⟩
  case round =>
    clear T1 I1
    obtain ⟨i,rfl,hi,TT,I4⟩ := hrel
    obtain ⟨t,D,L,hd,hlen,hT,hof⟩ := TT.out
    have DT := Aside0.mk hd
    have LL := Aside0.mk hlen
    have T4 := Aside0.mk hT
    have OF := Aside0.mk hof
    clear TT hd hlen hT hof
    by_cases hin : i < n
    · have k0 : decide ((i : Int) < (n : Int)) = true := decide_eq_true (by omega)
      have k0' : decide (i < n) = true := decide_eq_true hin
      have p0 : (0 : Int) ≤ (i : Int) := by omega
      have p1 : (i : Int) < (n : Int) := by omega
      obtain ⟨x,hx⟩ : ∃ x,l[i]? = some x := ⟨l[i]'(by have := LN.out;omega),List.getElem?_eq_getElem _⟩
      obtain ⟨ad,Ax,cx,e1,x0,x1,hxc⟩ := ent_get HL.out hin hx
      subst e1
      have XC := Aside0.mk hxc
      have LD := Aside0.mk (show l.drop i = x :: l.drop (i + 1) by
        have hil : i < l.length := by have := LN.out;omega
        rw [List.drop_eq_getElem_cons hil]
        rw [List.getElem?_eq_getElem hil] at hx
        rw [Option.some.inj hx])
      replace x0 := (I4.out.below.cell (HN.out ▸ World.block_lt_of_cell? w _ x0)).trans x0
      replace x1 := (I4.out.below.cell (HN.out ▸ World.block_lt_of_cell? w _ x1)).trans x1
      have XB := Aside0.mk (fun W (hb : Below N w W) => show RowC W Ax cx x.f0 from XC.out.below (HN.out ▸ hb))
      clear hx hxc
      obtain ⟨xr,xm⟩ := x
      simp only at *
      go_wp2_with (fail)
      have BA := below_alloc (Below.refl wr.heap.size wr) (Obj.cells #[.slice Ax xr.length cx,.int .i64 xm] 34)
      have T5 := Aside0.mk (T4.out.below BA)
      have I5 := Aside0.mk (I4.out.next BA)
      have SR := Aside0.mk (show SrtD L by have := T4.out.bag.srtD;rw [DT.out] at this;exact this)
      clear BA T4 I4 x0 x1
      generalize wr.alloc (Obj.cells #[.slice Ax xr.length cx,.int .i64 xm] 34) = w5 at *
      obtain ⟨⟨q,L1⟩,hq⟩ : ∃ q,addD xr xm L = q := ⟨_,rfl⟩
      have AD := Aside0.mk hq
      clear hq
      refine (add1 xm T5.out I5.out.le (XB.out _ I5.out.at_) DT.out (by have := LL.out;omega) AD.out).mono ?_
      rintro e w6 ⟨t6,D6,rfl,hd,hT,hb,_⟩
      have DT6 := Aside0.mk hd
      have T6 := Aside0.mk hT
      have I6 := Aside0.mk (I5.out.nextN hb)
      clear hd hT hb T5 I5
      have OF2 := Aside0.mk (show ofD l [] = if q = 0 then ofD (l.drop (i + 1)) L1 else (q,L) by
        rw [OF.out,LD.out]
        show (if (addD xr xm L).1 = 0 then ofD (l.drop (i + 1)) (addD xr xm L).2 else ((addD xr xm L).1,L)) = _
        rw [AD.out])
      have LL1 := Aside0.mk (show L1.length ≤ i + 1 by have := addD_len xr xm SR.out;rw [AD.out] at this;have := LL.out;simp only at *;omega)
      by_cases hq : q = 0
      · subst hq
        go_wp2_with (fail)
        go_roundw
        case rel => exact ⟨i + 1,by go_num,hin,⟨⟨_,_,_,DT6.out,LL1.out,T6.out,by rw [OF2.out];exact if_pos trivial⟩⟩,I6⟩
        case measure => simp [intOf];omega
      · have q1 : (q != 0) = true := by simp [hq]
        go_wp2_with (fail)
        go_ret2
        have e1 := OF2.out
        rw [if_neg hq] at e1
        exact ⟨none,q,L,e1,rfl,I6.out.at_,fun _ => rfl,fun h => absurd h hq⟩
    · have k0 : decide ((i : Int) < (n : Int)) = false := decide_eq_false (by omega)
      have k0' : decide (i < n) = false := decide_eq_false hin
      go_wp2_with (fail)
      go_ret2
      have e1 := OF.out
      rw [List.drop_of_length_le (by have := LN.out;omega)] at e1
      exact ⟨some ⟨b,0,none⟩,0,L,e1,rfl,I4.out.at_,fun h => absurd rfl h,fun _ => ⟨b,t,D,rfl,DT.out,by have := LL.out;omega,T4.out⟩⟩
end Go.Proofs.Ythmbfcfomcaaaaa.Z
end
section
namespace Go.Proofs.Ythmbfcfomcaaaaa.Z
set_option linter.unusedVariables false
set_option linter.unusedSimpArgs false
open Go.RowKit Go.Proofs.YthmbfcfomcaaaaaW.PrintWords Go.Proofs.YthmbfcfomcaaaaaW.PrintLast Go.Proofs.YthmbfcfomcaaaaaW.PrintMore Go.Proofs.Ythmbfcfomcaaaaa.Cmp
def allD (m : Int) (O L : List En) : Bool := O.all (fun e => okAdd e.f0 (e.f1 * m) L)
def mulD (m : Int) : List En → List En → List En
  | [],L => L
  | e :: es,L => mulD m es (addD e.f0 (e.f1 * m) L).2
theorem BagCh.trans {w w1 w2 : World} {b : Nat} {t t1 t2 : Tr} {D D1 D2 : Nat → Prop} (h : BagCh w w1 b t t1 D D1) (k : BagCh w1 w2 b t1 t2 D1 D2) : BagCh w w2 b t t2 D D2 :=
  ⟨h.ch.then_ k.ch (fun j s => s.elim (fun q => .inl (.inl q)) (fun q => (h.ids j q).imp .inr id)),
   fun j hj => (k.ids j hj).elim (h.ids j) (fun q => .inr (Nat.le_trans h.ch.size q)),fun j hj => (k.dat j hj).elim (h.dat j) (fun q => .inr (Nat.le_trans h.ch.size q))⟩
end Go.Proofs.Ythmbfcfomcaaaaa.Z
end
section
namespace Go.Proofs.Ythmbfcfomcaaaaa.Z
set_option linter.unusedVariables false
set_option linter.unusedSimpArgs false
open Go.RowKit Go.Proofs.YthmbfcfomcaaaaaW.PrintWords Go.Proofs.YthmbfcfomcaaaaaW.PrintLast Go.Proofs.YthmbfcfomcaaaaaW.PrintMore Go.Proofs.Ythmbfcfomcaaaaa.Cmp
theorem fnd_app (r : Rw) (a b : List En) : fndD r (a ++ b) = (fndD r a).or (fndD r b) := by unfold fndD;exact List.find?_append
theorem fnd_none {r : Rw} {a : List En} (h : ∀ y ∈ a,rcmp r y.f0 ≠ 0) : fndD r a = none := by
  unfold fndD
  exact List.find?_eq_none.2 (fun y hy => by simpa using h y hy)
theorem fnd_put (r r' : Rw) (now : Int) {L : List En} (hs : SrtD L) : fndD r (putD r' now L) = if rcmp r r' = 0 then (if now = 0 then none else some ⟨r',now⟩) else fndD r L := by
  unfold putD
  rw [fnd_app,fnd_app]
  by_cases c : rcmp r r' = 0
  · rw [if_pos c,fnd_none (a := loD r' L) (fun y hy => by
      have h := (mem_lo hy).2
      rw [rcmp_law.eq_left y.f0 c]
      have := rcmp_anti y.f0 r'
      omega),fnd_none (a := hiD r' L) (fun y hy => by
      have h := (mem_hi hy).2
      rw [rcmp_law.eq_left y.f0 c]
      omega)]
    by_cases h0 : now = 0
    · rw [if_pos h0,if_pos h0];rfl
    · rw [if_neg h0,if_neg h0]
      unfold fndD
      simp [c]
  · rw [if_neg c]
    obtain ⟨s1,s2⟩ := srt_split r' hs
    have e2 : fndD r (eqD r' L) = none := fnd_none (fun y hy q => by
      have h := of_decide_eq_true (List.mem_filter.1 hy).2
      have h2 := rcmp_law.eq_left r h
      have a1 := rcmp_anti r y.f0
      have a2 := rcmp_anti r r'
      omega)
    conv => rhs;rw [s1]
    rw [fnd_app,fnd_app,e2]
    congr 1
    congr 1
    split
    · rfl
    · unfold fndD;simp [c]
def atD (r r' : Rw) (n : Int) : Int := if rcmp r r' = 0 then n else 0
theorem many_eq {r r' : Rw} (L : List En) (c : rcmp r r' = 0) : manyD r L = manyD r' L := by
  unfold manyD fndD
  have : (fun x : En => decide (rcmp r x.f0 = 0)) = fun x => decide (rcmp r' x.f0 = 0) := by
    funext x;rw [rcmp_law.eq_left x.f0 c]
  rw [this]
theorem many_put (r r' : Rw) (now : Int) {L : List En} (hs : SrtD L) : manyD r (putD r' now L) = if rcmp r r' = 0 then now else manyD r L := by
  unfold manyD
  rw [fnd_put r r' now hs]
  by_cases c : rcmp r r' = 0
  · rw [if_pos c,if_pos c]
    by_cases h0 : now = 0
    · rw [if_pos h0];exact h0.symm
    · rw [if_neg h0]
  · rw [if_neg c,if_neg c]
theorem add_some {r' : Rw} {m : Int} {L : List En} (hr : rright r' = true) (ho : okAdd r' m L = true) : addD r' m L = (0,putD r' (manyD r' L + m) L) := by
  rw [add_right hr,if_pos ho]
theorem many_add (r r' : Rw) (m : Int) {L : List En} (hs : SrtD L) (hr : rright r' = true) (ho : okAdd r' m L = true) : manyD r (addD r' m L).2 = manyD r L + atD r r' m := by
  rw [add_some hr ho]
  show manyD r (putD r' (manyD r' L + m) L) = _
  rw [many_put r r' _ hs]
  unfold atD
  by_cases c : rcmp r r' = 0
  · rw [if_pos c,if_pos c,many_eq L c]
  · rw [if_neg c,if_neg c];omega
theorem srt_ext : ∀ {L1 L2 : List En},SrtD L1 → SrtD L2 → (∀ x,x ∈ L1 ↔ x ∈ L2) → L1 = L2
  | [],[],_,_,_ => rfl
  | [],b :: l,_,_,h => absurd ((h b).2 (by simp)) (by simp)
  | a :: l,[],_,_,h => absurd ((h a).1 (by simp)) (by simp)
  | a :: l1,b :: l2,h1,h2,h => by
    obtain ⟨a1,a2⟩ := h1.cons
    obtain ⟨b1,b2⟩ := h2.cons
    have hab : a = b := by
      rcases List.mem_cons.1 ((h a).1 (by simp)) with q | q
      · exact q
      · rcases List.mem_cons.1 ((h b).2 (by simp)) with p | p
        · exact p.symm
        · have c1 := b1 a q
          have c2 := a1 b p
          have := rcmp_anti a.f0 b.f0
          omega
    subst hab
    rw [srt_ext a2 b2 (fun x => ⟨fun q => by
      rcases List.mem_cons.1 ((h x).1 (List.mem_cons_of_mem _ q)) with p | p
      · subst p;have := a1 x q;rw [rcmp_law.self] at this;omega
      · exact p,fun q => by
      rcases List.mem_cons.1 ((h x).2 (List.mem_cons_of_mem _ q)) with p | p
      · subst p;have := b1 x q;rw [rcmp_law.self] at this;omega
      · exact p⟩)]
theorem fnd_mem {L : List En} (h : SrtD L) {x : En} (hx : x ∈ L) : fndD x.f0 L = some x := by
  induction L with
  | nil => cases hx
  | cons a l ih =>
    obtain ⟨h1,h2⟩ := h.cons
    unfold fndD at *
    rw [List.find?_cons]
    rcases List.mem_cons.1 hx with q | q
    · subst q;rw [show rcmp x.f0 x.f0 = 0 from rcmp_law.self _];rfl
    · have c1 := h1 x q
      have := rcmp_anti x.f0 a.f0
      rw [decide_eq_false (show ¬ rcmp x.f0 a.f0 = 0 by omega)]
      exact ih h2 q
theorem many_mem {L : List En} (h : SrtD L) {x : En} (hx : x ∈ L) : manyD x.f0 L = x.f1 := by unfold manyD;rw [fnd_mem h hx]
theorem doc_sub {L1 L2 : List En} (h1 : SrtD L1) (k1 : OkD L1) (k2 : OkD L2) (h : ∀ r,rright r = true → manyD r L1 = manyD r L2) : ∀ x,x ∈ L1 → x ∈ L2 := fun x hx => by
  obtain ⟨xr,x0,_⟩ := k1 x hx
  have e1 := h x.f0 xr
  rw [many_mem h1 hx] at e1
  unfold manyD at e1
  cases hf : fndD x.f0 L2 with
  | none => rw [hf] at e1;exact absurd e1 x0
  | some y =>
    rw [hf] at e1
    have hy := List.mem_of_find?_eq_some (show L2.find? (fun z => decide (rcmp x.f0 z.f0 = 0)) = some y from hf)
    have hc := List.find?_some (show L2.find? (fun z => decide (rcmp x.f0 z.f0 = 0)) = some y from hf)
    have e2 := rright_eq xr (k2 y hy).1 (of_decide_eq_true hc)
    obtain ⟨yr,ym⟩ := y
    obtain ⟨xr',xm⟩ := x
    simp only at e1 e2
    rw [e1,e2]
    exact hy
theorem doc_ext {L1 L2 : List En} (h1 : SrtD L1) (h2 : SrtD L2) (k1 : OkD L1) (k2 : OkD L2) (h : ∀ r,rright r = true → manyD r L1 = manyD r L2) : L1 = L2 :=
  srt_ext h1 h2 (fun x => ⟨doc_sub h1 k1 k2 h x,doc_sub h2 k2 k1 (fun r hr => (h r hr).symm) x⟩)
def sumE (m : Int) (r : Rw) : List En → Int
  | [] => 0
  | e :: es => atD r e.f0 (e.f1 * m) + sumE m r es
theorem sumE_app (m : Int) (r : Rw) (a b : List En) : sumE m r (a ++ b) = sumE m r a + sumE m r b := by
  induction a with
  | nil => simp [sumE]
  | cons x a ih => simp only [List.cons_append,sumE,ih];omega
theorem atD_self (r : Rw) (n : Int) : atD r r n = n := by unfold atD;rw [if_pos (rcmp_law.self r)]
theorem sumE_none (m : Int) {r : Rw} : ∀ {O : List En},(∀ y ∈ O,rcmp r y.f0 ≠ 0) → sumE m r O = 0
  | [],_ => rfl
  | e :: O,h => by
    simp only [sumE]
    rw [sumE_none m (fun y hy => h y (List.mem_cons_of_mem _ hy))]
    unfold atD
    rw [if_neg (h e (by simp))]
    rfl
theorem sumE_mem (m : Int) : ∀ {O : List En},SrtD O → ∀ {x : En},x ∈ O → sumE m x.f0 O = x.f1 * m
  | [],_,_,hx => by cases hx
  | e :: O,h,x,hx => by
    obtain ⟨h1,h2⟩ := h.cons
    simp only [sumE]
    rcases List.mem_cons.1 hx with q | q
    · subst q
      rw [atD_self,sumE_none m (fun y hy => by have := h1 y hy;omega)]
      omega
    · rw [sumE_mem m h2 q]
      have c1 := h1 x q
      have := rcmp_anti x.f0 e.f0
      unfold atD
      rw [if_neg (by omega)]
      omega
theorem mul_law (m : Int) : ∀ (O L : List En),SrtD O → OkD O → SrtD L → OkD L → allD m O L = true → SrtD (mulD m O L) ∧ OkD (mulD m O L) ∧ ∀ r,manyD r (mulD m O L) = manyD r L + sumE m r O
  | [],L,_,_,hs,hk,_ => ⟨hs,hk,fun r => by simp [mulD,sumE]⟩
  | e :: O,L,ho,ko,hs,hk,ha => by
    obtain ⟨o1,o2⟩ := ho.cons
    unfold allD at ha
    rw [List.all_cons,Bool.and_eq_true] at ha
    obtain ⟨ha,hb⟩ := ha
    have hr := (ko e (by simp)).1
    have hA := fun r => many_add r e.f0 (e.f1 * m) hs hr ha
    obtain ⟨i1,i2⟩ := addD_inv (r := e.f0) (m := e.f1 * m) hs hk
    have hal : allD m O (addD e.f0 (e.f1 * m) L).2 = true := by
      unfold allD
      rw [List.all_eq_true]
      intro y hy
      have h1 := List.all_eq_true.1 hb y hy
      have c1 := o1 y hy
      have := rcmp_anti y.f0 e.f0
      have h2 : manyD y.f0 (addD e.f0 (e.f1 * m) L).2 = manyD y.f0 L := by
        rw [hA]
        unfold atD
        rw [if_neg (by omega)]
        omega
      unfold okAdd at h1 ⊢
      rw [h2]
      exact h1
    obtain ⟨j1,j2,j3⟩ := mul_law m O _ o2 (fun x hx => ko x (List.mem_cons_of_mem _ hx)) i1 i2 hal
    refine ⟨j1,j2,fun r => ?_⟩
    show manyD r (mulD m O (addD e.f0 (e.f1 * m) L).2) = _
    rw [j3 r,hA r]
    simp only [sumE]
    omega
end Go.Proofs.Ythmbfcfomcaaaaa.Z
end
section
namespace Go.Proofs.Ythmbfcfomcaaaaa.Z
set_option linter.unusedVariables false
set_option linter.unusedSimpArgs false
open Go.RowKit Go.Proofs.YthmbfcfomcaaaaaW.PrintWords Go.Proofs.YthmbfcfomcaaaaaW.PrintLast Go.Proofs.YthmbfcfomcaaaaaW.PrintMore Go.Proofs.Ythmbfcfomcaaaaa.Cmp
theorem copy_step {pre : List En} {e : En} (hs : SrtD (pre ++ [e])) (hr : rright e.f0 = true) (h0 : e.f1 ≠ 0) (hf : few e.f1 = true) : addD e.f0 e.f1 pre = (0,pre ++ [e]) := by
  have hlt : ∀ y ∈ pre,rcmp y.f0 e.f0 < 0 := fun y hy => (List.pairwise_append.1 hs).2.2 y hy e (by simp)
  have hgt : ∀ y ∈ pre,0 < rcmp e.f0 y.f0 := fun y hy => by have := hlt y hy;have := rcmp_anti y.f0 e.f0;omega
  have hm : manyD e.f0 pre = 0 := by unfold manyD;rw [fnd_none (fun y hy => by have := hgt y hy;omega)]
  have ho : okAdd e.f0 e.f1 pre = true := by
    have := few_iff.1 hf
    unfold okAdd
    rw [hm,Int.zero_add,hf,decide_eq_true (by omega),decide_eq_true (by omega)]
    rfl
  rw [add_some hr ho,hm,Int.zero_add]
  unfold putD loD hiD
  rw [if_neg h0,filter_all (fun y hy => decide_eq_true (hlt y hy)),filter_none (fun y hy => decide_eq_false (by have := hgt y hy;omega)),List.append_nil]
end Go.Proofs.Ythmbfcfomcaaaaa.Z
end
section
namespace Go.Proofs.Ythmbfcfomcaaaaa.Z
set_option linter.unusedVariables false
set_option linter.unusedSimpArgs false
open Go.RowKit Go.Proofs.YthmbfcfomcaaaaaW.PrintWords Go.Proofs.YthmbfcfomcaaaaaW.PrintLast Go.Proofs.YthmbfcfomcaaaaaW.PrintMore Go.Proofs.Ythmbfcfomcaaaaa.Cmp
def mayD (L : List En) : List En → Int → Int
  | [],rows => if 1500 < rows then 6 else 0
  | e :: es,rows => if manyD e.f0 L + e.f1 < 0 ∨ 1073741824 < manyD e.f0 L + e.f1 then 10 else mayD L es (if manyD e.f0 L = 0 then rows + 1 else if manyD e.f0 L + e.f1 = 0 then rows - 1 else rows)
def tv (L : List En) (e : En) : Int := if manyD e.f0 L = 0 then 1 else if manyD e.f0 L + e.f1 = 0 then -1 else 0
def tell1 (L : List En) (e : En) : List En := if manyD e.f0 L = 0 then [⟨e.f0,1⟩] else if manyD e.f0 L + e.f1 = 0 then [⟨e.f0,-1⟩] else []
def tellD (L net : List En) : List En := net.flatMap (tell1 L)
def appD (l L : List En) : Int × List En × List En :=
  if (ofD l []).1 = 0 then (if mayD L (ofD l []).2 L.length = 0 then (0,tellD L (ofD l []).2,mulD 1 (ofD l []).2 L) else (mayD L (ofD l []).2 L.length,[],L)) else ((ofD l []).1,[],L)
def PosD (L : List En) : Prop := ∀ x ∈ L,1 ≤ x.f1
def onesD (L : List En) : List En := L.map (fun x => ⟨x.f0,1⟩)
def cntD (L : List En) : List En → Int
  | [] => 0
  | e :: es => tv L e + cntD L es
def InM (L net : List En) : Prop := ∀ e ∈ net,0 ≤ manyD e.f0 L + e.f1 ∧ manyD e.f0 L + e.f1 ≤ 1073741824
theorem may_iff (L : List En) : ∀ (net : List En) (rows : Int),mayD L net rows = 0 ↔ InM L net ∧ rows + cntD L net ≤ 1500
  | [],rows => by
    simp only [mayD,cntD,InM]
    split
    · constructor
      · intro h;cases h
      · intro h;have := h.2;omega
    · exact ⟨fun _ => ⟨fun e h => (by cases h),by omega⟩,fun _ => rfl⟩
  | e :: es,rows => by
    simp only [mayD,cntD]
    by_cases h : manyD e.f0 L + e.f1 < 0 ∨ 1073741824 < manyD e.f0 L + e.f1
    · rw [if_pos h]
      constructor
      · intro q;cases q
      · intro q;have := q.1 e (by simp);omega
    · rw [if_neg h,may_iff L es]
      have hc : (if manyD e.f0 L = 0 then rows + 1 else if manyD e.f0 L + e.f1 = 0 then rows - 1 else rows) = rows + tv L e := by
        unfold tv;split
        · rfl
        · split <;> omega
      rw [hc]
      constructor
      · rintro ⟨h1,h2⟩
        refine ⟨fun x hx => ?_,by omega⟩
        rcases List.mem_cons.1 hx with q | q
        · subst q;omega
        · exact h1 x q
      · rintro ⟨h1,h2⟩
        exact ⟨fun x hx => h1 x (List.mem_cons_of_mem _ hx),by omega⟩
theorem inB_all {L net : List En} (hn : OkD net) (hb : InM L net) : allD 1 net L = true := by
  unfold allD
  rw [List.all_eq_true]
  intro e he
  have h1 := hb e he
  have h2 := hn e he
  unfold okAdd
  rw [Int.mul_one,Bool.and_eq_true,Bool.and_eq_true,decide_eq_true_eq,decide_eq_true_eq,few_iff]
  omega
theorem mul_app (m : Int) : ∀ (a b L : List En),mulD m (a ++ b) L = mulD m b (mulD m a L)
  | [],b,L => rfl
  | e :: a,b,L => mul_app m a b _
theorem many_mul {T1 T2 : List En} {e : En} {L : List En} (ht : SrtD (T1 ++ e :: T2)) (kt : OkD (T1 ++ e :: T2)) (hs : SrtD L) (hk : OkD L) (ha : allD 1 (T1 ++ e :: T2) L = true) : manyD e.f0 (mulD 1 T1 L) = manyD e.f0 L := by
  have s1 : SrtD T1 := (List.pairwise_append.1 ht).1
  have a1 : allD 1 T1 L = true := by
    unfold allD at ha ⊢
    rw [List.all_append,Bool.and_eq_true] at ha
    exact ha.1
  rw [(mul_law 1 T1 L s1 (fun x hx => kt x (List.mem_append_left _ hx)) hs hk a1).2.2,sumE_none,Int.add_zero]
  intro y hy
  have := (List.pairwise_append.1 ht).2.2 y hy e (by simp)
  have := rcmp_anti y.f0 e.f0
  omega
theorem mul_step {T1 T2 : List En} {e : En} {L : List En} (ht : SrtD (T1 ++ e :: T2)) (kt : OkD (T1 ++ e :: T2)) (hs : SrtD L) (hk : OkD L) (ha : allD 1 (T1 ++ e :: T2) L = true) : addD e.f0 e.f1 (mulD 1 T1 L) = (0,mulD 1 (T1 ++ [e]) L) := by
  have h1 := many_mul ht kt hs hk ha
  have h2 : okAdd e.f0 (e.f1 * 1) L = true := by
    unfold allD at ha
    exact List.all_eq_true.1 ha e (by simp)
  rw [Int.mul_one] at h2
  have h3 : okAdd e.f0 e.f1 (mulD 1 T1 L) = true := by
    unfold okAdd at h2 ⊢
    rw [h1];exact h2
  rw [mul_app]
  show _ = (0,(addD e.f0 (e.f1 * 1) (mulD 1 T1 L)).2)
  rw [Int.mul_one,add_some (kt e (by simp)).1 h3]
theorem many_pos {L : List En} (h : PosD L) (r : Rw) : 0 ≤ manyD r L := by
  unfold manyD
  split
  · rename_i x hx
    have := h x (List.mem_of_find?_eq_some hx)
    omega
  · exact Int.le_refl 0
theorem many_zero {L : List En} (hk : OkD L) {r : Rw} : manyD r L = 0 ↔ fndD r L = none := by
  unfold manyD
  split
  · rename_i x hx
    rw [hx]
    have := (hk x (List.mem_of_find?_eq_some hx)).2.1
    simp [this]
  · rename_i hx
    simp [hx]
theorem fnd_ones (L : List En) (r : Rw) : fndD r (onesD L) = (fndD r L).map (fun x => ⟨x.f0,1⟩) := by
  unfold fndD onesD
  rw [List.find?_map]
  rfl
theorem many_ones {L : List En} (hk : OkD L) (r : Rw) : manyD r (onesD L) = if manyD r L = 0 then 0 else 1 := by
  by_cases h : manyD r L = 0
  · rw [if_pos h]
    have h2 := (many_zero hk).1 h
    unfold manyD
    rw [fnd_ones,h2]
    rfl
  · rw [if_neg h]
    have h2 : fndD r L ≠ none := fun q => h ((many_zero hk).2 q)
    obtain ⟨x,hx⟩ := Option.ne_none_iff_exists'.1 h2
    unfold manyD
    rw [fnd_ones,hx]
    rfl
theorem ones_srt {L : List En} (h : SrtD L) : SrtD (onesD L) := by
  unfold SrtD onesD
  rw [List.pairwise_map]
  exact h
theorem ones_ok {L : List En} (h : OkD L) : OkD (onesD L) := fun x hx => by
  obtain ⟨y,hy,rfl⟩ := List.mem_map.1 hx
  refine ⟨(h y hy).1,?_⟩
  simp only
  omega
theorem tell_mem {L : List En} {e y : En} (h : y ∈ tell1 L e) : y = ⟨e.f0,tv L e⟩ ∧ (tv L e = 1 ∨ tv L e = -1) := by
  unfold tell1 at h
  unfold tv
  split at h
  · rename_i q;rw [if_pos q];exact ⟨by simpa using h,.inl rfl⟩
  · rename_i q
    rw [if_neg q]
    split at h
    · rename_i q2;rw [if_pos q2];exact ⟨by simpa using h,.inr rfl⟩
    · cases h
theorem tell_srt {L net : List En} (h : SrtD net) : SrtD (tellD L net) := by
  unfold SrtD tellD
  rw [List.pairwise_flatMap]
  refine ⟨fun e _ => ?_,List.Pairwise.imp (fun {a b} hab x hx y hy => ?_) h⟩
  · unfold tell1;split
    · exact List.pairwise_singleton _ _
    · split
      · exact List.pairwise_singleton _ _
      · exact List.Pairwise.nil
  · rw [(tell_mem hx).1,(tell_mem hy).1];exact hab
theorem tell_ok {L net : List En} (h : OkD net) : OkD (tellD L net) := fun x hx => by
  obtain ⟨e,he,hy⟩ := List.mem_flatMap.1 hx
  obtain ⟨h1,h2⟩ := tell_mem hy
  subst h1
  refine ⟨(h e he).1,?_⟩
  simp only
  omega
theorem tell_cons (L : List En) (e : En) (es : List En) : tellD L (e :: es) = tell1 L e ++ tellD L es := rfl
theorem sum_tell1 (L : List En) (e : En) (r : Rw) : sumE 1 r (tell1 L e) = atD r e.f0 (tv L e) := by
  unfold tell1 tv
  split
  · simp [sumE]
  · split
    · simp [sumE]
    · simp [sumE,atD]
theorem tell_none (L : List En) {r : Rw} : ∀ {net : List En},(∀ y ∈ net,rcmp r y.f0 ≠ 0) → sumE 1 r (tellD L net) = 0
  | [],_ => rfl
  | e :: es,h => by
    rw [tell_cons,sumE_app,sum_tell1,tell_none L (fun y hy => h y (List.mem_cons_of_mem _ hy))]
    unfold atD
    rw [if_neg (h e (by simp))]
    rfl
theorem tell_sum (L : List En) : ∀ {net : List En},SrtD net → ∀ {x : En},x ∈ net → sumE 1 x.f0 (tellD L net) = tv L x
  | [],_,_,hx => by cases hx
  | e :: es,h,x,hx => by
    obtain ⟨h1,h2⟩ := h.cons
    rw [tell_cons,sumE_app,sum_tell1]
    rcases List.mem_cons.1 hx with q | q
    · subst q
      rw [atD_self,tell_none L (fun y hy => by have := h1 y hy;omega)]
      omega
    · rw [tell_sum L h2 q]
      have c1 := h1 x q
      have := rcmp_anti x.f0 e.f0
      unfold atD
      rw [if_neg (by omega)]
      omega
theorem sum_eq {r r' : Rw} (c : rcmp r r' = 0) : ∀ T : List En,sumE 1 r T = sumE 1 r' T
  | [] => rfl
  | e :: T => by
    simp only [sumE]
    rw [sum_eq c T]
    unfold atD
    rw [rcmp_law.eq_left e.f0 c]
theorem hit_or (r : Rw) (net : List En) : (∃ e ∈ net,rcmp r e.f0 = 0) ∨ ∀ y ∈ net,rcmp r y.f0 ≠ 0 := by
  by_cases h : ∃ e ∈ net,rcmp r e.f0 = 0
  · exact .inl h
  · exact .inr (fun y hy q => h ⟨y,hy,q⟩)
structure OnceD (L : List En) : Prop where
  srt : SrtD L
  ok : OkD L
  pos : PosD L
  few : L.length ≤ 1500
theorem once_nil : OnceD [] := ⟨List.Pairwise.nil,fun x hx => (by cases hx),fun x hx => (by cases hx),by simp⟩
theorem len_put {L : List En} (hs : SrtD L) (hk : OkD L) {e : En} (hr : rright e.f0 = true) (h0 : e.f1 ≠ 0) (ho : okAdd e.f0 e.f1 L = true) : (((addD e.f0 e.f1 L).2.length : Nat) : Int) = L.length + tv L e := by
  rw [add_some hr ho]
  have h1 := putD_len e.f0 (manyD e.f0 L + e.f1) hs
  simp only
  unfold tv
  by_cases q : manyD e.f0 L = 0
  · rw [if_pos q]
    rw [(many_zero hk).1 q,q] at h1
    rw [q]
    rw [if_neg (by omega)] at h1
    simp only [Option.toList_none,List.length_nil] at h1
    omega
  · rw [if_neg q]
    have h2 : fndD e.f0 L ≠ none := fun q2 => q ((many_zero hk).2 q2)
    obtain ⟨x,hx⟩ := Option.ne_none_iff_exists'.1 h2
    rw [hx] at h1
    simp only [Option.toList_some,List.length_cons,List.length_nil] at h1
    by_cases q2 : manyD e.f0 L + e.f1 = 0
    · rw [if_pos q2] at h1 ⊢;omega
    · rw [if_neg q2] at h1 ⊢;omega
theorem cnt_same {L L2 : List En} : ∀ {net : List En},(∀ y ∈ net,manyD y.f0 L2 = manyD y.f0 L) → cntD L2 net = cntD L net
  | [],_ => rfl
  | e :: es,h => by
    simp only [cntD]
    rw [cnt_same (fun y hy => h y (List.mem_cons_of_mem _ hy))]
    unfold tv
    rw [h e (by simp)]
theorem len_mul : ∀ (net L : List En),SrtD net → OkD net → SrtD L → OkD L → allD 1 net L = true → ((mulD 1 net L).length : Int) = L.length + cntD L net
  | [],L,_,_,_,_,_ => by simp [mulD,cntD]
  | e :: es,L,ho,ko,hs,hk,ha => by
    have hst := mul_step (T1 := []) (T2 := es) ho ko hs hk ha
    have ha1 : okAdd e.f0 (e.f1 * 1) L = true := by unfold allD at ha;exact List.all_eq_true.1 ha e (by simp)
    rw [Int.mul_one] at ha1
    obtain ⟨i1,i2⟩ := addD_inv (r := e.f0) (m := e.f1) hs hk
    have h1 := len_put hs hk (ko e (by simp)).1 (ko e (by simp)).2.1 ha1
    obtain ⟨o1,o2⟩ := ho.cons
    have hm : ∀ y ∈ es,manyD y.f0 (addD e.f0 e.f1 L).2 = manyD y.f0 L := fun y hy => by
      rw [many_add y.f0 e.f0 e.f1 hs (ko e (by simp)).1 ha1]
      have c1 := o1 y hy
      have := rcmp_anti y.f0 e.f0
      unfold atD
      rw [if_neg (by omega)]
      omega
    have hal : allD 1 es (addD e.f0 e.f1 L).2 = true := by
      unfold allD at ha ⊢
      rw [List.all_eq_true] at ha ⊢
      intro y hy
      have h1 := ha y (List.mem_cons_of_mem _ hy)
      unfold okAdd at h1 ⊢
      rw [hm y hy];exact h1
    have h2 := len_mul es _ o2 (fun x hx => ko x (List.mem_cons_of_mem _ hx)) i1 i2 hal
    show ((mulD 1 es (addD e.f0 (e.f1 * 1) L).2).length : Int) = _
    rw [Int.mul_one,h2,h1,cnt_same hm]
    simp only [cntD]
    omega
theorem ones_law {L net : List En} (hL : OnceD L) (ho : SrtD net) (ko : OkD net) (hb : InM L net) (hc : (L.length : Int) + cntD L net ≤ 1500) :
    OnceD (mulD 1 net L) ∧ allD 1 (tellD L net) (onesD L) = true ∧ mulD 1 (tellD L net) (onesD L) = onesD (mulD 1 net L) := by
  have ha := inB_all ko hb
  obtain ⟨j1,j2,j3⟩ := mul_law 1 net L ho ko hL.srt hL.ok ha
  have hp : ∀ r,0 ≤ manyD r (mulD 1 net L) := fun r => by
    rw [j3]
    rcases hit_or r net with ⟨e,he,c⟩ | h
    · rw [many_eq L c,sum_eq c,sumE_mem 1 ho he,Int.mul_one]
      exact (hb e he).1
    · rw [sumE_none 1 h,Int.add_zero]
      exact many_pos hL.pos r
  have hal : allD 1 (tellD L net) (onesD L) = true := by
    unfold allD
    rw [List.all_eq_true]
    intro y hy
    obtain ⟨e,he,hy⟩ := List.mem_flatMap.1 hy
    obtain ⟨h1,h2⟩ := tell_mem hy
    subst h1
    have h3 := many_ones hL.ok e.f0
    unfold okAdd
    simp only
    rw [Int.mul_one,Bool.and_eq_true,Bool.and_eq_true,decide_eq_true_eq,decide_eq_true_eq,few_iff]
    split at h3 <;> omega
  obtain ⟨k1,k2,k3⟩ := mul_law 1 (tellD L net) (onesD L) (tell_srt ho) (tell_ok ko) (ones_srt hL.srt) (ones_ok hL.ok) hal
  refine ⟨⟨j1,j2,fun x hx => ?_,?_⟩,hal,?_⟩
  · have h1 := hp x.f0
    rw [many_mem j1 hx] at h1
    have := (j2 x hx).2.1
    omega
  · have := len_mul net L ho ko hL.srt hL.ok ha
    omega
  · refine doc_ext k1 (ones_srt j1) k2 (ones_ok j2) (fun r _ => ?_)
    rw [k3,many_ones hL.ok,many_ones j2,j3]
    rcases hit_or r net with ⟨e,he,c⟩ | h
    · have h2 := hb e he
      have h3 := (ko e he).2.1
      rw [many_eq L c,sum_eq c,sum_eq c,sumE_mem 1 ho he,tell_sum L ho he,Int.mul_one]
      unfold tv
      by_cases q : manyD e.f0 L = 0
      · rw [if_pos q,if_pos q,if_neg (by omega)];rfl
      · rw [if_neg q,if_neg q]
        by_cases q2 : manyD e.f0 L + e.f1 = 0
        · rw [if_pos q2,if_pos q2];rfl
        · rw [if_neg q2,if_neg q2];rfl
    · rw [sumE_none 1 h,tell_none L h,Int.add_zero,Int.add_zero]
def backD (net : List En) : List En := net.map (fun e => ⟨e.f0,-e.f1⟩)
theorem back_srt {L : List En} (h : SrtD L) : SrtD (backD L) := by
  unfold SrtD backD
  rw [List.pairwise_map]
  exact h
theorem back_ok {L : List En} (h : OkD L) : OkD (backD L) := fun x hx => by
  obtain ⟨y,hy,rfl⟩ := List.mem_map.1 hx
  have := h y hy
  refine ⟨this.1,?_⟩
  simp only
  omega
theorem of_all : ∀ (l pre : List En),SrtD (pre ++ l) → OkD l → ofD l pre = (0,pre ++ l)
  | [],pre,_,_ => by rw [List.append_nil];rfl
  | e :: l,pre,hs,hk => by
    have h1 := hk e (by simp)
    have hs2 : SrtD ((pre ++ [e]) ++ l) := by rw [List.append_assoc];exact hs
    have h2 := copy_step (List.pairwise_append.1 hs2).1 h1.1 h1.2.1 (few_iff.2 h1.2.2)
    simp only [ofD]
    rw [h2]
    simp only
    rw [if_pos trivial,of_all l (pre ++ [e]) hs2 (fun x hx => hk x (List.mem_cons_of_mem _ hx)),List.append_assoc]
    rfl
theorem sum_back (r : Rw) : ∀ T : List En,sumE 1 r (backD T) = - sumE 1 r T
  | [] => rfl
  | e :: T => by
    have := sum_back r T
    unfold backD at this ⊢
    simp only [List.map_cons,sumE]
    rw [this]
    unfold atD
    split <;> omega
theorem back_law {L net : List En} (hL : OnceD L) (ho : SrtD net) (ko : OkD net) (hb : InM L net) (hc : (L.length : Int) + cntD L net ≤ 1500) :
    ∃ T,appD (backD net) (mulD 1 net L) = (0,T,L) ∧ T.length = (tellD L net).length := by
  have ha := inB_all ko hb
  obtain ⟨j1,j2,j3⟩ := mul_law 1 net L ho ko hL.srt hL.ok ha
  have hw : ∀ e ∈ net,manyD e.f0 (mulD 1 net L) = manyD e.f0 L + e.f1 := fun e he => by
    rw [j3,sumE_mem 1 ho he,Int.mul_one]
  have hb2 : InM (mulD 1 net L) (backD net) := fun e he => by
    obtain ⟨y,hy,rfl⟩ := List.mem_map.1 he
    simp only
    rw [hw y hy]
    have h1 := many_pos hL.pos y.f0
    have h2 := many_bd (r := y.f0) hL.ok
    omega
  have ha2 := inB_all (back_ok ko) hb2
  obtain ⟨k1,k2,k3⟩ := mul_law 1 (backD net) (mulD 1 net L) (back_srt ho) (back_ok ko) j1 j2 ha2
  have hL2 : mulD 1 (backD net) (mulD 1 net L) = L := doc_ext k1 hL.srt k2 hL.ok (fun r _ => by rw [k3,j3,sum_back];omega)
  have hlen := len_mul (backD net) (mulD 1 net L) (back_srt ho) (back_ok ko) j1 j2 ha2
  rw [hL2] at hlen
  have hf := hL.few
  have hof := of_all (backD net) [] (back_srt ho) (back_ok ko)
  refine ⟨tellD (mulD 1 net L) (backD net),?_,?_⟩
  · unfold appD
    rw [hof]
    simp only [List.nil_append]
    rw [if_pos trivial,if_pos ((may_iff _ _ _).2 ⟨hb2,by omega⟩),hL2]
  · have : ∀ T : List En,(∀ e ∈ T,e ∈ net) → (tellD (mulD 1 net L) (backD T)).length = (tellD L T).length := fun T => by
      induction T with
      | nil => intro _;rfl
      | cons e T ih =>
        intro hT
        have he := hT e (by simp)
        show (tellD (mulD 1 net L) (⟨e.f0,-e.f1⟩ :: backD T)).length = _
        rw [tell_cons,tell_cons,List.length_append,List.length_append,ih (fun x hx => hT x (List.mem_cons_of_mem _ hx))]
        congr 1
        unfold tell1
        simp only
        rw [hw e he]
        have h0 := (ko e he).2.1
        by_cases q : manyD e.f0 L = 0
        · rw [if_pos q]
          rw [if_neg (by omega),if_pos (by omega)]
          rfl
        · rw [if_neg q]
          by_cases q2 : manyD e.f0 L + e.f1 = 0
          · rw [if_pos q2,if_pos q2];rfl
          · rw [if_neg q2,if_neg q2,if_neg (by omega)]
    exact this net (fun e he => he)
theorem of_inv : ∀ (l L : List En),SrtD L → OkD L → SrtD (ofD l L).2 ∧ OkD (ofD l L).2 ∧ (ofD l L).2.length ≤ L.length + l.length
  | [],L,hs,hk => ⟨hs,hk,Nat.le_refl _⟩
  | e :: l,L,hs,hk => by
    simp only [ofD]
    split
    · obtain ⟨i1,i2⟩ := addD_inv (r := e.f0) (m := e.f1) hs hk
      obtain ⟨h1,h2,h3⟩ := of_inv l _ i1 i2
      have := addD_len e.f0 e.f1 hs
      exact ⟨h1,h2,by simp only [List.length_cons];omega⟩
    · exact ⟨hs,hk,by simp only [List.length_cons];omega⟩
theorem app_law {l L : List En} (hL : OnceD L) : OnceD (appD l L).2.2 ∧ mulD 1 (appD l L).2.1 (onesD L) = onesD (appD l L).2.2 ∧ SrtD (appD l L).2.1 ∧ OkD (appD l L).2.1 ∧ allD 1 (appD l L).2.1 (onesD L) = true ∧ ((appD l L).1 ≠ 0 → (appD l L).2.1 = [] ∧ (appD l L).2.2 = L)
    ∧ ((appD l L).1 = 0 → (ofD l []).1 = 0 ∧ ∃ T,appD (backD (ofD l []).2) (appD l L).2.2 = (0,T,L) ∧ T.length = (appD l L).2.1.length) := by
  obtain ⟨n1,n2,_⟩ := of_inv l [] List.Pairwise.nil (fun x hx => (by cases hx))
  unfold appD
  by_cases h : (ofD l []).1 = 0
  · rw [if_pos h]
    by_cases h2 : mayD L (ofD l []).2 L.length = 0
    · rw [if_pos h2]
      obtain ⟨hb,hc⟩ := (may_iff _ _ _).1 h2
      obtain ⟨h3,h4,h5⟩ := ones_law hL n1 n2 hb hc
      obtain ⟨T,h6,h7⟩ := back_law hL n1 n2 hb hc
      exact ⟨h3,h5,tell_srt n1,tell_ok n2,h4,fun q => absurd rfl q,fun _ => ⟨h,T,h6,h7⟩⟩
    · rw [if_neg h2]
      exact ⟨hL,rfl,List.Pairwise.nil,fun x hx => (by cases hx),rfl,fun _ => ⟨rfl,rfl⟩,fun q => absurd q h2⟩
  · rw [if_neg h]
    exact ⟨hL,rfl,List.Pairwise.nil,fun x hx => (by cases hx),rfl,fun _ => ⟨rfl,rfl⟩,fun q => absurd q h⟩
end Go.Proofs.Ythmbfcfomcaaaaa.Z
end
section
namespace Go.Proofs.Ythmbfcfomcaaaaa.Z
open Go.RowKit Go.Proofs.YthmbfcfomcaaaaaW.PrintWords Go.Proofs.YthmbfcfomcaaaaaW.PrintLast Go.Proofs.YthmbfcfomcaaaaaW.PrintMore
attribute [local go_sem] max2_int min2_int max_two min_two max_three min_three max_four min_four
set_option linter.unusedVariables false
set_option linter.unusedSimpArgs false
def row_Same.f (k : Nat) (l0 : List (S66)) (l1 : List (S66)) : Option (Bool) := (row_Compare.f k l0 l1).bind fun t146 => (some (t146 == 0))
theorem row_Same.mono : ∀ a0 a1 k,LeO (row_Same.f k a0 a1) (row_Same.f (k + 1) a0 a1) := by
  intro a0 a1 k
  unfold row_Same.f
  repeat' first
      | (with_reducible exact row_Compare.mono _ _ _)
      | (with_reducible exact LeO.refl _)
      | (with_reducible exact LeO.none _)
      | (with_reducible refine LeO.ite ?_ ?_)
      | (with_reducible refine LeO.bind ?_ (fun _ => ?_))
      | exact row_Compare.mono _ _ _
      | exact LeO.none _
      | refine LeO.ite ?_ ?_
      | refine LeO.bind ?_ (fun _ => ?_)
set_option maxHeartbeats 8000000 in
set_option maxRecDepth 100000 in
theorem row_Same.calls (k : Nat) (A0 : Option Addr) (c0 : Nat) (l0 : List (S66)) (A1 : Option Addr) (c1 : Nat) (l1 : List (S66)) (r : Bool) (w : World) (hr0 : Kd.C k66 w A0 l0.length l0) (hc0 : l0.length ≤ c0) (hr1 : Kd.C k66 w A1 l1.length l1) (hc1 : l1.length ≤ c1) (h : row_Same.f k l0 l1 = some r) :
    Calls Try.prog 74 #[.slice A0 l0.length c0,.slice A1 l1.length c1] w fun e w' => e = .returned (.bool r) ∧ Below w.heap.size w w' := by
  have HR0 := Aside0.mk hr0
  have HC0 := Aside0.mk hc0
  clear hr0 hc0
  have HR1 := Aside0.mk hr1
  have HC1 := Aside0.mk hc1
  clear hr1 hc1
  have HB := Aside0.mk (Below.refl w.heap.size w)
  have H : ((row_Compare.f k l0 l1).bind fun t146 => (some (t146 == 0))) = some r := h
  clear h
  replace H := Option.bind_eq_some_iff.mp H
  obtain ⟨t146,A30,H⟩ := H
  replace H : (some (t146 == 0)) = some r := H
  have A3 := Aside0.mk A30
  clear A30
  obtain rfl := Option.some.inj H
  go_enter Try.func74,Try.ntmps74
  go_wp2_with (first | ((with_reducible refine gate_callee (f := 93) rfl ?_);refine goesL_ (some 7) rfl rfl Try.func93 (by kernel_rfl) rfl #[.slice A0 l0.length c0,.slice A1 l1.length c1] rfl (by (try simp only [List.map_toArray,List.map_cons,List.map_nil]);first | done | rfl | (simp only [List.length_drop,List.length_take];rfl)) ?_;(with_reducible refine (row_Compare.calls k _ _ l0 _ _ l1 t146 _ ?side1 ?side2 ?side3 ?side4 A3.out).mono ?_);(case side1 => repeat (first | exact HR0.out | (with_reducible refine Kd.C_alloc ?_ _) | (with_reducible refine Kd.C_drewN ?_ _) | (with_reducible refine Kd.C_drew ?_)));(case side2 => exact HC0.out);(case side3 => repeat (first | exact HR1.out | (with_reducible refine Kd.C_alloc ?_ _) | (with_reducible refine Kd.C_drewN ?_ _) | (with_reducible refine Kd.C_drew ?_)));(case side4 => exact HC1.out);rintro e w4 ⟨rfl,hb⟩;refine ⟨_,rfl,?_⟩;have n0_ := Aside0.mk (below_step (by repeat (first | (with_reducible first | exact HB.out | apply below_alloc | apply pw_below_drewN | apply below_drew1) | exact HB.out)) hb);clear HB;have HB := n0_;clear n0_;(try clear hb);(try clear hb2);(try clear hk);(try clear hi)))
  go_ret
  exact ⟨by first | rfl | (simp [errW_none,errW_some] <;> rfl) | (simp [*,errW_none,errW_some] <;> rfl),by repeat (first | (with_reducible first | exact HB.out | apply below_alloc | apply pw_below_drewN | apply below_drew1) | exact HB.out)⟩
end Go.Proofs.Ythmbfcfomcaaaaa.Z
end
section
namespace Go.Proofs.Ythmbfcfomcaaaaa.Z
open Go.RowKit Go.Proofs.YthmbfcfomcaaaaaW.PrintWords Go.Proofs.YthmbfcfomcaaaaaW.PrintLast Go.Proofs.YthmbfcfomcaaaaaW.PrintMore
attribute [local go_sem] max2_int min2_int max_two min_two max_three min_three max_four min_four
set_option linter.unusedVariables false
set_option linter.unusedSimpArgs false
def bag_Same_1.f (k : Nat) (l0_0 : List (S66)) (a0_1 : Int) (l1_0 : List (S66)) (a1_1 : Int) : Option (Bool) := if a0_1 = a1_1 then ((row_Same.f k l0_0 l1_0).bind fun t254 => (some t254)) else (some false)
theorem bag_Same_1.mono : ∀ a0 a1 a2 a3 k,LeO (bag_Same_1.f k a0 a1 a2 a3) (bag_Same_1.f (k + 1) a0 a1 a2 a3) := by
  intro a0 a1 a2 a3 k
  unfold bag_Same_1.f
  repeat' first
      | (with_reducible exact row_Same.mono _ _ _)
      | (with_reducible exact LeO.refl _)
      | (with_reducible exact LeO.none _)
      | (with_reducible refine LeO.ite ?_ ?_)
      | (with_reducible refine LeO.bind ?_ (fun _ => ?_))
      | exact row_Same.mono _ _ _
      | exact LeO.none _
      | refine LeO.ite ?_ ?_
      | refine LeO.bind ?_ (fun _ => ?_)
set_option maxHeartbeats 8000000 in
set_option maxRecDepth 100000 in
theorem bag_Same_1.calls (k : Nat) (A0_0 : Option Addr) (c0_0 : Nat) (l0_0 : List (S66)) (a0_1 : Int) (A1_0 : Option Addr) (c1_0 : Nat) (l1_0 : List (S66)) (a1_1 : Int) (r : Bool) (w : World) (hr0_0 : Kd.C k66 w A0_0 l0_0.length l0_0) (hc0_0 : l0_0.length ≤ c0_0) (hr1_0 : Kd.C k66 w A1_0 l1_0.length l1_0) (hc1_0 : l1_0.length ≤ c1_0) (h : bag_Same_1.f k l0_0 a0_1 l1_0 a1_1 = some r) :
    Calls Try.prog 73 #[.agg #[.slice A0_0 l0_0.length c0_0,.int .i64 a0_1],.agg #[.slice A1_0 l1_0.length c1_0,.int .i64 a1_1]] w fun e w' => e = .returned (.bool r) ∧ Below w.heap.size w w' := by
  have hu34 := Try.underlying34
  have HR0_0 := Aside0.mk hr0_0
  have HC0_0 := Aside0.mk hc0_0
  clear hr0_0 hc0_0
  have HR1_0 := Aside0.mk hr1_0
  have HC1_0 := Aside0.mk hc1_0
  clear hr1_0 hc1_0
  have HB := Aside0.mk (Below.refl w.heap.size w)
  have H : (if a0_1 = a1_1 then ((row_Same.f k l0_0 l1_0).bind fun t254 => (some t254)) else (some false)) = some r := h
  clear h
  by_cases c3 : a0_1 = a1_1
  · rw [if_pos c3] at H
    have c3b0 : (a0_1 == a1_1) = true := beq_iff_eq.mpr c3
    have c3b1 : (a0_1 != a1_1) = false := bne_eq_false_iff_eq.mpr c3
    clear c3
    replace H := Option.bind_eq_some_iff.mp H
    obtain ⟨t254,A40,H⟩ := H
    replace H : (some t254) = some r := H
    have A4 := Aside0.mk A40
    clear A40
    obtain rfl := Option.some.inj H
    go_enter Try.func73,Try.ntmps73
    go_wp2_with (first | ((with_reducible refine gate_dst (N := 2) rfl ?_);refine box_event ?hg (N := 2) ?hd (cs := #[.slice A0_0 l0_0.length c0_0,.int .i64 a0_1]) (t := 34) ?hr ?_;(case hd => rfl);(case hg => rfl);(case hr => first | (go_simp;done) | (go_simp;rfl));intro gb252 hg w5 hbox hb;have n0_ := Aside0.mk (below_step (by repeat (first | (with_reducible first | exact HB.out | apply below_alloc | apply pw_below_drewN | apply below_drew1) | exact HB.out)) hb);have n1_ := Aside0.mk (hbox);have n2_ := Aside0.mk ((by rw [hg];exact (below_size (by repeat (first | (with_reducible first | exact HB.out | apply below_alloc | apply pw_below_drewN | apply below_drew1) | exact HB.out))) : w.heap.size ≤ gb252));have n3_ := Aside0.mk ((by rw [hg];exact (below_size (by repeat (first | (with_reducible first | exact HB.out | apply below_alloc | apply pw_below_drewN | apply below_drew1) | exact HB.out))) : w.heap.size ≤ gb252));clear HB;have HB := n0_;have BK252 := n1_;have GW252 := n2_;have GE252 := n3_;clear n0_ n1_ n2_ n3_;clear hb hbox hg) | ((with_reducible refine gate_dst (N := 3) rfl ?_);refine box_event ?hg (N := 3) ?hd (cs := #[.slice A1_0 l1_0.length c1_0,.int .i64 a1_1]) (t := 34) ?hr ?_;(case hd => rfl);(case hg => rfl);(case hr => first | (go_simp;done) | (go_simp;rfl));intro gb253 hg w6 hbox hb;have n0_ := Aside0.mk (blk_below (g := gb252) (o := .cells #[.slice A0_0 l0_0.length c0_0,.int .i64 a0_1] 34 (0,0)) (by (with_reducible repeat (first | refine blk_drewN ?_ _ | refine blk_drew ?_ | refine blk_alloc ?_ _));exact BK252.out) hb);have n1_ := Aside0.mk (below_step (by repeat (first | (with_reducible first | exact HB.out | apply below_alloc | apply pw_below_drewN | apply below_drew1 | refine below_set ?_ GE252.out) | exact HB.out)) hb);have n2_ := Aside0.mk (hbox);have n3_ := Aside0.mk ((by rw [hg];exact (below_size (by repeat (first | (with_reducible first | exact HB.out | apply below_alloc | apply pw_below_drewN | apply below_drew1 | refine below_set ?_ GE252.out) | exact HB.out))) : w.heap.size ≤ gb253));have n4_ := Aside0.mk ((by rw [hg];exact (below_size (by repeat (first | (with_reducible first | exact HB.out | apply below_alloc | apply pw_below_drewN | apply below_drew1 | refine below_set ?_ GE252.out) | exact HB.out))) : w.heap.size ≤ gb253));have n5_ := Aside0.mk ((by rw [hg];exact Nat.ne_of_lt (blk_lt (g := gb252) (o := .cells #[.slice A0_0 l0_0.length c0_0,.int .i64 a0_1] 34 (0,0)) (by (with_reducible repeat (first | refine blk_drewN ?_ _ | refine blk_drew ?_ | refine blk_alloc ?_ _));exact BK252.out)) : gb252 ≠ gb253));have n6_ := Aside0.mk ((by rw [hg];exact Nat.ne_of_gt (blk_lt (g := gb252) (o := .cells #[.slice A0_0 l0_0.length c0_0,.int .i64 a0_1] 34 (0,0)) (by (with_reducible repeat (first | refine blk_drewN ?_ _ | refine blk_drew ?_ | refine blk_alloc ?_ _));exact BK252.out)) : gb253 ≠ gb252));clear BK252;clear HB;have BK252 := n0_;have HB := n1_;have BK253 := n2_;have GW253 := n3_;have GE253 := n4_;have NB252_253 := n5_;have NB253_252 := n6_;clear n0_ n1_ n2_ n3_ n4_ n5_ n6_;clear hb hbox hg;have hnb7 := NB252_253.out;have hnc7 := NB253_252.out;have hcz8_0 : w6.cell? ⟨gb252,0,none⟩ = some (.slice A0_0 l0_0.length c0_0) := (blk_cell BK252.out 0).trans rfl;have hcz8_1 : w6.cell? ⟨gb252,1,none⟩ = some (.int .i64 a0_1) := (blk_cell BK252.out 1).trans rfl;have hfz8_0 := blk_frozen BK252.out 0;have hfz8_1 := blk_frozen BK252.out 1;have hcz9_0 : w6.cell? ⟨gb253,0,none⟩ = some (.slice A1_0 l1_0.length c1_0) := (blk_cell BK253.out 0).trans rfl;have hcz9_1 : w6.cell? ⟨gb253,1,none⟩ = some (.int .i64 a1_1) := (blk_cell BK253.out 1).trans rfl;have hfz9_0 := blk_frozen BK253.out 0;have hfz9_1 := blk_frozen BK253.out 1) | (go_at_call 74;(with_reducible refine (row_Same.calls k _ _ l0_0 _ _ l1_0 t254 _ ?side1 ?side2 ?side3 ?side4 A4.out).mono ?_);(case side1 => repeat (first | exact (Kd.C_below HR0_0.out HB.out) | (with_reducible refine Kd.C_alloc ?_ _) | (with_reducible refine Kd.C_drewN ?_ _) | (with_reducible refine Kd.C_drew ?_)));(case side2 => exact HC0_0.out);(case side3 => repeat (first | exact (Kd.C_below HR1_0.out HB.out) | (with_reducible refine Kd.C_alloc ?_ _) | (with_reducible refine Kd.C_drewN ?_ _) | (with_reducible refine Kd.C_drew ?_)));(case side4 => exact HC1_0.out);rintro e w10 ⟨rfl,hb⟩;have n0_ := Aside0.mk (blk_below (g := gb252) (o := .cells #[.slice A0_0 l0_0.length c0_0,.int .i64 a0_1] 34 (0,0)) (by (with_reducible repeat (first | refine blk_drewN ?_ _ | refine blk_drew ?_ | refine blk_alloc ?_ _));exact BK252.out) hb);have n1_ := Aside0.mk (blk_below (g := gb253) (o := .cells #[.slice A1_0 l1_0.length c1_0,.int .i64 a1_1] 34 (0,0)) (by (with_reducible repeat (first | refine blk_drewN ?_ _ | refine blk_drew ?_ | refine blk_alloc ?_ _));exact BK253.out) hb);have n2_ := Aside0.mk (below_step (by repeat (first | (with_reducible first | exact HB.out | apply below_alloc | apply pw_below_drewN | apply below_drew1 | refine below_set ?_ GE252.out | refine below_set ?_ GE253.out) | exact HB.out)) hb);clear BK252;clear BK253;clear HB;have BK252 := n0_;have BK253 := n1_;have HB := n2_;clear n0_ n1_ n2_;(try clear hb);(try clear hb2);(try clear hk);(try clear hi)))
    go_ret
    exact ⟨by first | rfl | (simp [errW_none,errW_some] <;> rfl) | (simp [*,errW_none,errW_some] <;> rfl),by repeat (first | (with_reducible first | exact HB.out | apply below_alloc | apply pw_below_drewN | apply below_drew1 | refine below_set ?_ GE252.out | refine below_set ?_ GE253.out) | exact HB.out)⟩
  · rw [if_neg c3] at H
    have c3b0 : (a0_1 == a1_1) = false := beq_eq_false_iff_ne.mpr c3
    have c3b1 : (a0_1 != a1_1) = true := bne_iff_ne.mpr c3
    obtain rfl := Option.some.inj H
    go_enter Try.func73,Try.ntmps73
    go_wp2_with (first | ((with_reducible refine gate_dst (N := 2) rfl ?_);refine box_event ?hg (N := 2) ?hd (cs := #[.slice A0_0 l0_0.length c0_0,.int .i64 a0_1]) (t := 34) ?hr ?_;(case hd => rfl);(case hg => rfl);(case hr => first | (go_simp;done) | (go_simp;rfl));intro gb252 hg w11 hbox hb;have n0_ := Aside0.mk (below_step (by repeat (first | (with_reducible first | exact HB.out | apply below_alloc | apply pw_below_drewN | apply below_drew1) | exact HB.out)) hb);have n1_ := Aside0.mk (hbox);have n2_ := Aside0.mk ((by rw [hg];exact (below_size (by repeat (first | (with_reducible first | exact HB.out | apply below_alloc | apply pw_below_drewN | apply below_drew1) | exact HB.out))) : w.heap.size ≤ gb252));have n3_ := Aside0.mk ((by rw [hg];exact (below_size (by repeat (first | (with_reducible first | exact HB.out | apply below_alloc | apply pw_below_drewN | apply below_drew1) | exact HB.out))) : w.heap.size ≤ gb252));clear HB;have HB := n0_;have BK252 := n1_;have GW252 := n2_;have GE252 := n3_;clear n0_ n1_ n2_ n3_;clear hb hbox hg) | ((with_reducible refine gate_dst (N := 3) rfl ?_);refine box_event ?hg (N := 3) ?hd (cs := #[.slice A1_0 l1_0.length c1_0,.int .i64 a1_1]) (t := 34) ?hr ?_;(case hd => rfl);(case hg => rfl);(case hr => first | (go_simp;done) | (go_simp;rfl));intro gb253 hg w12 hbox hb;have n0_ := Aside0.mk (blk_below (g := gb252) (o := .cells #[.slice A0_0 l0_0.length c0_0,.int .i64 a0_1] 34 (0,0)) (by (with_reducible repeat (first | refine blk_drewN ?_ _ | refine blk_drew ?_ | refine blk_alloc ?_ _));exact BK252.out) hb);have n1_ := Aside0.mk (below_step (by repeat (first | (with_reducible first | exact HB.out | apply below_alloc | apply pw_below_drewN | apply below_drew1 | refine below_set ?_ GE252.out) | exact HB.out)) hb);have n2_ := Aside0.mk (hbox);have n3_ := Aside0.mk ((by rw [hg];exact (below_size (by repeat (first | (with_reducible first | exact HB.out | apply below_alloc | apply pw_below_drewN | apply below_drew1 | refine below_set ?_ GE252.out) | exact HB.out))) : w.heap.size ≤ gb253));have n4_ := Aside0.mk ((by rw [hg];exact (below_size (by repeat (first | (with_reducible first | exact HB.out | apply below_alloc | apply pw_below_drewN | apply below_drew1 | refine below_set ?_ GE252.out) | exact HB.out))) : w.heap.size ≤ gb253));have n5_ := Aside0.mk ((by rw [hg];exact Nat.ne_of_lt (blk_lt (g := gb252) (o := .cells #[.slice A0_0 l0_0.length c0_0,.int .i64 a0_1] 34 (0,0)) (by (with_reducible repeat (first | refine blk_drewN ?_ _ | refine blk_drew ?_ | refine blk_alloc ?_ _));exact BK252.out)) : gb252 ≠ gb253));have n6_ := Aside0.mk ((by rw [hg];exact Nat.ne_of_gt (blk_lt (g := gb252) (o := .cells #[.slice A0_0 l0_0.length c0_0,.int .i64 a0_1] 34 (0,0)) (by (with_reducible repeat (first | refine blk_drewN ?_ _ | refine blk_drew ?_ | refine blk_alloc ?_ _));exact BK252.out)) : gb253 ≠ gb252));clear BK252;clear HB;have BK252 := n0_;have HB := n1_;have BK253 := n2_;have GW253 := n3_;have GE253 := n4_;have NB252_253 := n5_;have NB253_252 := n6_;clear n0_ n1_ n2_ n3_ n4_ n5_ n6_;clear hb hbox hg;have hnb13 := NB252_253.out;have hnc13 := NB253_252.out;have hcz14_0 : w12.cell? ⟨gb252,0,none⟩ = some (.slice A0_0 l0_0.length c0_0) := (blk_cell BK252.out 0).trans rfl;have hcz14_1 : w12.cell? ⟨gb252,1,none⟩ = some (.int .i64 a0_1) := (blk_cell BK252.out 1).trans rfl;have hfz14_0 := blk_frozen BK252.out 0;have hfz14_1 := blk_frozen BK252.out 1;have hcz15_0 : w12.cell? ⟨gb253,0,none⟩ = some (.slice A1_0 l1_0.length c1_0) := (blk_cell BK253.out 0).trans rfl;have hcz15_1 : w12.cell? ⟨gb253,1,none⟩ = some (.int .i64 a1_1) := (blk_cell BK253.out 1).trans rfl;have hfz15_0 := blk_frozen BK253.out 0;have hfz15_1 := blk_frozen BK253.out 1))
    go_ret
    exact ⟨by first | rfl | (simp [errW_none,errW_some] <;> rfl) | (simp [*,errW_none,errW_some] <;> rfl),by repeat (first | (with_reducible first | exact HB.out | apply below_alloc | apply pw_below_drewN | apply below_drew1 | refine below_set ?_ GE252.out | refine below_set ?_ GE253.out) | exact HB.out)⟩
end Go.Proofs.Ythmbfcfomcaaaaa.Z
end
section
namespace Go.Proofs.Ythmbfcfomcaaaaa.Z
open Go.RowKit Go.Proofs.YthmbfcfomcaaaaaW.PrintWords Go.Proofs.YthmbfcfomcaaaaaW.PrintLast Go.Proofs.YthmbfcfomcaaaaaW.PrintMore
attribute [local go_sem] max2_int min2_int max_two min_two max_three min_three max_four min_four
set_option linter.unusedVariables false
set_option linter.unusedSimpArgs false
def slices_EqualFunc.l0 : Nat → List (S34) → List (S34) → Int → Int → Option (Bool)
  | 0,_,_,_,_ => none
  | k + 1,x1,x15,x16,x17 => if x17 < x16 then (if 0 ≤ x17 then (if x17 < (x15.length : Int) then (if x17 < (x1.length : Int) then ((bag_Same_1.f k ((rd_T34 x15 x17).f0) ((rd_T34 x15 x17).f1) ((rd_T34 x1 x17).f0) ((rd_T34 x1 x17).f1)).bind fun t259 => (if t259 = true then (slices_EqualFunc.l0 k x1 x15 x16 (wrap64 (x17 + 1))) else (some false))) else (none)) else (none)) else (none)) else (some true)
def slices_EqualFunc.f (k : Nat) (l0 : List (S34)) (l1 : List (S34)) (a2 : Int) : Option (Bool) := if (l0.length : Int) = (l1.length : Int) then (slices_EqualFunc.l0 k l1 l0 (l0.length : Int) 0) else (some false)
theorem slices_EqualFunc.mono_l : ∀ k,(∀ y0 y1 y2 y3,LeO (slices_EqualFunc.l0 k y0 y1 y2 y3) (slices_EqualFunc.l0 (k + 1) y0 y1 y2 y3))
  | 0 => fun _ _ _ _ r h => by simp [slices_EqualFunc.l0] at h
  | k + 1 => by
    have ih0 := slices_EqualFunc.mono_l k
    · intro y0 y1 y2 y3
      unfold slices_EqualFunc.l0
      repeat' first
      | (with_reducible exact ih0 _ _ _ _)
      | (with_reducible exact bag_Same_1.mono _ _ _ _ _)
      | (with_reducible exact LeO.refl _)
      | (with_reducible exact LeO.none _)
      | (with_reducible refine LeO.ite ?_ ?_)
      | (with_reducible refine LeO.bind ?_ (fun _ => ?_))
      | exact ih0 _ _ _ _
      | exact bag_Same_1.mono _ _ _ _ _
      | exact LeO.none _
      | refine LeO.ite ?_ ?_
      | refine LeO.bind ?_ (fun _ => ?_)
theorem slices_EqualFunc.mono : ∀ a0 a1 a2 k,LeO (slices_EqualFunc.f k a0 a1 a2) (slices_EqualFunc.f (k + 1) a0 a1 a2) := by
  intro a0 a1 a2 k
  have ih0 := slices_EqualFunc.mono_l k
  unfold slices_EqualFunc.f
  repeat' first
      | (with_reducible exact ih0 _ _ _ _)
      | (with_reducible exact bag_Same_1.mono _ _ _ _ _)
      | (with_reducible exact LeO.refl _)
      | (with_reducible exact LeO.none _)
      | (with_reducible refine LeO.ite ?_ ?_)
      | (with_reducible refine LeO.bind ?_ (fun _ => ?_))
      | exact ih0 _ _ _ _
      | exact bag_Same_1.mono _ _ _ _ _
      | exact LeO.none _
      | refine LeO.ite ?_ ?_
      | refine LeO.bind ?_ (fun _ => ?_)
set_option maxHeartbeats 8000000 in
set_option maxRecDepth 100000 in
theorem slices_EqualFunc.calls (k : Nat) (A0 : Option Addr) (c0 : Nat) (l0 : List (S34)) (A1 : Option Addr) (c1 : Nat) (l1 : List (S34)) (a2 : Int) (r : Bool) (w : World) (hr0 : Kd.C k34 w A0 l0.length l0) (hc0 : l0.length ≤ c0) (hr1 : Kd.C k34 w A1 l1.length l1) (hc1 : l1.length ≤ c1) (h : slices_EqualFunc.f k l0 l1 a2 = some r) :
    Calls Try.prog 72 #[.slice A0 l0.length c0,.slice A1 l1.length c1,.func (.func 73) #[] #[]] w fun e w' => e = .returned (.bool r) ∧ Below w.heap.size w w' := by
  have hu34 := Try.underlying34
  have HR0 := Aside0.mk hr0
  have HC0 := Aside0.mk hc0
  clear hr0 hc0
  have HR1 := Aside0.mk hr1
  have HC1 := Aside0.mk hc1
  clear hr1 hc1
  have HB := Aside0.mk (Below.refl w.heap.size w)
  have H : (if (l0.length : Int) = (l1.length : Int) then (slices_EqualFunc.l0 k l1 l0 (l0.length : Int) 0) else (some false)) = some r := h
  clear h
  by_cases c4 : (l0.length : Int) = (l1.length : Int)
  · rw [if_pos c4] at H
    have c4b0 : ((l0.length : Int) == (l1.length : Int)) = true := beq_iff_eq.mpr c4
    have c4b1 : ((l0.length : Int) != (l1.length : Int)) = false := bne_eq_false_iff_eq.mpr c4
    have c4b2 : (l0.length == l1.length) = true := by first | simpa using c4 | (simp at c4 ⊢;omega)
    clear c4
    have H' := Aside0.mk H
    clear H
    go_enter Try.func72,Try.ntmps72
    go_wp2
    go_loopg [17] k (fun kq v17 w' => ∃ (x17_1 : Int),v17 = .int .i64 x17_1 ∧ Aside0 (slices_EqualFunc.l0 kq l1 l0 (l0.length : Int) x17_1 = some r) ∧ Aside0 (kq ≤ k) ∧ Aside0 (Below w.heap.size w w'))
    case atStart => exact ⟨(0),(by first | rfl | (simp;done) | (simp [*];done)),H',⟨Nat.le_refl _⟩,⟨by repeat (first | (with_reducible first | exact HB.out | apply below_alloc | apply pw_below_drewN | apply below_drew1) | exact HB.out)⟩⟩
    case round =>
      clear H'
      try clear c1
      try clear p2
      try clear c4
      try clear c4b0
      try clear c4b1
      try clear c4b2
      obtain ⟨x17_1,rfl,HA,HK1,HB⟩ := hrel
      cases gk with
      | zero => exact absurd HA.out (by simp [slices_EqualFunc.l0])
      | succ k1 =>
        have H := HA.out
        clear HA
        simp only [slices_EqualFunc.l0] at H
        by_cases c5 : x17_1 < (l0.length : Int)
        · rw [if_pos c5] at H
          have c5b0 : decide (x17_1 < (l0.length : Int)) = true := decide_eq_true c5
          clear c5
          by_cases c6 : 0 ≤ x17_1
          · rw [if_pos c6] at H
            have c6b0 : decide (0 ≤ x17_1) = true := decide_eq_true c6
            clear c6
            by_cases c7 : x17_1 < (l0.length : Int)
            · rw [if_pos c7] at H
              have c7b0 : decide (x17_1 < (l0.length : Int)) = true := decide_eq_true c7
              clear c7
              by_cases c8 : x17_1 < (l1.length : Int)
              · rw [if_pos c8] at H
                have c8b0 : decide (x17_1 < (l1.length : Int)) = true := decide_eq_true c8
                clear c8
                replace H := Option.bind_eq_some_iff.mp H
                obtain ⟨t259,A90,H⟩ := H
                replace H : (if t259 = true then (slices_EqualFunc.l0 k1 l1 l0 (l0.length : Int) (wrap64 (x17_1 + 1))) else (some false)) = some r := H
                have A9 := Aside0.mk A90
                clear A90
                by_cases c10 : t259 = true
                · subst c10
                  have H1 : (slices_EqualFunc.l0 k1 l1 l0 (l0.length : Int) (wrap64 (x17_1 + 1))) = some r := by rw [if_pos rfl] at H;exact H
                  clear H
                  have H := H1
                  clear H1
                  have H' := Aside0.mk H
                  clear H
                  have p255 : 0 ≤ (x17_1 : Int) := of_decide_eq_true (by first | (with_reducible assumption) | assumption)
                  have q255 : x17_1 < (l0.length : Int) := of_decide_eq_true (by first | (with_reducible assumption) | assumption)
                  obtain ⟨ad255,A255_0,c255_0,e255,hx255_0,hx255_1,hl255_0,hi255_0⟩ := at_T34 HR0.out x17_1 p255 q255
                  cases e255
                  replace hx255_0 := (HB.out.cell (World.block_lt_of_cell? w _ hx255_0)).trans hx255_0
                  replace hx255_1 := (HB.out.cell (World.block_lt_of_cell? w _ hx255_1)).trans hx255_1
                  have HR255_0 := Aside0.mk hi255_0
                  have HC255_0 := Aside0.mk hl255_0
                  clear hi255_0 hl255_0
                  replace p255 := eq_true p255
                  replace q255 := eq_true q255
                  go_wp2_with (first | ((with_reducible refine gate_dst (N := 8) rfl ?_);refine box_event ?hg (N := 8) ?hd (cs := #[.slice none 0 0,.int .i64 0]) (t := 34) ?hr ?_;(case hd => rfl);(case hg => rfl);(case hr => first | (go_simp;done) | (go_simp;rfl));intro gb256 hg w11 hbox hb;have n0_ := Aside0.mk (below_step (by repeat (first | (with_reducible first | exact HB.out | apply below_alloc | apply pw_below_drewN | apply below_drew1) | exact HB.out)) hb);have n1_ := Aside0.mk (hbox);have n2_ := Aside0.mk ((by rw [hg];exact (below_size (by repeat (first | (with_reducible first | exact HB.out | apply below_alloc | apply pw_below_drewN | apply below_drew1) | exact HB.out))) : w.heap.size ≤ gb256));have n3_ := Aside0.mk ((by rw [hg];exact (below_size (by repeat (first | (with_reducible first | exact HB.out | apply below_alloc | apply pw_below_drewN | apply below_drew1) | exact HB.out))) : w.heap.size ≤ gb256));clear HB;have HB := n0_;have BK256 := n1_;have GW256 := n2_;have GE256 := n3_;clear n0_ n1_ n2_ n3_;clear hb hbox hg;have hcz12_0 : w11.cell? ⟨gb256,0,none⟩ = some (.slice none 0 0) := (blk_cell BK256.out 0).trans rfl;have hcz12_1 : w11.cell? ⟨gb256,1,none⟩ = some (.int .i64 0) := (blk_cell BK256.out 1).trans rfl;have hfz12_0 := blk_frozen BK256.out 0;have hfz12_1 := blk_frozen BK256.out 1;have p257 : 0 ≤ (x17_1 : Int) := of_decide_eq_true (by first | (with_reducible assumption) | assumption);have q257 : x17_1 < (l1.length : Int) := of_decide_eq_true (by first | (with_reducible assumption) | assumption);obtain ⟨ad257,A257_0,c257_0,e257,hx257_0,hx257_1,hl257_0,hi257_0⟩ := at_T34 HR1.out x17_1 p257 q257;cases e257;have hn257_0 : ad257.block ≠ gb256 := Nat.ne_of_lt (Nat.lt_of_lt_of_le (by have := World.block_lt_of_cell? _ _ hx257_0;first | rwa [add_block] at this | exact this) GW256.out);have hn257_1 : ad257.block ≠ gb256 := Nat.ne_of_lt (Nat.lt_of_lt_of_le (by have := World.block_lt_of_cell? _ _ hx257_0;first | rwa [add_block] at this | exact this) GW256.out);replace hx257_0 := (HB.out.cell (World.block_lt_of_cell? w _ hx257_0)).trans hx257_0;replace hx257_1 := (HB.out.cell (World.block_lt_of_cell? w _ hx257_1)).trans hx257_1;have HR257_0 := Aside0.mk hi257_0;have HC257_0 := Aside0.mk hl257_0;clear hi257_0 hl257_0;replace hx257_0 := (cell_far (p := ⟨gb256,0,none⟩) (by first | (rw [add_block];exact hn257_0) | (show (Addr.add _ _).block ≠ _;rw [add_block];exact hn257_0) | exact hn257_0) (.slice A255_0 ((rd_T34 l0 x17_1).f0).length c255_0)).trans hx257_0;replace hx257_1 := (cell_far (p := ⟨gb256,0,none⟩) (by first | (rw [add_block];exact hn257_0) | (show (Addr.add _ _).block ≠ _;rw [add_block];exact hn257_0) | exact hn257_0) (.slice A255_0 ((rd_T34 l0 x17_1).f0).length c255_0)).trans hx257_1;replace hx257_0 := (cell_far (p := ⟨gb256,1,none⟩) (by first | (rw [add_block];exact hn257_1) | (show (Addr.add _ _).block ≠ _;rw [add_block];exact hn257_1) | exact hn257_1) (.int .i64 ((rd_T34 l0 x17_1).f1))).trans hx257_0;replace hx257_1 := (cell_far (p := ⟨gb256,1,none⟩) (by first | (rw [add_block];exact hn257_1) | (show (Addr.add _ _).block ≠ _;rw [add_block];exact hn257_1) | exact hn257_1) (.int .i64 ((rd_T34 l0 x17_1).f1))).trans hx257_1;clear hn257_0;clear hn257_1;replace p257 := eq_true p257;replace q257 := eq_true q257) | ((with_reducible refine gate_dst (N := 9) rfl ?_);refine box_event ?hg (N := 9) ?hd (cs := #[.slice none 0 0,.int .i64 0]) (t := 34) ?hr ?_;(case hd => rfl);(case hg => rfl);(case hr => first | (go_simp;done) | (go_simp;rfl));intro gb258 hg w13 hbox hb;have n0_ := Aside0.mk (blk_below (g := gb256) (o := .cells #[.slice A255_0 ((rd_T34 l0 x17_1).f0).length c255_0,.int .i64 ((rd_T34 l0 x17_1).f1)] 34 (0,0)) (by (with_reducible repeat (first | refine blk_drewN ?_ _ | refine blk_drew ?_ | refine blk_alloc ?_ _));refine blk_put (cs := #[.slice A255_0 ((rd_T34 l0 x17_1).f0).length c255_0,.int .i64 0]) ?_ 1 _ rfl;(with_reducible repeat (first | refine blk_drewN ?_ _ | refine blk_drew ?_ | refine blk_alloc ?_ _));refine blk_put (cs := #[.slice none 0 0,.int .i64 0]) ?_ 0 _ rfl;(with_reducible repeat (first | refine blk_drewN ?_ _ | refine blk_drew ?_ | refine blk_alloc ?_ _));exact BK256.out) hb);have n1_ := Aside0.mk (below_step (by repeat (first | (with_reducible first | exact HB.out | apply below_alloc | apply pw_below_drewN | apply below_drew1 | refine below_set ?_ GE256.out) | exact HB.out)) hb);have n2_ := Aside0.mk (hbox);have n3_ := Aside0.mk ((by rw [hg];exact (below_size (by repeat (first | (with_reducible first | exact HB.out | apply below_alloc | apply pw_below_drewN | apply below_drew1 | refine below_set ?_ GE256.out) | exact HB.out))) : w.heap.size ≤ gb258));have n4_ := Aside0.mk ((by rw [hg];exact (below_size (by repeat (first | (with_reducible first | exact HB.out | apply below_alloc | apply pw_below_drewN | apply below_drew1 | refine below_set ?_ GE256.out) | exact HB.out))) : w.heap.size ≤ gb258));have n5_ := Aside0.mk ((by rw [hg];exact Nat.ne_of_lt (blk_lt (g := gb256) (o := .cells #[.slice A255_0 ((rd_T34 l0 x17_1).f0).length c255_0,.int .i64 ((rd_T34 l0 x17_1).f1)] 34 (0,0)) (by (with_reducible repeat (first | refine blk_drewN ?_ _ | refine blk_drew ?_ | refine blk_alloc ?_ _));refine blk_put (cs := #[.slice A255_0 ((rd_T34 l0 x17_1).f0).length c255_0,.int .i64 0]) ?_ 1 _ rfl;(with_reducible repeat (first | refine blk_drewN ?_ _ | refine blk_drew ?_ | refine blk_alloc ?_ _));refine blk_put (cs := #[.slice none 0 0,.int .i64 0]) ?_ 0 _ rfl;(with_reducible repeat (first | refine blk_drewN ?_ _ | refine blk_drew ?_ | refine blk_alloc ?_ _));exact BK256.out)) : gb256 ≠ gb258));have n6_ := Aside0.mk ((by rw [hg];exact Nat.ne_of_gt (blk_lt (g := gb256) (o := .cells #[.slice A255_0 ((rd_T34 l0 x17_1).f0).length c255_0,.int .i64 ((rd_T34 l0 x17_1).f1)] 34 (0,0)) (by (with_reducible repeat (first | refine blk_drewN ?_ _ | refine blk_drew ?_ | refine blk_alloc ?_ _));refine blk_put (cs := #[.slice A255_0 ((rd_T34 l0 x17_1).f0).length c255_0,.int .i64 0]) ?_ 1 _ rfl;(with_reducible repeat (first | refine blk_drewN ?_ _ | refine blk_drew ?_ | refine blk_alloc ?_ _));refine blk_put (cs := #[.slice none 0 0,.int .i64 0]) ?_ 0 _ rfl;(with_reducible repeat (first | refine blk_drewN ?_ _ | refine blk_drew ?_ | refine blk_alloc ?_ _));exact BK256.out)) : gb258 ≠ gb256));clear BK256;clear HB;have BK256 := n0_;have HB := n1_;have BK258 := n2_;have GW258 := n3_;have GE258 := n4_;have NB256_258 := n5_;have NB258_256 := n6_;clear n0_ n1_ n2_ n3_ n4_ n5_ n6_;clear hb hbox hg;have hnb14 := NB258_256.out;have hnc14 := NB256_258.out;have hcz15_0 : w13.cell? ⟨gb258,0,none⟩ = some (.slice none 0 0) := (blk_cell BK258.out 0).trans rfl;have hcz15_1 : w13.cell? ⟨gb258,1,none⟩ = some (.int .i64 0) := (blk_cell BK258.out 1).trans rfl;have hfz15_0 := blk_frozen BK258.out 0;have hfz15_1 := blk_frozen BK258.out 1;have hcz16_0 : w13.cell? ⟨gb256,0,none⟩ = some (.slice A255_0 ((rd_T34 l0 x17_1).f0).length c255_0) := (blk_cell BK256.out 0).trans rfl;have hcz16_1 : w13.cell? ⟨gb256,1,none⟩ = some (.int .i64 ((rd_T34 l0 x17_1).f1)) := (blk_cell BK256.out 1).trans rfl;have hfz16_0 := blk_frozen BK256.out 0;have hfz16_1 := blk_frozen BK256.out 1) | ((with_reducible refine gate_tmp (n := 26) rfl ?_);refine goesT_ (some 29) rfl rfl Try.func73 (by kernel_rfl) rfl #[.agg #[.slice A255_0 ((rd_T34 l0 x17_1).f0).length c255_0,.int .i64 ((rd_T34 l0 x17_1).f1)],.agg #[.slice A257_0 ((rd_T34 l1 x17_1).f0).length c257_0,.int .i64 ((rd_T34 l1 x17_1).f1)]] rfl rfl (by (try simp only [List.map_toArray,List.map_cons,List.map_nil]);first | done | rfl | (simp only [List.length_drop,List.length_take];rfl)) ?_;(with_reducible refine (bag_Same_1.calls k1 _ _ ((rd_T34 l0 x17_1).f0) ((rd_T34 l0 x17_1).f1) _ _ ((rd_T34 l1 x17_1).f0) ((rd_T34 l1 x17_1).f1) true _ ?side1 ?side2 ?side3 ?side4 A9.out).mono ?_);(case side1 => exact Kd.C_below HR255_0.out (by repeat (first | (with_reducible first | exact HB.out | apply below_alloc | apply pw_below_drewN | apply below_drew1 | refine below_set ?_ GE256.out | refine below_set ?_ GE258.out) | exact HB.out)));(case side2 => exact HC255_0.out);(case side3 => exact Kd.C_below HR257_0.out (by repeat (first | (with_reducible first | exact HB.out | apply below_alloc | apply pw_below_drewN | apply below_drew1 | refine below_set ?_ GE256.out | refine below_set ?_ GE258.out) | exact HB.out)));(case side4 => exact HC257_0.out);rintro e w17 ⟨rfl,hb⟩;refine ⟨_,rfl,?_⟩;have n0_ := Aside0.mk (blk_below (g := gb256) (o := .cells #[.slice A255_0 ((rd_T34 l0 x17_1).f0).length c255_0,.int .i64 ((rd_T34 l0 x17_1).f1)] 34 (0,0)) (by (with_reducible repeat (first | refine blk_drewN ?_ _ | refine blk_drew ?_ | refine blk_alloc ?_ _));refine blk_far ?_ NB256_258.out _;(with_reducible repeat (first | refine blk_drewN ?_ _ | refine blk_drew ?_ | refine blk_alloc ?_ _));refine blk_far ?_ NB256_258.out _;(with_reducible repeat (first | refine blk_drewN ?_ _ | refine blk_drew ?_ | refine blk_alloc ?_ _));exact BK256.out) hb);have n1_ := Aside0.mk (blk_below (g := gb258) (o := .cells #[.slice A257_0 ((rd_T34 l1 x17_1).f0).length c257_0,.int .i64 ((rd_T34 l1 x17_1).f1)] 34 (0,0)) (by (with_reducible repeat (first | refine blk_drewN ?_ _ | refine blk_drew ?_ | refine blk_alloc ?_ _));refine blk_put (cs := #[.slice A257_0 ((rd_T34 l1 x17_1).f0).length c257_0,.int .i64 0]) ?_ 1 _ rfl;(with_reducible repeat (first | refine blk_drewN ?_ _ | refine blk_drew ?_ | refine blk_alloc ?_ _));refine blk_put (cs := #[.slice none 0 0,.int .i64 0]) ?_ 0 _ rfl;(with_reducible repeat (first | refine blk_drewN ?_ _ | refine blk_drew ?_ | refine blk_alloc ?_ _));exact BK258.out) hb);have n2_ := Aside0.mk (below_step (by repeat (first | (with_reducible first | exact HB.out | apply below_alloc | apply pw_below_drewN | apply below_drew1 | refine below_set ?_ GE256.out | refine below_set ?_ GE258.out) | exact HB.out)) hb);clear BK256;clear BK258;clear HB;have BK256 := n0_;have BK258 := n1_;have HB := n2_;clear n0_ n1_ n2_;(try clear hb);(try clear hb2);(try clear hk);(try clear hi)))
                  go_roundg k1
                  case measure => have := HK1.out;omega
                  case rel => exact ⟨(wrap64 (x17_1 + 1)),(by first | rfl | (simp;done) | (simp [*];done)),H',⟨by have := HK1.out;omega⟩,⟨by repeat (first | (with_reducible first | exact HB.out | apply below_alloc | apply pw_below_drewN | apply below_drew1 | refine below_set ?_ GE256.out | refine below_set ?_ GE258.out) | exact HB.out)⟩⟩
                · replace c10 := Bool.eq_false_iff.mpr c10
                  subst c10
                  have H1 : (some false) = some r := by rw [if_neg (show ¬ (false = true) by decide)] at H;exact H
                  clear H
                  have H := H1
                  clear H1
                  obtain rfl := Option.some.inj H
                  have p255 : 0 ≤ (x17_1 : Int) := of_decide_eq_true (by first | (with_reducible assumption) | assumption)
                  have q255 : x17_1 < (l0.length : Int) := of_decide_eq_true (by first | (with_reducible assumption) | assumption)
                  obtain ⟨ad255,A255_0,c255_0,e255,hx255_0,hx255_1,hl255_0,hi255_0⟩ := at_T34 HR0.out x17_1 p255 q255
                  cases e255
                  replace hx255_0 := (HB.out.cell (World.block_lt_of_cell? w _ hx255_0)).trans hx255_0
                  replace hx255_1 := (HB.out.cell (World.block_lt_of_cell? w _ hx255_1)).trans hx255_1
                  have HR255_0 := Aside0.mk hi255_0
                  have HC255_0 := Aside0.mk hl255_0
                  clear hi255_0 hl255_0
                  replace p255 := eq_true p255
                  replace q255 := eq_true q255
                  go_wp2_with (first | ((with_reducible refine gate_dst (N := 8) rfl ?_);refine box_event ?hg (N := 8) ?hd (cs := #[.slice none 0 0,.int .i64 0]) (t := 34) ?hr ?_;(case hd => rfl);(case hg => rfl);(case hr => first | (go_simp;done) | (go_simp;rfl));intro gb256 hg w18 hbox hb;have n0_ := Aside0.mk (below_step (by repeat (first | (with_reducible first | exact HB.out | apply below_alloc | apply pw_below_drewN | apply below_drew1) | exact HB.out)) hb);have n1_ := Aside0.mk (hbox);have n2_ := Aside0.mk ((by rw [hg];exact (below_size (by repeat (first | (with_reducible first | exact HB.out | apply below_alloc | apply pw_below_drewN | apply below_drew1) | exact HB.out))) : w.heap.size ≤ gb256));have n3_ := Aside0.mk ((by rw [hg];exact (below_size (by repeat (first | (with_reducible first | exact HB.out | apply below_alloc | apply pw_below_drewN | apply below_drew1) | exact HB.out))) : w.heap.size ≤ gb256));clear HB;have HB := n0_;have BK256 := n1_;have GW256 := n2_;have GE256 := n3_;clear n0_ n1_ n2_ n3_;clear hb hbox hg;have hcz19_0 : w18.cell? ⟨gb256,0,none⟩ = some (.slice none 0 0) := (blk_cell BK256.out 0).trans rfl;have hcz19_1 : w18.cell? ⟨gb256,1,none⟩ = some (.int .i64 0) := (blk_cell BK256.out 1).trans rfl;have hfz19_0 := blk_frozen BK256.out 0;have hfz19_1 := blk_frozen BK256.out 1;have p257 : 0 ≤ (x17_1 : Int) := of_decide_eq_true (by first | (with_reducible assumption) | assumption);have q257 : x17_1 < (l1.length : Int) := of_decide_eq_true (by first | (with_reducible assumption) | assumption);obtain ⟨ad257,A257_0,c257_0,e257,hx257_0,hx257_1,hl257_0,hi257_0⟩ := at_T34 HR1.out x17_1 p257 q257;cases e257;have hn257_0 : ad257.block ≠ gb256 := Nat.ne_of_lt (Nat.lt_of_lt_of_le (by have := World.block_lt_of_cell? _ _ hx257_0;first | rwa [add_block] at this | exact this) GW256.out);have hn257_1 : ad257.block ≠ gb256 := Nat.ne_of_lt (Nat.lt_of_lt_of_le (by have := World.block_lt_of_cell? _ _ hx257_0;first | rwa [add_block] at this | exact this) GW256.out);replace hx257_0 := (HB.out.cell (World.block_lt_of_cell? w _ hx257_0)).trans hx257_0;replace hx257_1 := (HB.out.cell (World.block_lt_of_cell? w _ hx257_1)).trans hx257_1;have HR257_0 := Aside0.mk hi257_0;have HC257_0 := Aside0.mk hl257_0;clear hi257_0 hl257_0;replace hx257_0 := (cell_far (p := ⟨gb256,0,none⟩) (by first | (rw [add_block];exact hn257_0) | (show (Addr.add _ _).block ≠ _;rw [add_block];exact hn257_0) | exact hn257_0) (.slice A255_0 ((rd_T34 l0 x17_1).f0).length c255_0)).trans hx257_0;replace hx257_1 := (cell_far (p := ⟨gb256,0,none⟩) (by first | (rw [add_block];exact hn257_0) | (show (Addr.add _ _).block ≠ _;rw [add_block];exact hn257_0) | exact hn257_0) (.slice A255_0 ((rd_T34 l0 x17_1).f0).length c255_0)).trans hx257_1;replace hx257_0 := (cell_far (p := ⟨gb256,1,none⟩) (by first | (rw [add_block];exact hn257_1) | (show (Addr.add _ _).block ≠ _;rw [add_block];exact hn257_1) | exact hn257_1) (.int .i64 ((rd_T34 l0 x17_1).f1))).trans hx257_0;replace hx257_1 := (cell_far (p := ⟨gb256,1,none⟩) (by first | (rw [add_block];exact hn257_1) | (show (Addr.add _ _).block ≠ _;rw [add_block];exact hn257_1) | exact hn257_1) (.int .i64 ((rd_T34 l0 x17_1).f1))).trans hx257_1;clear hn257_0;clear hn257_1;replace p257 := eq_true p257;replace q257 := eq_true q257) | ((with_reducible refine gate_dst (N := 9) rfl ?_);refine box_event ?hg (N := 9) ?hd (cs := #[.slice none 0 0,.int .i64 0]) (t := 34) ?hr ?_;(case hd => rfl);(case hg => rfl);(case hr => first | (go_simp;done) | (go_simp;rfl));intro gb258 hg w20 hbox hb;have n0_ := Aside0.mk (blk_below (g := gb256) (o := .cells #[.slice A255_0 ((rd_T34 l0 x17_1).f0).length c255_0,.int .i64 ((rd_T34 l0 x17_1).f1)] 34 (0,0)) (by (with_reducible repeat (first | refine blk_drewN ?_ _ | refine blk_drew ?_ | refine blk_alloc ?_ _));refine blk_put (cs := #[.slice A255_0 ((rd_T34 l0 x17_1).f0).length c255_0,.int .i64 0]) ?_ 1 _ rfl;(with_reducible repeat (first | refine blk_drewN ?_ _ | refine blk_drew ?_ | refine blk_alloc ?_ _));refine blk_put (cs := #[.slice none 0 0,.int .i64 0]) ?_ 0 _ rfl;(with_reducible repeat (first | refine blk_drewN ?_ _ | refine blk_drew ?_ | refine blk_alloc ?_ _));exact BK256.out) hb);have n1_ := Aside0.mk (below_step (by repeat (first | (with_reducible first | exact HB.out | apply below_alloc | apply pw_below_drewN | apply below_drew1 | refine below_set ?_ GE256.out) | exact HB.out)) hb);have n2_ := Aside0.mk (hbox);have n3_ := Aside0.mk ((by rw [hg];exact (below_size (by repeat (first | (with_reducible first | exact HB.out | apply below_alloc | apply pw_below_drewN | apply below_drew1 | refine below_set ?_ GE256.out) | exact HB.out))) : w.heap.size ≤ gb258));have n4_ := Aside0.mk ((by rw [hg];exact (below_size (by repeat (first | (with_reducible first | exact HB.out | apply below_alloc | apply pw_below_drewN | apply below_drew1 | refine below_set ?_ GE256.out) | exact HB.out))) : w.heap.size ≤ gb258));have n5_ := Aside0.mk ((by rw [hg];exact Nat.ne_of_lt (blk_lt (g := gb256) (o := .cells #[.slice A255_0 ((rd_T34 l0 x17_1).f0).length c255_0,.int .i64 ((rd_T34 l0 x17_1).f1)] 34 (0,0)) (by (with_reducible repeat (first | refine blk_drewN ?_ _ | refine blk_drew ?_ | refine blk_alloc ?_ _));refine blk_put (cs := #[.slice A255_0 ((rd_T34 l0 x17_1).f0).length c255_0,.int .i64 0]) ?_ 1 _ rfl;(with_reducible repeat (first | refine blk_drewN ?_ _ | refine blk_drew ?_ | refine blk_alloc ?_ _));refine blk_put (cs := #[.slice none 0 0,.int .i64 0]) ?_ 0 _ rfl;(with_reducible repeat (first | refine blk_drewN ?_ _ | refine blk_drew ?_ | refine blk_alloc ?_ _));exact BK256.out)) : gb256 ≠ gb258));have n6_ := Aside0.mk ((by rw [hg];exact Nat.ne_of_gt (blk_lt (g := gb256) (o := .cells #[.slice A255_0 ((rd_T34 l0 x17_1).f0).length c255_0,.int .i64 ((rd_T34 l0 x17_1).f1)] 34 (0,0)) (by (with_reducible repeat (first | refine blk_drewN ?_ _ | refine blk_drew ?_ | refine blk_alloc ?_ _));refine blk_put (cs := #[.slice A255_0 ((rd_T34 l0 x17_1).f0).length c255_0,.int .i64 0]) ?_ 1 _ rfl;(with_reducible repeat (first | refine blk_drewN ?_ _ | refine blk_drew ?_ | refine blk_alloc ?_ _));refine blk_put (cs := #[.slice none 0 0,.int .i64 0]) ?_ 0 _ rfl;(with_reducible repeat (first | refine blk_drewN ?_ _ | refine blk_drew ?_ | refine blk_alloc ?_ _));exact BK256.out)) : gb258 ≠ gb256));clear BK256;clear HB;have BK256 := n0_;have HB := n1_;have BK258 := n2_;have GW258 := n3_;have GE258 := n4_;have NB256_258 := n5_;have NB258_256 := n6_;clear n0_ n1_ n2_ n3_ n4_ n5_ n6_;clear hb hbox hg;have hnb21 := NB258_256.out;have hnc21 := NB256_258.out;have hcz22_0 : w20.cell? ⟨gb258,0,none⟩ = some (.slice none 0 0) := (blk_cell BK258.out 0).trans rfl;have hcz22_1 : w20.cell? ⟨gb258,1,none⟩ = some (.int .i64 0) := (blk_cell BK258.out 1).trans rfl;have hfz22_0 := blk_frozen BK258.out 0;have hfz22_1 := blk_frozen BK258.out 1;have hcz23_0 : w20.cell? ⟨gb256,0,none⟩ = some (.slice A255_0 ((rd_T34 l0 x17_1).f0).length c255_0) := (blk_cell BK256.out 0).trans rfl;have hcz23_1 : w20.cell? ⟨gb256,1,none⟩ = some (.int .i64 ((rd_T34 l0 x17_1).f1)) := (blk_cell BK256.out 1).trans rfl;have hfz23_0 := blk_frozen BK256.out 0;have hfz23_1 := blk_frozen BK256.out 1) | ((with_reducible refine gate_tmp (n := 26) rfl ?_);refine goesT_ (some 29) rfl rfl Try.func73 (by kernel_rfl) rfl #[.agg #[.slice A255_0 ((rd_T34 l0 x17_1).f0).length c255_0,.int .i64 ((rd_T34 l0 x17_1).f1)],.agg #[.slice A257_0 ((rd_T34 l1 x17_1).f0).length c257_0,.int .i64 ((rd_T34 l1 x17_1).f1)]] rfl rfl (by (try simp only [List.map_toArray,List.map_cons,List.map_nil]);first | done | rfl | (simp only [List.length_drop,List.length_take];rfl)) ?_;(with_reducible refine (bag_Same_1.calls k1 _ _ ((rd_T34 l0 x17_1).f0) ((rd_T34 l0 x17_1).f1) _ _ ((rd_T34 l1 x17_1).f0) ((rd_T34 l1 x17_1).f1) false _ ?side1 ?side2 ?side3 ?side4 A9.out).mono ?_);(case side1 => exact Kd.C_below HR255_0.out (by repeat (first | (with_reducible first | exact HB.out | apply below_alloc | apply pw_below_drewN | apply below_drew1 | refine below_set ?_ GE256.out | refine below_set ?_ GE258.out) | exact HB.out)));(case side2 => exact HC255_0.out);(case side3 => exact Kd.C_below HR257_0.out (by repeat (first | (with_reducible first | exact HB.out | apply below_alloc | apply pw_below_drewN | apply below_drew1 | refine below_set ?_ GE256.out | refine below_set ?_ GE258.out) | exact HB.out)));(case side4 => exact HC257_0.out);rintro e w24 ⟨rfl,hb⟩;refine ⟨_,rfl,?_⟩;have n0_ := Aside0.mk (blk_below (g := gb256) (o := .cells #[.slice A255_0 ((rd_T34 l0 x17_1).f0).length c255_0,.int .i64 ((rd_T34 l0 x17_1).f1)] 34 (0,0)) (by (with_reducible repeat (first | refine blk_drewN ?_ _ | refine blk_drew ?_ | refine blk_alloc ?_ _));refine blk_far ?_ NB256_258.out _;(with_reducible repeat (first | refine blk_drewN ?_ _ | refine blk_drew ?_ | refine blk_alloc ?_ _));refine blk_far ?_ NB256_258.out _;(with_reducible repeat (first | refine blk_drewN ?_ _ | refine blk_drew ?_ | refine blk_alloc ?_ _));exact BK256.out) hb);have n1_ := Aside0.mk (blk_below (g := gb258) (o := .cells #[.slice A257_0 ((rd_T34 l1 x17_1).f0).length c257_0,.int .i64 ((rd_T34 l1 x17_1).f1)] 34 (0,0)) (by (with_reducible repeat (first | refine blk_drewN ?_ _ | refine blk_drew ?_ | refine blk_alloc ?_ _));refine blk_put (cs := #[.slice A257_0 ((rd_T34 l1 x17_1).f0).length c257_0,.int .i64 0]) ?_ 1 _ rfl;(with_reducible repeat (first | refine blk_drewN ?_ _ | refine blk_drew ?_ | refine blk_alloc ?_ _));refine blk_put (cs := #[.slice none 0 0,.int .i64 0]) ?_ 0 _ rfl;(with_reducible repeat (first | refine blk_drewN ?_ _ | refine blk_drew ?_ | refine blk_alloc ?_ _));exact BK258.out) hb);have n2_ := Aside0.mk (below_step (by repeat (first | (with_reducible first | exact HB.out | apply below_alloc | apply pw_below_drewN | apply below_drew1 | refine below_set ?_ GE256.out | refine below_set ?_ GE258.out) | exact HB.out)) hb);clear BK256;clear BK258;clear HB;have BK256 := n0_;have BK258 := n1_;have HB := n2_;clear n0_ n1_ n2_;(try clear hb);(try clear hb2);(try clear hk);(try clear hi)))
                  go_ret
                  exact ⟨by first | rfl | (simp [errW_none,errW_some] <;> rfl) | (simp [*,errW_none,errW_some] <;> rfl),by repeat (first | (with_reducible first | exact HB.out | apply below_alloc | apply pw_below_drewN | apply below_drew1 | refine below_set ?_ GE256.out | refine below_set ?_ GE258.out) | exact HB.out)⟩
              · rw [if_neg c8] at H
                exact absurd H (by simp)
            · rw [if_neg c7] at H
              exact absurd H (by simp)
          · rw [if_neg c6] at H
            exact absurd H (by simp)
        · rw [if_neg c5] at H
          have c5b0 : decide (x17_1 < (l0.length : Int)) = false := decide_eq_false c5
          clear c5
          obtain rfl := Option.some.inj H
          go_wp2
          go_ret
          exact ⟨by first | rfl | (simp [errW_none,errW_some] <;> rfl) | (simp [*,errW_none,errW_some] <;> rfl),by repeat (first | (with_reducible first | exact HB.out | apply below_alloc | apply pw_below_drewN | apply below_drew1) | exact HB.out)⟩
  · rw [if_neg c4] at H
    have c4b0 : ((l0.length : Int) == (l1.length : Int)) = false := beq_eq_false_iff_ne.mpr c4
    have c4b1 : ((l0.length : Int) != (l1.length : Int)) = true := bne_iff_ne.mpr c4
    have c4b2 : (l0.length == l1.length) = false := by first | simpa using c4 | (simp at c4 ⊢;omega)
    obtain rfl := Option.some.inj H
    go_enter Try.func72,Try.ntmps72
    go_wp2
    go_ret
    exact ⟨by first | rfl | (simp [errW_none,errW_some] <;> rfl) | (simp [*,errW_none,errW_some] <;> rfl),by repeat (first | (with_reducible first | exact HB.out | apply below_alloc | apply pw_below_drewN | apply below_drew1) | exact HB.out)⟩
end Go.Proofs.Ythmbfcfomcaaaaa.Z
end
section
namespace Go.Proofs.Ythmbfcfomcaaaaa.Z
set_option linter.unusedVariables false
set_option linter.unusedSimpArgs false
open Go.RowKit Go.Proofs.YthmbfcfomcaaaaaW.PrintWords Go.Proofs.YthmbfcfomcaaaaaW.PrintLast Go.Proofs.YthmbfcfomcaaaaaW.PrintMore Go.Proofs.Ythmbfcfomcaaaaa.Cmp
theorem rows_nil (w : World) : Calls Try.prog 34 #[.pointer none] w fun e w' => e = .returned (.slice none 0 0) ∧ w = w' := by
  go_enter Try.func34,Try.ntmps34
  go_wp2
  go_ret
  exact ⟨rfl,rfl⟩
end Go.Proofs.Ythmbfcfomcaaaaa.Z
end
section
namespace Go.Proofs.Ythmbfcfomcaaaaa.Z
set_option linter.unusedVariables false
set_option linter.unusedSimpArgs false
open Go.RowKit Go.Shelf Go.Proofs.YthmbfcfomcaaaaaW.PrintWords Go.Proofs.YthmbfcfomcaaaaaW.PrintLast Go.Proofs.YthmbfcfomcaaaaaW.PrintMore Go.Proofs.Ythmbfcfomcaaaaa.Cmp
attribute [local go_sem] Oper.semAt_some
end Go.Proofs.Ythmbfcfomcaaaaa.Z
end
section
namespace Go.Proofs.Ythmbfcfomcaaaaa.Z
set_option linter.unusedVariables false
set_option linter.unusedSimpArgs false
open Go.RowKit Go.Proofs.YthmbfcfomcaaaaaW.PrintWords Go.Proofs.YthmbfcfomcaaaaaW.PrintLast Go.Proofs.YthmbfcfomcaaaaaW.PrintMore Go.Proofs.Ythmbfcfomcaaaaa.Cmp
structure OnceAt (N : Nat) (w : World) (o b : Nat) (t : Tr) (D : Nat → Prop) : Prop where
  blk : w.heap[o]? = some (.cells #[.pointer (some ⟨b,0,none⟩)] 116 (0,0))
  bag : One N w b t D
  o_le : N ≤ o
  o_not : ¬ BagOwn b t D o
def OnceOwn (o b : Nat) (t : Tr) (D : Nat → Prop) (k : Nat) : Prop := k = o ∨ BagOwn b t D k
theorem OnceAt.lt {N w o b t D} (h : OnceAt N w o b t D) : ∀ k,OnceOwn o b t D k → k < w.heap.size := fun k hk => hk.elim (fun e => by subst e;exact blk_lt h.blk) (h.bag.bag.own_lt k)
theorem OnceAt.below {N : Nat} {w w1 : World} {o b : Nat} {t : Tr} {D : Nat → Prop} (h : OnceAt N w o b t D) (hb : Below w.heap.size w w1) : OnceAt N w1 o b t D := ⟨blk_below h.blk hb,h.bag.below hb,h.o_le,h.o_not⟩
theorem OnceAt.keep {N : Nat} {w w1 : World} {o b : Nat} {t : Tr} {D S : Nat → Prop} (h : OnceAt N w o b t D) (hc : Ch S w w1) (hS : ∀ k,S k → ¬ OnceOwn o b t D k) : OnceAt N w1 o b t D :=
  ⟨hc.blk h.blk (fun s => hS _ s (.inl rfl)),⟨h.bag.bag.keep hc (fun k s q => hS k s (.inr q)),h.bag.own⟩,h.o_le,h.o_not⟩
set_option maxHeartbeats 1000000 in
theorem once_new (w : World) : Calls Try.prog 47 #[] w fun e w' => ∃ o b,e = .returned (.pointer (some ⟨o,0,none⟩)) ∧ OnceAt w.heap.size w' o b .nil (fun _ => False) ∧ Below w.heap.size w w' := by
  obtain ⟨N,hN⟩ : ∃ N,w.heap.size = N := ⟨_,rfl⟩
  have I0 := Aside0.mk (NextW.refl w)
  rw [hN] at I0 ⊢
  have HN := Aside0.mk hN
  clear hN
  go_enter Try.func47,Try.ntmps47
  go_wp2_with (fail)
  refine (bag_new1 w).mono ?_
  rintro e w1 ⟨b,rfl,h1,hb⟩
  have T1 := Aside0.mk (show One N w1 b .nil (fun _ => False) from ⟨h1.bag,fun k hk => HN.out ▸ h1.own k hk⟩)
  have I1 := Aside0.mk (I0.out.next hb)
  clear h1 hb I0
  go_wp2_with (fail)
  go_ret
  exact ⟨_,b,rfl,⟨blk_new w1 _,T1.out.below (below_alloc (Below.refl _ _) _),I1.out.le,fun q => absurd (T1.out.bag.own_lt _ q) (Nat.lt_irrefl _)⟩,(I1.out.next (below_alloc (Below.refl _ _) _)).at_⟩
def netD (l : List En) : List En := if (ofD l []).1 = 0 then (ofD l []).2 else []
set_option maxHeartbeats 2000000 in
set_option maxRecDepth 100000 in
theorem net_at (A : Option Addr) (n c : Nat) (l : List En) (w : World) (hl : Kd.C k34 w A n l) (hn : n ≤ 1000) :
    Calls Try.prog 56 #[.slice A n c] w fun e w' => ∃ v,e = .returned (.tuple #[v,.int .i64 (ofD l []).1]) ∧ Kd.R k34 34 w' w.heap.size (fun _ => True) v (netD l) ∧ Below w.heap.size w w' := by
  have HO := Aside0.mk (bag_of A n c l w hl hn)
  unfold netD
  obtain ⟨⟨q,L⟩,hq⟩ : ∃ x,ofD l [] = x := ⟨_,rfl⟩
  rw [hq] at HO ⊢
  simp only at HO ⊢
  obtain ⟨R,hR⟩ : ∃ R,(if q = 0 then L else []) = R := ⟨_,rfl⟩
  have HR := Aside0.mk hR
  rw [hR]
  clear hl hq hR
  go_enter Try.func56,Try.ntmps56
  go_wp2_with (fail)
  refine HO.out.mono ?_
  rintro e w1 ⟨p,q',L',he,rfl,hb,h1,h2⟩
  obtain ⟨rfl,rfl⟩ : q = q' ∧ L = L' := by injection he with e1 e2;exact ⟨e1,e2⟩
  have B1 := Aside0.mk hb
  by_cases h0 : q = 0
  · obtain ⟨b,t,D,rfl,hd,hll,hT⟩ := h2 h0
    have T1 := Aside0.mk hT
    have DT := Aside0.mk hd
    have LL := Aside0.mk hll
    subst h0
    have HR2 := Aside0.mk (show L = R by have := HR.out;rw [if_pos rfl] at this;exact this)
    clear hb h1 h2 hd hll hT HO he HR
    go_wp2_with (fail)
    refine (bag_rows b t w1 T1.out.bag (by rw [← doc_len,DT.out];have := LL.out;omega)).mono ?_
    rintro e w2 ⟨v,rfl,hv,hb⟩
    have HV := Aside0.mk (Kd.R_lower hv B1.out.size)
    have B2 := Aside0.mk (B1.out.trans (hb.mono B1.out.size))
    clear hv hb
    go_wp2_with (fail)
    go_ret2
    exact ⟨v,rfl,by have := HV.out;rw [DT.out,HR2.out] at this;exact this,B2.out⟩
  · obtain rfl := h1 h0
    obtain rfl : [] = R := by have := HR.out;rw [if_neg h0] at this;exact this
    clear hb h1 h2 HO he h0 HR
    go_wp2_with (fail)
    refine (rows_nil w1).mono ?_
    rintro e w2 ⟨rfl,rfl⟩
    go_wp2_with (fail)
    go_ret2
    exact ⟨_,rfl,Kd.R_nil _ _ _ _ _,B1.out⟩
set_option maxHeartbeats 8000000 in
set_option maxRecDepth 100000 in
theorem once_may {N : Nat} {o b : Nat} {t : Tr} {D : Nat → Prop} (A : Option Addr) (n c : Nat) (net L : List En) (w : World) (h : OnceAt N w o b t D) (hd : docT t = L) (hl : L.length ≤ 100000) (hn : Kd.C k34 w A n net) (kn : OkD net) (hn2 : n ≤ 1000) :
    Calls Try.prog 86 #[.pointer (some ⟨o,0,none⟩),.slice A n c] w fun e w' => e = .returned (.int .i64 (mayD L net L.length)) ∧ Below w.heap.size w w' := by
  have HA := Aside0.mk h
  have DT := Aside0.mk hd
  have LL := Aside0.mk hl
  have HN := Aside0.mk hn
  have KN := Aside0.mk kn
  have LN := Aside0.mk (show net.length = n from hn.1)
  have KL := Aside0.mk (show OkD L by rw [← hd];exact h.bag.bag.ok)
  have BL := Aside0.mk (bag_len b t w h.bag.bag)
  rw [hd] at BL
  have o0 := (blk_cell h.blk 0).trans rfl
  obtain ⟨res,hres⟩ : ∃ res,mayD L net L.length = res := ⟨_,rfl⟩
  have RES := Aside0.mk hres
  rw [hres]
  clear h hd hl hn kn hres
  go_enter Try.func86,Try.ntmps86
  go_wp2_with (fail)
  refine BL.out.mono ?_
  rintro e w1 ⟨rfl,rfl⟩
  obtain ⟨ρ,hρ⟩ : ∃ ρ : Int,(L.length : Int) = ρ := ⟨_,rfl⟩
  have RHO := Aside0.mk hρ
  rw [hρ]
  rw [hρ] at RES
  clear BL hρ
  go_wp2_with (fail)
  go_loopw [5,8,9,17] (fun rv _ _ iv wr => ∃ (i : Nat) (r : Int),rv = .int .i64 r ∧ iv = .int .i64 (i : Int) ∧ i ≤ n ∧ Aside0 (mayD L (net.drop i) r = res ∧ ρ - i ≤ r ∧ r ≤ ρ + i) ∧ Aside0 (Below w.heap.size w wr)) (fun _ _ _ iv _ => n - (intOf iv).toNat)
  case atStart => exact ⟨0,ρ,rfl,rfl,Nat.zero_le _,⟨by rw [List.drop_zero];exact RES.out,by omega,by omega⟩,⟨Below.refl _ _⟩⟩
  case round =>
    obtain ⟨i,r,rfl,rfl,hi,AL,IB⟩ := hrel
    have r0 : -2000 ≤ r := by have := AL.out.2;have := RHO.out;have := LN.out;omega
    have r1 : r ≤ 200000 := by have := AL.out.2;have := RHO.out;have := LL.out;omega
    by_cases hin : i < n
    · have k0 : decide ((i : Int) < (n : Int)) = true := decide_eq_true (by omega)
      have k0' : decide (i < n) = true := decide_eq_true hin
      have p0 : (0 : Int) ≤ (i : Int) := by omega
      have p1 : (i : Int) < (n : Int) := by omega
      obtain ⟨x,hx⟩ : ∃ x,net[i]? = some x := ⟨net[i]'(by have := LN.out;omega),List.getElem?_eq_getElem _⟩
      obtain ⟨ad,Ax,cx,e1,x0,x1,hxc⟩ := ent_get (Kd.C_below HN.out IB.out) hin hx
      subst e1
      have XC := Aside0.mk hxc
      have XO := Aside0.mk (KN.out x (List.mem_of_getElem? hx))
      have LD := Aside0.mk (show net.drop i = x :: net.drop (i + 1) by
        have hil : i < net.length := by have := LN.out;omega
        rw [List.drop_eq_getElem_cons hil]
        rw [List.getElem?_eq_getElem hil] at hx
        rw [Option.some.inj hx])
      clear hx hxc
      obtain ⟨xr,xm⟩ := x
      simp only at *
      have BM := Aside0.mk (fun W (hb : Below w.heap.size w W) (hr : RowC W Ax cx xr) => bag_many b t Ax cx xr W (HA.out.bag.bag.below hb) hr)
      have QB := Aside0.mk (many_bd (r := xr) KL.out)
      rw [DT.out] at BM
      obtain ⟨q,hq⟩ : ∃ q,manyD xr L = q := ⟨_,rfl⟩
      rw [hq] at BM QB
      have AL2 := Aside0.mk (show (if q + xm < 0 ∨ 1073741824 < q + xm then 10 else mayD L (net.drop (i + 1)) (if q = 0 then r + 1 else if q + xm = 0 then r - 1 else r)) = res by
        have := AL.out.1
        rw [LD.out] at this
        simp only [mayD] at this
        rw [hq] at this
        exact this)
      have q0 := QB.out.1
      have q1 := QB.out.2
      have m0 := XO.out.2.2.1
      have m1 := XO.out.2.2.2
      clear hq
      go_wp2_with (fail)
      have BA := below_alloc (Below.refl wr.heap.size wr) (Obj.cells #[.slice Ax xr.length cx,.int .i64 xm] 34)
      have XC5 := Aside0.mk (XC.out.below BA)
      have IB5 := Aside0.mk (IB.out.trans (BA.mono IB.out.size))
      have e0 := (blk_cell (blk_new wr (Obj.cells #[.slice Ax xr.length cx,.int .i64 xm] 34)) 0).trans rfl
      have e1 := (blk_cell (blk_new wr (Obj.cells #[.slice Ax xr.length cx,.int .i64 xm] 34)) 1).trans rfl
      obtain ⟨g,hg⟩ : ∃ g,wr.heap.size = g := ⟨_,rfl⟩
      rw [hg] at e0 e1 ⊢
      clear BA x0 x1 IB XC hg
      generalize wr.alloc (Obj.cells #[.slice Ax xr.length cx,.int .i64 xm] 34) = w5 at *
      have o5 := (IB5.out.cell (World.block_lt_of_cell? _ _ o0)).trans o0
      go_region_held3 (fun w' => w'.cell? ⟨o,0,none⟩ = some (.pointer (some ⟨b,0,none⟩)) ∧ w'.cell? ⟨g,0,none⟩ = some (.slice Ax xr.length cx)) (first | go_keep | exact ⟨by assumption,by assumption⟩) (first
        | (go_at_call 18;(with_reducible refine (BM.out _ ?_ ?_).mono ?_);exact ⟨IB5.out.os,IB5.out.tape,IB5.out.output,IB5.out.size,IB5.out.block⟩;exact XC5.out.below ((SameW.drew w5).below _);rintro e w6 ⟨rfl,hb⟩;replace o5 := (hb.cell (World.block_lt_of_cell? _ _ o5)).trans o5;replace e0 := (hb.cell (World.block_lt_of_cell? _ _ e0)).trans e0;replace e1 := (hb.cell (World.block_lt_of_cell? _ _ e1)).trans e1;have IB6 := Aside0.mk (IB5.out.trans (((SameW.drew w5).below _).trans (hb.mono IB5.out.size)));clear hb IB5 XC5))
      by_cases c0 : q + xm < 0
      · have d0 : decide (q + xm < 0) = true := decide_eq_true c0
        obtain rfl : (10 : Int) = res := by have := AL2.out;rw [if_pos (.inl c0)] at this;exact this
        clear c0
        go_wp2_with (fail)
        go_ret
        exact ⟨rfl,IB6.out⟩
      · have d0 : decide (q + xm < 0) = false := decide_eq_false c0
        by_cases c1 : 1073741824 < q + xm
        · have d1 : decide (1073741824 < q + xm) = true := decide_eq_true c1
          obtain rfl : (10 : Int) = res := by have := AL2.out;rw [if_pos (.inr c1)] at this;exact this
          clear c0 c1
          go_wp2_with (fail)
          go_ret
          exact ⟨rfl,IB6.out⟩
        · have d1 : decide (1073741824 < q + xm) = false := decide_eq_false c1
          have AL3 := Aside0.mk (AL2.out ▸ (if_neg (by omega)).symm : mayD L (net.drop (i + 1)) (if q = 0 then r + 1 else if q + xm = 0 then r - 1 else r) = res)
          have AB := Aside0.mk AL.out.2
          clear AL2 AL c0 c1
          by_cases c2 : q = 0
          · have d2 : (q == 0) = true := by simp [c2]
            have AL4 := Aside0.mk (show mayD L (net.drop (i + 1)) (r + 1) = res by have := AL3.out;rw [if_pos c2] at this;exact this)
            clear c2
            go_wp2_with (fail)
            go_roundw
            case rel => exact ⟨i + 1,r + 1,rfl,by go_num,hin,⟨AL4.out,by have := AB.out;omega,by have := AB.out;omega⟩,IB6⟩
            case measure => simp [intOf];omega
          · have d2 : (q == 0) = false := by simp [c2]
            by_cases c3 : q + xm = 0
            · have d3 : (q + xm == 0) = true := by simp [c3]
              have AL4 := Aside0.mk (show mayD L (net.drop (i + 1)) (r - 1) = res by have := AL3.out;rw [if_neg c2,if_pos c3] at this;exact this)
              clear c2 c3
              go_wp2_with (fail)
              go_roundw
              case rel => exact ⟨i + 1,r - 1,rfl,by go_num,hin,⟨AL4.out,by have := AB.out;omega,by have := AB.out;omega⟩,IB6⟩
              case measure => simp [intOf];omega
            · have d3 : (q + xm == 0) = false := by simp [c3]
              have AL4 := Aside0.mk (show mayD L (net.drop (i + 1)) r = res by have := AL3.out;rw [if_neg c2,if_neg c3] at this;exact this)
              clear c2 c3
              go_wp2_with (fail)
              go_roundw
              case rel => exact ⟨i + 1,r,rfl,by go_num,hin,⟨AL4.out,by have := AB.out;omega,by have := AB.out;omega⟩,IB6⟩
              case measure => simp [intOf];omega
    · have k0 : decide ((i : Int) < (n : Int)) = false := decide_eq_false (by omega)
      have k0' : decide (i < n) = false := decide_eq_false hin
      have ME := Aside0.mk (show (if 1500 < r then (6 : Int) else 0) = res by
        have := AL.out.1
        rw [List.drop_of_length_le (by have := LN.out;omega)] at this
        exact this)
      clear AL
      by_cases c0 : 1500 < r
      · have d0 : decide ((1500 : Int) < r) = true := decide_eq_true c0
        obtain rfl : (6 : Int) = res := by have := ME.out;rw [if_pos c0] at this;exact this
        clear c0
        go_wp2_with (fail)
        go_ret
        exact ⟨rfl,IB.out⟩
      · have d0 : decide ((1500 : Int) < r) = false := decide_eq_false c0
        obtain rfl : (0 : Int) = res := by have := ME.out;rw [if_neg c0] at this;exact this
        clear c0
        go_wp2_with (fail)
        go_ret
        exact ⟨rfl,IB.out⟩
end Go.Proofs.Ythmbfcfomcaaaaa.Z
end
section
namespace Go.Proofs.Ythmbfcfomcaaaaa.Z
set_option linter.unusedVariables false
set_option linter.unusedSimpArgs false
open Go.RowKit Go.Proofs.YthmbfcfomcaaaaaW.PrintWords Go.Proofs.YthmbfcfomcaaaaaW.PrintLast Go.Proofs.YthmbfcfomcaaaaaW.PrintMore Go.Proofs.Ythmbfcfomcaaaaa.Cmp
end Go.Proofs.Ythmbfcfomcaaaaa.Z
end
section
namespace Go.Proofs.Ythmbfcfomcaaaaa.Z
set_option linter.unusedVariables false
set_option linter.unusedSimpArgs false
open Go.RowKit Go.Proofs.YthmbfcfomcaaaaaW.PrintWords Go.Proofs.YthmbfcfomcaaaaaW.PrintLast Go.Proofs.YthmbfcfomcaaaaaW.PrintMore Go.Proofs.Ythmbfcfomcaaaaa.Cmp
theorem mul_len (m : Int) : ∀ (O L : List En),SrtD L → OkD L → (mulD m O L).length ≤ L.length + O.length
  | [],L,_,_ => Nat.le_refl _
  | e :: O,L,hs,hk => by
    obtain ⟨i1,i2⟩ := addD_inv (r := e.f0) (m := e.f1 * m) hs hk
    have h1 := mul_len m O (addD e.f0 (e.f1 * m) L).2 i1 i2
    have h2 := addD_len e.f0 (e.f1 * m) hs
    simp only [mulD,List.length_cons]
    omega
theorem row_F {w : World} {A : Option Addr} {n : Nat} {r : Rw} (h : Kd.C k66 w A n r) : Kd.F k66 w (fun k => k < w.heap.size) A n r := fun W' hW => ⟨h.1,h.2.1,fun hn => by
  obtain ⟨ad,e,hc⟩ := h.2.2 hn
  refine ⟨ad,e,fun j p hj => ?_⟩
  obtain ⟨c,hl,hK,hcell⟩ := hc j p hj
  refine ⟨c,hl,by rw [k66_open hK];exact k66_mk W' p,fun i u hi => ?_⟩
  have h1 := hcell i u hi
  have hlt := World.block_lt_of_cell? w _ h1
  have e2 := hW _ hlt hlt
  have e3 : W'.cell? (ad.add (j * k66.sz + i)) = w.cell? (ad.add (j * k66.sz + i)) := by unfold World.cell?;rw [e2]
  exact e3.trans h1⟩
end Go.Proofs.Ythmbfcfomcaaaaa.Z
end
section
namespace Go.Proofs.Ythmbfcfomcaaaaa.Z
set_option linter.unusedVariables false
set_option linter.unusedSimpArgs false
open Go.RowKit Go.Proofs.YthmbfcfomcaaaaaW.PrintWords Go.Proofs.YthmbfcfomcaaaaaW.PrintLast Go.Proofs.YthmbfcfomcaaaaaW.PrintMore Go.Proofs.Ythmbfcfomcaaaaa.Cmp
structure OneR (N : Nat) (w : World) (g : Nat) (A : Option Addr) (c : Nat) (L : List En) (E : Nat → Prop) : Prop where
  ref : RefV w g A c L E
  g_le : N ≤ g
  e_le : ∀ k,E k → N ≤ k
theorem OneR.below {N : Nat} {w w1 : World} {g : Nat} {A : Option Addr} {c : Nat} {L : List En} {E : Nat → Prop} (h : OneR N w g A c L E) (hb : Below w.heap.size w w1) : OneR N w1 g A c L E := ⟨h.ref.below hb,h.g_le,h.e_le⟩
theorem OneR.reffed {N : Nat} {w w1 : World} {g : Nat} {A A' : Option Addr} {c c' : Nat} {L L' : List En} {E E' : Nat → Prop} (h : OneR N w g A c L E) (hN : N ≤ w.heap.size) (ha : RefV w1 g A' c' L' E') (hc : RefCh w w1 g E E') : OneR N w1 g A' c' L' E' ∧ Below N w w1 :=
  ⟨⟨ha,h.g_le,fun k hk => (hc.dat k hk).elim (h.e_le k) (fun q => by omega)⟩,hc.ch.toBelow hN (fun k s => by subst s;exact h.g_le)⟩
theorem ref_box {N : Nat} (w : World) (hN : N ≤ w.heap.size) : OneR N (w.alloc (Obj.cells #[.slice none 0 0] 30)) w.heap.size none 0 [] (fun _ => False) :=
  ⟨⟨blk_new w _,Nat.le_refl 0,Kd.F_nil _ _ _,fun q => q,fun _ q => q.elim⟩,hN,fun _ q => q.elim⟩
theorem radd1 {N : Nat} {w0 : World} {E : Nat → Prop} {g : Nat} {A A1 : Option Addr} {c c1 : Nat} {r : Rw} (m : Int) {w W : World} {L L' : List En} {q : Int} (h : OneR N w g A1 c1 L E) (hN : NextW N w0 w) (e : SameW w W) (hr : RowC W A c r) (h1 : SrtD L) (h2 : OkD L) (hs : L.length ≤ 1000000) (ha : addD r m L = (q,L')) :
    Calls Try.prog 17 #[.pointer (some ⟨g,0,none⟩),.slice A r.length c,.int .i64 m] W fun e w' => ∃ A' c' E',e = .returned (.int .i64 q) ∧ OneR N w' g A' c' L' E' ∧ NextW N w0 w' ∧ Below N W w' ∧ RefCh W w' g E E' := by
  have hN' : N ≤ W.heap.size := by rw [e.heap];exact hN.le
  refine (ref_add g A1 c1 L A c r m W (h.ref.below (e.below _)) h1 h2 hr hs).mono ?_
  rintro e' w1 ⟨A',c',E',rfl,h3,h4⟩
  rw [ha] at h3 ⊢
  obtain ⟨i1,i2⟩ := (h.below (e.below _)).reffed hN' h3 h4
  exact ⟨A',c',E',rfl,i1,hN.nextN i2 e,i2,h4⟩
set_option maxHeartbeats 8000000 in
set_option maxRecDepth 100000 in
theorem ref_of (A : Option Addr) (n c : Nat) (l : List En) (w : World) (hl : Kd.C k34 w A n l) (hn : n ≤ 1000) :
    Calls Try.prog 29 #[.slice A n c] w fun e w' => ∃ p q L,ofD l [] = (q,L) ∧ e = .returned (.tuple #[.pointer p,.int .i64 q]) ∧ Below w.heap.size w w' ∧ (q ≠ 0 → p = none) ∧ (q = 0 → ∃ g A c E,p = some ⟨g,0,none⟩ ∧ L.length ≤ n ∧ SrtD L ∧ OkD L ∧ OneR w.heap.size w' g A c L E) := by
  have HL := Aside0.mk hl
  have LN := Aside0.mk (show l.length = n from hl.1)
  obtain ⟨N,hN⟩ : ∃ N,w.heap.size = N := ⟨_,rfl⟩
  have I0 := Aside0.mk (NextW.refl w)
  have HN := Aside0.mk hN
  rw [hN] at I0 ⊢
  clear hl hN
  go_enter Try.func29,Try.ntmps29
  go_upto_region 2 with (fail)
  have T3 := Aside0.mk (ref_box w I0.out.le)
  have I3 := Aside0.mk (I0.out.next (below_alloc (Below.refl w.heap.size w) (Obj.cells #[.slice none 0 0] 30)))
  obtain ⟨g,hg⟩ : ∃ g,w.heap.size = g := ⟨_,rfl⟩
  rw [hg] at T3 ⊢
  clear I0 hg
  generalize w.alloc (Obj.cells #[.slice none 0 0] 30) = w3 at *
  go_wp2_with (fail)
  go_loopw [5] (fun iv wr => ∃ i : Nat,iv = .int .i64 (i : Int) ∧ i ≤ n ∧ Aside0 (∃ A c L E,L.length ≤ i ∧ SrtD L ∧ OkD L ∧ OneR N wr g A c L E ∧ ofD l [] = ofD (l.drop i) L) ∧ Aside0 (NextW N w wr)) (fun iv _ => n - (intOf iv).toNat)
  case atStart => exact ⟨0,rfl,Nat.zero_le _,⟨⟨none,0,[],_,Nat.le_refl 0,List.Pairwise.nil,(fun x hx => by cases hx),T3.out,rfl⟩⟩,I3⟩
  case round =>
    clear T3 I3
    obtain ⟨i,rfl,hi,TT,I4⟩ := hrel
    obtain ⟨A4,c4,L,E,hlen,hs,hk,hT,hof⟩ := TT.out
    have LL := Aside0.mk hlen
    have SR := Aside0.mk hs
    have OK := Aside0.mk hk
    have T4 := Aside0.mk hT
    have OF := Aside0.mk hof
    clear TT hlen hs hk hT hof
    by_cases hin : i < n
    · have k0 : decide ((i : Int) < (n : Int)) = true := decide_eq_true (by omega)
      have k0' : decide (i < n) = true := decide_eq_true hin
      have p0 : (0 : Int) ≤ (i : Int) := by omega
      have p1 : (i : Int) < (n : Int) := by omega
      obtain ⟨x,hx⟩ : ∃ x,l[i]? = some x := ⟨l[i]'(by have := LN.out;omega),List.getElem?_eq_getElem _⟩
      obtain ⟨ad,Ax,cx,e1,x0,x1,hxc⟩ := ent_get HL.out hin hx
      subst e1
      have XC := Aside0.mk hxc
      have X0 := Aside0.mk (And.intro x0 x1)
      have LD := Aside0.mk (show l.drop i = x :: l.drop (i + 1) by
        have hil : i < l.length := by have := LN.out;omega
        rw [List.drop_eq_getElem_cons hil]
        rw [List.getElem?_eq_getElem hil] at hx
        rw [Option.some.inj hx])
      replace x0 := (I4.out.below.cell (HN.out ▸ World.block_lt_of_cell? w _ x0)).trans x0
      replace x1 := (I4.out.below.cell (HN.out ▸ World.block_lt_of_cell? w _ x1)).trans x1
      have XB := Aside0.mk (fun W (hb : Below N w W) => show RowC W Ax cx x.f0 from XC.out.below (HN.out ▸ hb))
      clear hx hxc
      obtain ⟨xr,xm⟩ := x
      simp only at *
      obtain ⟨⟨q,L1⟩,hq⟩ : ∃ q,addD xr xm L = q := ⟨_,rfl⟩
      have AD := Aside0.mk hq
      have B1 := Aside0.mk (show L.length ≤ 1000000 by have := LL.out;omega)
      clear hq
      go_wp2_with (fail)
      go_region_held3 (fun w' => w'.cell? (ad.add (i * 2)) = some (.slice Ax xr.length cx) ∧ w'.cell? ⟨(ad.add (i * 2)).block,(ad.add (i * 2)).off + 1,none⟩ = some (.int .i64 xm)) (first | go_keep | exact ⟨by assumption,by assumption⟩) (first
        | (go_at_call 17;(with_reducible refine (radd1 xm T4.out I4.out ?_ (XB.out _ ?_) SR.out OK.out B1.out AD.out).mono ?_);exact ⟨rfl,rfl,rfl,rfl⟩;exact I4.out.at_;rintro e w5 ⟨A5,c5,E5,rfl,h5,i5,b5,_⟩;replace x0 := (b5.cell (HN.out ▸ World.block_lt_of_cell? w _ X0.out.1)).trans x0;replace x1 := (b5.cell (HN.out ▸ World.block_lt_of_cell? w _ X0.out.2)).trans x1;have T5 := Aside0.mk h5;have I5 := Aside0.mk i5;clear h5 i5 b5))
      all_goals (
        clear T4 I4 x0 x1
        have OF2 := Aside0.mk (show ofD l [] = if q = 0 then ofD (l.drop (i + 1)) L1 else (q,L) by
          rw [OF.out,LD.out]
          show (if (addD xr xm L).1 = 0 then ofD (l.drop (i + 1)) (addD xr xm L).2 else ((addD xr xm L).1,L)) = _
          rw [AD.out])
        have LL1 := Aside0.mk (show L1.length ≤ i + 1 by have := addD_len xr xm SR.out;rw [AD.out] at this;have := LL.out;simp only at *;omega)
        have SR1 := Aside0.mk (show SrtD L1 ∧ OkD L1 by have := addD_inv (r := xr) (m := xm) SR.out OK.out;rw [AD.out] at this;exact this)
        by_cases hq : q = 0
        · subst hq
          go_wp2_with (fail)
          go_roundw
          case rel => exact ⟨i + 1,by go_num,hin,⟨⟨A5,c5,L1,E5,LL1.out,SR1.out.1,SR1.out.2,T5.out,by have h := OF2.out;simpa using h⟩⟩,I5⟩
          case measure => simp [intOf];omega
        · have q1 : (q != 0) = true := by simp [hq]
          go_wp2_with (fail)
          go_ret2
          have e1 := OF2.out
          rw [if_neg hq] at e1
          exact ⟨none,q,L,e1,rfl,I5.out.at_,fun _ => rfl,fun h => absurd h hq⟩)
    · have k0 : decide ((i : Int) < (n : Int)) = false := decide_eq_false (by omega)
      have k0' : decide (i < n) = false := decide_eq_false hin
      go_wp2_with (fail)
      go_ret2
      have e1 := OF.out
      rw [List.drop_of_length_le (by have := LN.out;omega)] at e1
      exact ⟨some ⟨g,0,none⟩,0,L,e1,rfl,I4.out.at_,fun h => absurd rfl h,fun _ => ⟨g,A4,c4,E,rfl,by have := LL.out;omega,SR.out,OK.out,T4.out⟩⟩
end Go.Proofs.Ythmbfcfomcaaaaa.Z
end
section
namespace Go.Proofs.Ythmbfcfomcaaaaa.Z
set_option linter.unusedVariables false
set_option linter.unusedSimpArgs false
open Go.RowKit Go.Proofs.YthmbfcfomcaaaaaW.PrintWords Go.Proofs.YthmbfcfomcaaaaaW.PrintLast Go.Proofs.YthmbfcfomcaaaaaW.PrintMore Go.Proofs.Ythmbfcfomcaaaaa.Cmp
theorem RefCh.trans {w w1 w2 : World} {g : Nat} {E E1 E2 : Nat → Prop} (h : RefCh w w1 g E E1) (k : RefCh w1 w2 g E1 E2) : RefCh w w2 g E E2 :=
  ⟨h.ch.then_ k.ch (fun j s => .inl s),fun j hj => (k.dat j hj).elim (h.dat j) (fun q => .inr (Nat.le_trans h.ch.size q))⟩
theorem cell_of {w w' : World} {a : Addr} (h : w'.heap[a.block]? = w.heap[a.block]?) : w'.cell? a = w.cell? a := by unfold World.cell?;rw [h]
theorem add_block (a : Addr) (n : Nat) : (a.add n).block = a.block := by unfold Addr.add;split <;> rfl
end Go.Proofs.Ythmbfcfomcaaaaa.Z
end
