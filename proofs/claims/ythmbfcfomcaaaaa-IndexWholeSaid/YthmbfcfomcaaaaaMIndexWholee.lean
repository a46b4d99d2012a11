/- Parts of the proof of IndexWhole: what its functions answer. -/
import Derived.Test.YthmbfcfomcaaaaaMIndexWholea
import Derived.Test.YthmbfcfomcaaaaaMIndexWholeb
import Derived.Test.YthmbfcfomcaaaaaMIndexWholec
import Derived.Test.YthmbfcfomcaaaaaMIndexWholed
import Derived.Deep.Cut
import Derived.Deep.RegionHeld3
section
namespace Go.Proofs.Ythmbfcfomcaaaaa.Z
set_option linter.unusedVariables false
set_option linter.unusedSimpArgs false
open Go.RowKit Go.Proofs.YthmbfcfomcaaaaaW.PrintWords Go.Proofs.YthmbfcfomcaaaaaW.PrintLast Go.Proofs.YthmbfcfomcaaaaaW.PrintMore Go.Proofs.Ythmbfcfomcaaaaa.Cmp
structure RefCh (w w' : World) (g : Nat) (D D' : Nat → Prop) : Prop where
  ch : Ch (fun k => k = g) w w'
  dat : ∀ k,D' k → D k ∨ w.heap.size ≤ k
theorem ch_grown {w w1 : World} {S : Nat → Prop} {row : Option Nat} (hg : w.grownBy w1 row) (hr : ∀ k,row = some k → S k) : Ch S w w1 := ⟨hg.os,hg.tape,hg.output,hg.size,fun k hk hn => hg.block k hk (fun e => hn (hr k e.symm))⟩
theorem own_new {v1 : Value} {N : Nat} (h : v1.ownBlock = (Value.slice none 0 0).ownBlock ∨ ∃ b,v1.ownBlock = some b ∧ N ≤ b) : ∀ k,v1.ownBlock = some k → N ≤ k := fun k e => by
  rcases h with h | ⟨b,h,hb⟩
  · rw [h] at e;simp [Value.ownBlock] at e
  · rw [h] at e;injection e with e;omega
theorem own_new2 {v1 v2 : Value} {N M : Nat} (h1 : ∀ k,v1.ownBlock = some k → N ≤ k) (hm : N ≤ M) (h : v2.ownBlock = v1.ownBlock ∨ ∃ b,v2.ownBlock = some b ∧ M ≤ b) : ∀ k,v2.ownBlock = some k → N ≤ k := fun k e => by
  rcases h with h | ⟨b,h,hb⟩
  · rw [h] at e;exact h1 k e
  · rw [h] at e;injection e with e;omega
theorem RefCh.same {w w' : World} {g : Nat} {D : Nat → Prop} (h : Below w.heap.size w w') : RefCh w w' g D D := ⟨Ch.of_below h,fun _ h => .inl h⟩
theorem rright_at (A : Option Addr) (c : Nat) (r : Rw) (w : World) (hr : RowC w A c r) : Calls Try.prog 65 #[.slice A r.length c] w fun e w' => e = .returned (.bool (rright r)) ∧ Below w.heap.size w w' :=
  verdererref02_Right.calls 41 A c r (rright r) w hr.row hr.cap (rright_ref r 41 (by omega))
theorem rfew_calls (n : Int) (w : World) : Calls Try.prog 66 #[.int .i64 n] w fun e w' => e = .returned (.bool (few n)) ∧ Drawn0 w w' := by
  refine verdererref05_few.calls n (few n) w ?_
  unfold verdererref05_few.f few
  by_cases h : n ≥ -1073741824
  · rw [if_pos h,decide_eq_true (show -1073741824 ≤ n from h)];rfl
  · rw [if_neg h,decide_eq_false (show ¬ -1073741824 ≤ n from h)];rfl
theorem take_lo {r : Rw} {L : List En} (h : SrtD L) : L.take (loD r L).length = loD r L := by
  have h1 : (loD r L ++ (eqD r L ++ hiD r L)).take (loD r L).length = loD r L := List.take_left
  rwa [← List.append_assoc,← (srt_split r h).1] at h1
theorem drop_lo {r : Rw} {L : List En} (h : SrtD L) : L.drop (loD r L).length = (fndD r L).toList ++ hiD r L := by
  have h1 : (loD r L ++ (eqD r L ++ hiD r L)).drop (loD r L).length = eqD r L ++ hiD r L := List.drop_left
  rwa [← List.append_assoc,← (srt_split r h).1,(srt_split r h).2] at h1
set_option maxHeartbeats 4000000 in
set_option maxRecDepth 100000 in
theorem ref_addR {D : Nat → Prop} (g : Nat) (A1 : Option Addr) (c1 : Nat) (L : List En) (A : Option Addr) (c : Nat) (r : Rw) (m : Int) (w : World) (h : RefV w g A1 c1 L D) (hr : RowC w A c r) (hrt : rright r = false) :
    Calls Try.prog 17 #[.pointer (some ⟨g,0,none⟩),.slice A r.length c,.int .i64 m] w fun e w' => ∃ A' c' D',e = .returned (.int .i64 2) ∧ RefV w' g A' c' L D' ∧ RefCh w w' g D D' := by
  have HV := Aside0.mk h
  have RT := Aside0.mk (rright_at A c r w hr)
  rw [hrt] at RT
  clear h hr hrt
  go_enter Try.func17,Try.ntmps17
  go_wp2_with (fail)
  refine RT.out.mono ?_
  rintro e w1 ⟨rfl,hb⟩
  have HB1 := Aside0.mk hb
  have HV1 := Aside0.mk (HV.out.below hb)
  clear hb RT
  go_wp2_with (fail)
  go_ret
  first
    | exact ⟨_,_,_,rfl,HV1.out,RefCh.same HB1.out⟩
    | exact ⟨rfl,_,_,_,HV1.out,RefCh.same HB1.out⟩
set_option maxHeartbeats 4000000 in
set_option maxRecDepth 100000 in
theorem ref_addX {D : Nat → Prop} (g : Nat) (A1 : Option Addr) (c1 : Nat) (L : List En) (A : Option Addr) (c : Nat) (r : Rw) (m : Int) (w : World) (h : RefV w g A1 c1 L D) (hs : SrtD L) (hk : OkD L) (hr : RowC w A c r) (hl : L.length ≤ 1000000) (hrt : rright r = true) (hok : okAdd r m L = false) :
    Calls Try.prog 17 #[.pointer (some ⟨g,0,none⟩),.slice A r.length c,.int .i64 m] w fun e w' => ∃ A' c' D',e = .returned (.int .i64 10) ∧ RefV w' g A' c' L D' ∧ RefCh w w' g D D' := by
  have HV := Aside0.mk h
  have HS := Aside0.mk hs
  have HK := Aside0.mk hk
  have HR := Aside0.mk hr
  have RT := Aside0.mk (rright_at A c r w hr)
  have HL := Aside0.mk hl
  rw [hrt] at RT
  obtain ⟨k,hk0⟩ : ∃ k,manyD r L = k := ⟨_,rfl⟩
  have MK := Aside0.mk hk0
  obtain ⟨m0,m1⟩ := many_bd (r := r) hk
  rw [hk0] at m0 m1
  unfold okAdd at hok
  rw [hk0] at hok
  by_cases h1 : m < -2147483648
  · have q1 : decide (m < -2147483648) = true := decide_eq_true h1
    clear h hs hk hr hl hrt hok hk0
    go_enter Try.func17,Try.ntmps17
    go_wp2_with (fail)
    refine RT.out.mono ?_
    rintro e w1 ⟨rfl,hb⟩
    have HB1 := Aside0.mk hb
    have HV1 := Aside0.mk (HV.out.below hb)
    have HR1 := Aside0.mk (HR.out.below hb)
    clear hb RT
    go_wp2_with (fail)
    have MN := Aside0.mk (ref_many g A1 c1 L A c r w1 HV1.out HS.out HK.out HR1.out HL.out)
    rw [MK.out] at MN
    refine MN.out.mono ?_
    rintro e w2 ⟨rfl,hb⟩
    have HB2 := Aside0.mk (HB1.out.trans (hb.mono HB1.out.size))
    have HV2 := Aside0.mk (HV1.out.below hb)
    clear hb HB1 HV1 HR1 MN
    go_wp2_with (fail)
    go_ret
    first
      | exact ⟨_,_,_,rfl,HV2.out,RefCh.same HB2.out⟩
      | exact ⟨rfl,_,_,_,HV2.out,RefCh.same HB2.out⟩
  · have q1 : decide (m < -2147483648) = false := decide_eq_false h1
    by_cases h2 : 2147483648 < m
    · have q2 : decide (2147483648 < m) = true := decide_eq_true h2
      clear h hs hk hr hl hrt hok hk0
      go_enter Try.func17,Try.ntmps17
      go_wp2_with (fail)
      refine RT.out.mono ?_
      rintro e w1 ⟨rfl,hb⟩
      have HB1 := Aside0.mk hb
      have HV1 := Aside0.mk (HV.out.below hb)
      have HR1 := Aside0.mk (HR.out.below hb)
      clear hb RT
      go_wp2_with (fail)
      have MN := Aside0.mk (ref_many g A1 c1 L A c r w1 HV1.out HS.out HK.out HR1.out HL.out)
      rw [MK.out] at MN
      refine MN.out.mono ?_
      rintro e w2 ⟨rfl,hb⟩
      have HB2 := Aside0.mk (HB1.out.trans (hb.mono HB1.out.size))
      have HV2 := Aside0.mk (HV1.out.below hb)
      clear hb HB1 HV1 HR1 MN
      go_wp2_with (fail)
      go_ret
      first
        | exact ⟨_,_,_,rfl,HV2.out,RefCh.same HB2.out⟩
        | exact ⟨rfl,_,_,_,HV2.out,RefCh.same HB2.out⟩
    · have q2 : decide (2147483648 < m) = false := decide_eq_false h2
      have b0 : -2147483648 ≤ m := by omega
      have b1 : m ≤ 2147483648 := by omega
      rw [decide_eq_true b0,decide_eq_true b1] at hok
      simp only [Bool.true_and] at hok
      have FEW := Aside0.mk (fun W => rfew_calls (k + m) W)
      rw [hok] at FEW
      clear h hs hk hr hl hrt hok hk0
      go_enter Try.func17,Try.ntmps17
      go_wp2_with (fail)
      refine RT.out.mono ?_
      rintro e w1 ⟨rfl,hb⟩
      have HB1 := Aside0.mk hb
      have HV1 := Aside0.mk (HV.out.below hb)
      have HR1 := Aside0.mk (HR.out.below hb)
      clear hb RT
      go_wp2_with (fail)
      have MN := Aside0.mk (ref_many g A1 c1 L A c r w1 HV1.out HS.out HK.out HR1.out HL.out)
      rw [MK.out] at MN
      refine MN.out.mono ?_
      rintro e w2 ⟨rfl,hb⟩
      have HB2 := Aside0.mk (HB1.out.trans (hb.mono HB1.out.size))
      have HV2 := Aside0.mk (HV1.out.below hb)
      clear hb HB1 HV1 HR1 MN
      go_wp2_with (fail)
      refine (FEW.out w2).mono ?_
      rintro e w3 ⟨rfl,hd⟩
      have hb := hd.below
      have HB3 := Aside0.mk (HB2.out.trans (hb.mono HB2.out.size))
      have HV3 := Aside0.mk (HV2.out.below hb)
      clear hb hd HB2 HV2 FEW
      go_wp2_with (fail)
      go_ret
      first
        | exact ⟨_,_,_,rfl,HV3.out,RefCh.same HB3.out⟩
        | exact ⟨rfl,_,_,_,HV3.out,RefCh.same HB3.out⟩
set_option maxHeartbeats 4000000 in
set_option maxRecDepth 100000 in
theorem ref_addNN {D : Nat → Prop} (g : Nat) (A1 : Option Addr) (c1 : Nat) (L : List En) (A : Option Addr) (c : Nat) (r : Rw) (m n : Int) (w : World) (h : RefV w g A1 c1 L D) (hs : SrtD L) (hk : OkD L) (hr : RowC w A c r) (hl : L.length ≤ 1000000)
    (hrt : rright r = true) (hn : manyD r L + m = n) (hok : okAdd r m L = true) (hz : n ≠ 0) (hf : fndD r L = none) :
    Calls Try.prog 17 #[.pointer (some ⟨g,0,none⟩),.slice A r.length c,.int .i64 m] w fun e w' => ∃ A' c' D',e = .returned (.int .i64 0) ∧ RefV w' g A' c' (putD r n L) D' ∧ RefCh w w' g D D' := by
  have HV := Aside0.mk h
  have HS := Aside0.mk hs
  have HK := Aside0.mk hk
  have HR := Aside0.mk hr
  have HF := Aside0.mk hf
  have HN := Aside0.mk hn
  have RL := Aside0.mk (right_len hrt)
  have RT := Aside0.mk (rright_at A c r w hr)
  rw [hrt] at RT
  obtain ⟨k,hk0⟩ : ∃ k,manyD r L = k := ⟨_,rfl⟩
  have MK := Aside0.mk hk0
  obtain ⟨m0,m1⟩ := many_bd (r := r) hk
  rw [hk0] at m0 m1 hn
  have hok' := hok
  unfold okAdd at hok'
  rw [Bool.and_eq_true,Bool.and_eq_true,decide_eq_true_eq,decide_eq_true_eq,hk0,hn] at hok'
  obtain ⟨⟨b0,b1⟩,hfew⟩ := hok'
  have HFEW := Aside0.mk hfew
  have f0 := (few_iff.1 hfew).1
  have f1 := (few_iff.1 hfew).2
  have q1 : decide (m < -2147483648) = false := decide_eq_false (by omega)
  have q2 : decide (2147483648 < m) = false := decide_eq_false (by omega)
  have FEW := Aside0.mk (fun W => rfew_calls (k + m) W)
  rw [hn,hfew] at FEW
  have HN2 := Aside0.mk hn
  have q3 : (n != 0) = true := by simp [hz]
  have HZ := Aside0.mk hz
  obtain ⟨len,hlen⟩ : ∃ len,L.length = len := ⟨_,rfl⟩
  obtain ⟨at_,hat⟩ : ∃ at_,(loD r L).length = at_ := ⟨_,rfl⟩
  have HLEN := Aside0.mk hlen
  have HAT := Aside0.mk hat
  have al : at_ ≤ len := by have := lo_len r hs;omega
  have aB : at_ ≤ 1000000 := by omega
  have TK := Aside0.mk (take_lo (r := r) hs)
  have DP := Aside0.mk (drop_lo (r := r) hs)
  rw [hat] at TK DP
  rw [hf] at DP
  have DPH := Aside0.mk (show L.drop at_ = hiD r L from DP.out)
  obtain ⟨i0,hi0,hsz0⟩ : ∃ i0,Try.prog.info? 34 = some i0 ∧ i0.size = 2 := by
    obtain ⟨i0,hi,hz⟩ := Option.map_eq_some_iff.1 info34
    simp only [Prod.mk.injEq] at hz
    exact ⟨i0,hi,hz.2.1⟩
  have CT := Aside0.mk (cut_to 22 34 .i64 Try.underlying22 hi0 A1 len c1 (at_ : Int) (by omega) (by omega) (by have := h.cap;omega))
  have CF := Aside0.mk (cut_from 22 34 .i64 Try.underlying22 hi0 2 hsz0 A1 len c1 (at_ : Int) (by omega) (by omega))
  simp only [Int.toNat_natCast] at CT
  rw [show ((at_ : Int) : Int).toNat = at_ by omega] at CF
  obtain ⟨A2,hA2⟩ : ∃ A2,(if c1 = at_ then A1 else A1.map (·.add ((at_) * 2))) = A2 := ⟨_,rfl⟩
  have HA2 := Aside0.mk hA2
  rw [hA2] at CF
  have hct := CT.out
  have hcf := CF.out
  clear CT CF
  have g0 := (blk_cell h.blk 0).trans rfl
  rw [hlen] at g0
  have WLT := Aside0.mk (blk_lt h.blk)
  clear h hs hk hr hf hn hk0 hrt hok hfew hz hlen hat hi0 hsz0 hA2
  go_enter Try.func17,Try.ntmps17
  go_wp2_with (fail)
  refine RT.out.mono ?_
  rintro e w1 ⟨rfl,hb⟩
  have HB1 := Aside0.mk hb
  have HV1 := Aside0.mk (HV.out.below hb)
  have HR1 := Aside0.mk (HR.out.below hb)
  clear hb RT
  go_wp2_with (fail)
  have MN := Aside0.mk (ref_many g A1 c1 L A c r w1 HV1.out HS.out HK.out HR1.out (by have := HLEN.out;omega))
  rw [MK.out] at MN
  refine MN.out.mono ?_
  rintro e w2 ⟨rfl,hb⟩
  have HB2 := Aside0.mk (HB1.out.trans (hb.mono HB1.out.size))
  have HV2 := Aside0.mk (HV1.out.below hb)
  have HR2 := Aside0.mk (HR1.out.below hb)
  clear hb HB1 HV1 HR1 MN
  go_wp2_with (fail)
  rw [HN2.out]
  refine (FEW.out w2).mono ?_
  rintro e w3 ⟨rfl,hd⟩
  have hb := hd.below
  have HB3 := Aside0.mk (HB2.out.trans (hb.mono HB2.out.size))
  have HV3 := Aside0.mk (HV2.out.below hb)
  have HR3 := Aside0.mk (HR2.out.below hb)
  clear hb hd HB2 HV2 HR2 FEW
  go_wp2_with (fail)
  have FN := Aside0.mk (ref_find g A1 c1 L A c r w3 HV3.out HS.out HK.out HR3.out (by have := HLEN.out;omega))
  rw [HAT.out,HF.out] at FN
  simp only [Option.isSome_none] at FN
  refine FN.out.mono ?_
  rintro e w4 ⟨rfl,hb⟩
  have HB4 := Aside0.mk (HB3.out.trans (hb.mono HB3.out.size))
  have HV4 := Aside0.mk (HV3.out.below hb)
  have HR4 := Aside0.mk (HR3.out.below hb)
  replace g0 := (blk_cell HV4.out.blk 0).trans rfl
  rw [HLEN.out] at g0
  clear hb HB3 HV3 HR3 FN
  go_upto_region 8 with (fail)
  rw [HN2.out]
  have BX5 := Aside0.mk (blk_new w4 (Obj.cells #[.slice none 0 0,.int .i64 n] 34))
  have HB5 := Aside0.mk (below_alloc HB4.out (Obj.cells #[.slice none 0 0,.int .i64 n] 34))
  have HV5 := Aside0.mk (HV4.out.below (below_alloc (Below.refl w4.heap.size w4) (Obj.cells #[.slice none 0 0,.int .i64 n] 34)))
  have HR5 := Aside0.mk (HR4.out.below (below_alloc (Below.refl w4.heap.size w4) (Obj.cells #[.slice none 0 0,.int .i64 n] 34)))
  have GE := Aside0.mk HB4.out.size
  obtain ⟨bx,hbx⟩ : ∃ bx,w4.heap.size = bx := ⟨_,rfl⟩
  rw [hbx] at BX5 GE ⊢
  clear hbx HB4 HV4 HR4 g0
  generalize w4.alloc (Obj.cells #[.slice none 0 0,.int .i64 n] 34) = w5 at *
  have z0 := blk_frozen BX5.out 0
  have y0 := (blk_cell BX5.out 0).trans rfl
  have y1 := (blk_cell BX5.out 1).trans rfl
  go_upto_region 9 with (((with_reducible refine gate_builtin (b := .append) (xs := #[.tmp 42,.tmp 43]) rfl ?_);at_builtin;refine Kd.R_append_rows k66 (w0 := w) w.heap.size rfl (.tmp 42) (.tmp 43) 23 66 (.agg #[(.int .i64 0),(.bool false),(.int .i64 0),(.string ⟨#[]⟩)]) 40 rfl Try.underlying23 info66 rfl (by decide) (by omega) (.slice none 0 0) [] r A r.length c (fun k => k ≠ bx) (fun _ => False) rfl rfl (Kd.R_nil _ _ _ _ _) HR5.out.row (fun x cs h => by rw [k66_open h];exact k66_mkM _ _ _ _) (fun _ h => h.elim) (fun k hk => by have := blk_lt BX5.out;omega) HB5.out HB5.out.size (by have := RL.out;rw [List.length_nil];omega) ?_;intro v1 w6 hv hb3 hg hat;have HV1 := Aside0.mk hv;have HB6 := Aside0.mk hb3;have HV6 := Aside0.mk (HV5.out.keep (ch_grown (S := fun _ => False) hg (fun k e => by cases e)) (fun s => s) (fun _ _ s => s));have BX6 := Aside0.mk (blk_grown BX5.out hg (by simp [Value.ownBlock]));have z6 := blk_frozen BX6.out 0;have y6 := (blk_cell BX6.out 0).trans rfl;obtain ⟨Ar,cr,er⟩ := Kd.R_slice hv;clear hv hb3 hg hat z0 y0 y1;subst er))
  have cb6 : Ch (fun k => k = bx) w6 (w6.setCell ⟨bx,0,none⟩ (.slice Ar r.length cr)) := (Ch.refl (fun k => k = bx) w6).setCell (p := ⟨bx,0,none⟩) (.inl rfl) _
  have BX7 := Aside0.mk (show (w6.setCell ⟨bx,0,none⟩ (.slice Ar r.length cr)).heap[bx]? = some (.cells #[.slice Ar r.length cr,.int .i64 n] 34 (0,0)) from blk_put BX6.out 0 _ rfl)
  have HV7 := Aside0.mk (HV6.out.keep cb6 (fun e => by have := WLT.out;have := GE.out;omega) (fun k hk e => by have := HV.out.lt k hk;have := GE.out;omega))
  have HB7 := Aside0.mk (HB6.out.setCell (p := ⟨bx,0,none⟩) GE.out (.slice Ar r.length cr))
  have HR7 := Aside0.mk (Kd.R_far (p := ⟨bx,0,none⟩) HV1.out (fun k hk => hk) (.slice Ar r.length cr))
  clear cb6 z6 y6 HV1
  generalize w6.setCell ⟨bx,0,none⟩ (.slice Ar r.length cr) = w9 at *
  have RR := Aside0.mk (show ∃ NR : Nat → Prop,(∀ k,NR k → w.heap.size ≤ k ∧ k < w9.heap.size ∧ k ≠ bx) ∧ Kd.F k66 w9 NR Ar r.length r ∧ r.length ≤ cr from ⟨fun k => k ≠ bx ∧ w.heap.size ≤ k ∧ k < w9.heap.size,fun k hk => ⟨hk.2.1,hk.2.2,hk.1⟩,Kd.F_mono (Kd.R_F (Kd.R_bound HR7.out)) (fun k hk => ⟨hk.1,hk.2.1,hk.2.2.1⟩),(Kd.R_reads' HR7.out).2.1⟩)
  obtain ⟨NR,hNR,hFR,hcr⟩ := RR.out
  have NR1 := Aside0.mk hNR
  have FR1 := Aside0.mk hFR
  have CR1 := Aside0.mk hcr
  clear hNR hFR hcr RR HR7
  have HV9 := HV7
  have HB9 := HB7
  have BX9 := BX7
  have FR9 := Aside0.mk (Kd.F_mono (ok' := fun k => D k ∨ NR k) FR1.out (fun k hk => .inr hk))
  have NR9 := NR1
  have CR9 := CR1
  clear HV7 HB7 BX7 FR1 NR1 CR1
  have OKD := Aside0.mk (fun k (hk : D k) => show (D k ∨ NR k ∨ w9.heap.size ≤ k) ∧ k < w9.heap.size from ⟨.inl hk,Nat.lt_of_lt_of_le (HV.out.lt k hk) HB9.out.size⟩)
  have FT := Aside0.mk (show Kd.F k34 w9 D A1 at_ (loD r L) by
    have h1 := Kd.F_take (m := at_) HV9.out.row (by have := HLEN.out;omega)
    rw [TK.out,HAT.out] at h1
    exact h1)
  have g9 := (blk_cell HV9.out.blk 0).trans rfl
  rw [HLEN.out] at g9
  go_upto_region 13 with (((with_reducible refine gate_builtin (b := .append) (xs := #[.tmp 56,.tmp 62]) rfl ?_);at_builtin;refine Kd.N_append_rows k34 (w0 := w) w.heap.size rfl (.tmp 56) (.tmp 62) 22 34 (.agg #[(.slice none 0 0),(.int .i64 0)]) 32 rfl Try.underlying22 info34 rfl (by decide) (by omega) (.slice none 0 0) [] (loD r L) A1 at_ c1 (fun k => D k ∨ NR k ∨ w9.heap.size ≤ k) D rfl rfl (Kd.N_nil _ _ _ _ _) FT.out (fun k hk => ⟨.inl hk,by simp [Value.ownBlock]⟩) (fun k hk => .inr (.inr hk)) HB9.out HB9.out.size (by have := HLEN.out;rw [List.length_nil];omega) ?_;intro v1 w10 hv hb3 hg hat;rw [List.nil_append] at hv;have N10 := Aside0.mk hv;have HB10 := Aside0.mk hb3;have AT10 := Aside0.mk (own_new hat);have N10S := Aside0.mk hg.size;have HV10 := Aside0.mk (HV9.out.keep (ch_grown (S := fun _ => False) hg (fun k e => by cases e)) (fun s => s) (fun _ _ s => s));have BX10 := Aside0.mk (blk_grown BX9.out hg (by simp [Value.ownBlock]));have FR10 := Aside0.mk (Kd.F_grown FR9.out hg (fun k hk => by simp [Value.ownBlock]));have y10 := (blk_cell BX10.out 0).trans rfl;have y11 := (blk_cell BX10.out 1).trans rfl;obtain ⟨Al,cl,el⟩ := Kd.N_slice hv;clear hv hb3 hg hat g9;subst el))
  have OKE := Aside0.mk (fun k (hk : D k ∨ NR k) => show (D k ∨ NR k ∨ w9.heap.size ≤ k) ∧ some k ≠ (Value.slice Al (loD r L).length cl).ownBlock from ⟨hk.imp id .inl,fun e => by have := AT10.out k e.symm;have : k < w9.heap.size := hk.elim (fun q => (OKD.out k q).2) (fun q => (NR9.out k q).2.1);omega⟩)
  go_upto_region 15 with (((with_reducible refine gate_builtin (b := .append) (xs := #[.tmp 67,.tmp 69]) rfl ?_);at_builtin;refine Kd.N_append k34 (w0 := w) w.heap.size rfl (.tmp 67) (.tmp 69) 22 34 (.agg #[(.slice none 0 0),(.int .i64 0)]) 32 rfl Try.underlying22 info34 rfl (by decide) (by omega) (.slice Al (loD r L).length cl) (loD r L) (⟨r,n⟩ : En) [.slice Ar r.length cr,.int .i64 n] (fun k => D k ∨ NR k ∨ w9.heap.size ≤ k) (fun k => D k ∨ NR k) rfl rfl (k34_mkF _ _ (⟨r,n⟩ : En) CR9.out FR10.out) OKE.out (fun k hk => .inr (.inr (by have h1 := HB10.out.size;have h2 := HB9.out.size;have h3 := N10S.out;omega))) N10.out HB10.out HB10.out.size (by have := HLEN.out;have := HAT.out;omega) ?_;intro v2 w11 hv hb3 hg hat;obtain ⟨L2,hL2⟩ : ∃ L2,loD r L ++ [(⟨r,n⟩ : En)] = L2 := ⟨_,rfl⟩;rw [hL2] at hv;have HL2 := Aside0.mk hL2;clear hL2;have N12 := Aside0.mk hv;have HB12 := Aside0.mk hb3;have N12S := Aside0.mk (Nat.le_trans N10S.out hg.size);have AT12 := Aside0.mk (own_new2 AT10.out N10S.out hat);have HV12 := Aside0.mk (HV10.out.keep (ch_grown (S := fun k => w9.heap.size ≤ k) hg (fun k e => AT10.out k e)) (fun s => by have := WLT.out;have := HB9.out.size;omega) (fun k hk s => by have := (OKD.out k hk).2;omega));obtain ⟨Al2,cl2,el⟩ := Kd.N_slice hv;clear hv hb3 hg hat y10 y11;subst el))
  have g12 := (blk_cell HV12.out.blk 0).trans rfl
  rw [HLEN.out] at g12
  clear N10 HB10 HV10 AT10 FR10
  have FT2 := Aside0.mk (show Kd.F k34 w11 D A2 (len - at_) (hiD r L) by
    have h1 := Kd.F_cut (c := c1) (m := at_) HV12.out.row (by have := HLEN.out;omega) HV12.out.cap
    rw [DPH.out] at h1
    have h2 : (hiD r L).length = len - at_ := by rw [← DPH.out,List.length_drop,HLEN.out]
    rw [h2] at h1
    rw [← HA2.out]
    exact h1)
  have zg := blk_frozen HV12.out.blk 0
  go_wp2_with (((with_reducible refine gate_builtin (b := .append) (xs := #[.tmp 75,.tmp 81]) rfl ?_);at_builtin;refine Kd.N_append_rows k34 (w0 := w) w.heap.size rfl (.tmp 75) (.tmp 81) 22 34 (.agg #[(.slice none 0 0),(.int .i64 0)]) 32 rfl Try.underlying22 info34 rfl (by decide) (by omega) (.slice Al2 L2.length cl2) L2 (hiD r L) A2 (len - at_) (c1 - at_) (fun k => D k ∨ NR k ∨ w9.heap.size ≤ k) D rfl rfl N12.out FT2.out (fun k hk => ⟨.inl hk,fun e => by have := AT12.out k e.symm;have := (OKD.out k hk).2;omega⟩) (fun k hk => .inr (.inr (by have h1 := HB12.out.size;have h3 := N12S.out;omega))) HB12.out HB12.out.size (by have := HLEN.out;have := HAT.out;have hL2 := congrArg List.length HL2.out;rw [List.length_append] at hL2;simp at hL2;omega) ?_;intro v3 w12 hv hb3 hg hat;obtain ⟨L3,hL3⟩ : ∃ L3,L2 ++ hiD r L = L3 := ⟨_,rfl⟩;rw [hL3] at hv;have HL3 := Aside0.mk hL3;clear hL3;have N13 := Aside0.mk hv;have HB13 := Aside0.mk hb3;have HV13 := Aside0.mk (HV12.out.keep (ch_grown (S := fun k => w9.heap.size ≤ k) hg (fun k e => AT12.out k e)) (fun s => by have := WLT.out;have := HB9.out.size;omega) (fun k hk s => by have := (OKD.out k hk).2;omega));have zg2 := blk_frozen HV13.out.blk 0;have yg2 := (blk_cell HV13.out.blk 0).trans rfl;obtain ⟨Al3,cl3,el⟩ := Kd.N_slice hv;clear hv hb3 hg hat g12 zg;subst el))
  go_ret
  have hL : L3 = putD r n L := by
    rw [← HL3.out]
    rw [← HL2.out];unfold putD;rw [if_neg HZ.out]
  rw [← hL]
  have s9 := HB9.out.size
  have wl := WLT.out
  have cg : Ch (fun k => k = g) w12 (w12.setCell ⟨g,0,none⟩ (.slice Al3 L3.length cl3)) := (Ch.refl (fun k => k = g) w12).setCell (p := ⟨g,0,none⟩) (.inl rfl) _
  have dn : ∀ k,((D k ∨ NR k ∨ w9.heap.size ≤ k) ∧ k < w12.heap.size) → k ≠ g := fun k hk e => by
    rcases hk.1 with q | q | q
    · exact HV.out.g_not (e ▸ q)
    · have := (NR9.out k q).1;omega
    · omega
  have R1 : RefV (w12.setCell ⟨g,0,none⟩ (.slice Al3 L3.length cl3)) g Al3 cl3 L3 (fun k => (D k ∨ NR k ∨ w9.heap.size ≤ k) ∧ k < w12.heap.size) :=
    ⟨blk_put HV13.out.blk 0 _ rfl,(Kd.N_reads' N13.out).2.1,Kd.F_step (Kd.F_bound (Kd.N_F N13.out)) (fun k hk hlt => cg.block k hlt (dn k hk)),fun hk => dn g hk rfl,fun k hk => Nat.lt_of_lt_of_le hk.2 cg.size⟩
  have R2 : RefCh w (w12.setCell ⟨g,0,none⟩ (.slice Al3 L3.length cl3)) g D (fun k => (D k ∨ NR k ∨ w9.heap.size ≤ k) ∧ k < w12.heap.size) :=
    ⟨(Ch.of_below (S := fun k => k = g) HB13.out).then_ cg (fun k hk => .inl hk),fun k hk => hk.1.imp id (fun q => q.elim (fun q => (NR9.out k q).1) (fun q => by omega))⟩
  first
    | exact ⟨_,_,_,rfl,R1,R2⟩
    | exact ⟨rfl,_,_,_,R1,R2⟩
    | exact ⟨rfl,_,_,R1,R2⟩
set_option maxHeartbeats 4000000 in
set_option maxRecDepth 100000 in
theorem ref_addNZ {D : Nat → Prop} (g : Nat) (A1 : Option Addr) (c1 : Nat) (L : List En) (A : Option Addr) (c : Nat) (r : Rw) (m n : Int) (w : World) (h : RefV w g A1 c1 L D) (hs : SrtD L) (hk : OkD L) (hr : RowC w A c r) (hl : L.length ≤ 1000000)
    (hrt : rright r = true) (hn : manyD r L + m = n) (hok : okAdd r m L = true) (hz : n = 0) (hf : fndD r L = none) :
    Calls Try.prog 17 #[.pointer (some ⟨g,0,none⟩),.slice A r.length c,.int .i64 m] w fun e w' => ∃ A' c' D',e = .returned (.int .i64 0) ∧ RefV w' g A' c' (putD r n L) D' ∧ RefCh w w' g D D' := by
  have HV := Aside0.mk h
  have HS := Aside0.mk hs
  have HK := Aside0.mk hk
  have HR := Aside0.mk hr
  have HF := Aside0.mk hf
  have HN := Aside0.mk hn
  have RL := Aside0.mk (right_len hrt)
  have RT := Aside0.mk (rright_at A c r w hr)
  rw [hrt] at RT
  obtain ⟨k,hk0⟩ : ∃ k,manyD r L = k := ⟨_,rfl⟩
  have MK := Aside0.mk hk0
  obtain ⟨m0,m1⟩ := many_bd (r := r) hk
  rw [hk0] at m0 m1 hn
  have hok' := hok
  unfold okAdd at hok'
  rw [Bool.and_eq_true,Bool.and_eq_true,decide_eq_true_eq,decide_eq_true_eq,hk0,hn] at hok'
  obtain ⟨⟨b0,b1⟩,hfew⟩ := hok'
  have HFEW := Aside0.mk hfew
  have f0 := (few_iff.1 hfew).1
  have f1 := (few_iff.1 hfew).2
  have q1 : decide (m < -2147483648) = false := decide_eq_false (by omega)
  have q2 : decide (2147483648 < m) = false := decide_eq_false (by omega)
  have FEW := Aside0.mk (fun W => rfew_calls (k + m) W)
  rw [hn,hfew] at FEW
  have HN2 := Aside0.mk hn
  have q3 : (n != 0) = false := by simp [hz]
  have HZ := Aside0.mk hz
  obtain ⟨len,hlen⟩ : ∃ len,L.length = len := ⟨_,rfl⟩
  obtain ⟨at_,hat⟩ : ∃ at_,(loD r L).length = at_ := ⟨_,rfl⟩
  have HLEN := Aside0.mk hlen
  have HAT := Aside0.mk hat
  have al : at_ ≤ len := by have := lo_len r hs;omega
  have aB : at_ ≤ 1000000 := by omega
  have TK := Aside0.mk (take_lo (r := r) hs)
  have DP := Aside0.mk (drop_lo (r := r) hs)
  rw [hat] at TK DP
  rw [hf] at DP
  have DPH := Aside0.mk (show L.drop at_ = hiD r L from DP.out)
  obtain ⟨i0,hi0,hsz0⟩ : ∃ i0,Try.prog.info? 34 = some i0 ∧ i0.size = 2 := by
    obtain ⟨i0,hi,hz⟩ := Option.map_eq_some_iff.1 info34
    simp only [Prod.mk.injEq] at hz
    exact ⟨i0,hi,hz.2.1⟩
  have CT := Aside0.mk (cut_to 22 34 .i64 Try.underlying22 hi0 A1 len c1 (at_ : Int) (by omega) (by omega) (by have := h.cap;omega))
  have CF := Aside0.mk (cut_from 22 34 .i64 Try.underlying22 hi0 2 hsz0 A1 len c1 (at_ : Int) (by omega) (by omega))
  simp only [Int.toNat_natCast] at CT
  rw [show ((at_ : Int) : Int).toNat = at_ by omega] at CF
  obtain ⟨A2,hA2⟩ : ∃ A2,(if c1 = at_ then A1 else A1.map (·.add ((at_) * 2))) = A2 := ⟨_,rfl⟩
  have HA2 := Aside0.mk hA2
  rw [hA2] at CF
  have hct := CT.out
  have hcf := CF.out
  clear CT CF
  have g0 := (blk_cell h.blk 0).trans rfl
  rw [hlen] at g0
  have WLT := Aside0.mk (blk_lt h.blk)
  clear h hs hk hr hf hn hk0 hrt hok hfew hz hlen hat hi0 hsz0 hA2
  go_enter Try.func17,Try.ntmps17
  go_wp2_with (fail)
  refine RT.out.mono ?_
  rintro e w1 ⟨rfl,hb⟩
  have HB1 := Aside0.mk hb
  have HV1 := Aside0.mk (HV.out.below hb)
  have HR1 := Aside0.mk (HR.out.below hb)
  clear hb RT
  go_wp2_with (fail)
  have MN := Aside0.mk (ref_many g A1 c1 L A c r w1 HV1.out HS.out HK.out HR1.out (by have := HLEN.out;omega))
  rw [MK.out] at MN
  refine MN.out.mono ?_
  rintro e w2 ⟨rfl,hb⟩
  have HB2 := Aside0.mk (HB1.out.trans (hb.mono HB1.out.size))
  have HV2 := Aside0.mk (HV1.out.below hb)
  have HR2 := Aside0.mk (HR1.out.below hb)
  clear hb HB1 HV1 HR1 MN
  go_wp2_with (fail)
  rw [HN2.out]
  refine (FEW.out w2).mono ?_
  rintro e w3 ⟨rfl,hd⟩
  have hb := hd.below
  have HB3 := Aside0.mk (HB2.out.trans (hb.mono HB2.out.size))
  have HV3 := Aside0.mk (HV2.out.below hb)
  have HR3 := Aside0.mk (HR2.out.below hb)
  clear hb hd HB2 HV2 HR2 FEW
  go_wp2_with (fail)
  have FN := Aside0.mk (ref_find g A1 c1 L A c r w3 HV3.out HS.out HK.out HR3.out (by have := HLEN.out;omega))
  rw [HAT.out,HF.out] at FN
  simp only [Option.isSome_none] at FN
  refine FN.out.mono ?_
  rintro e w4 ⟨rfl,hb⟩
  have HB4 := Aside0.mk (HB3.out.trans (hb.mono HB3.out.size))
  have HV4 := Aside0.mk (HV3.out.below hb)
  have HR4 := Aside0.mk (HR3.out.below hb)
  replace g0 := (blk_cell HV4.out.blk 0).trans rfl
  rw [HLEN.out] at g0
  clear hb HB3 HV3 HR3 FN
  go_upto_region 8 with (fail)
  rw [HN2.out]
  have BX5 := Aside0.mk (blk_new w4 (Obj.cells #[.slice none 0 0,.int .i64 n] 34))
  have HB5 := Aside0.mk (below_alloc HB4.out (Obj.cells #[.slice none 0 0,.int .i64 n] 34))
  have HV5 := Aside0.mk (HV4.out.below (below_alloc (Below.refl w4.heap.size w4) (Obj.cells #[.slice none 0 0,.int .i64 n] 34)))
  have HR5 := Aside0.mk (HR4.out.below (below_alloc (Below.refl w4.heap.size w4) (Obj.cells #[.slice none 0 0,.int .i64 n] 34)))
  have GE := Aside0.mk HB4.out.size
  obtain ⟨bx,hbx⟩ : ∃ bx,w4.heap.size = bx := ⟨_,rfl⟩
  rw [hbx] at BX5 GE ⊢
  clear hbx HB4 HV4 HR4 g0
  generalize w4.alloc (Obj.cells #[.slice none 0 0,.int .i64 n] 34) = w5 at *
  have z0 := blk_frozen BX5.out 0
  have y0 := (blk_cell BX5.out 0).trans rfl
  have y1 := (blk_cell BX5.out 1).trans rfl
  go_upto_region 9 with (((with_reducible refine gate_builtin (b := .append) (xs := #[.tmp 42,.tmp 43]) rfl ?_);at_builtin;refine Kd.R_append_rows k66 (w0 := w) w.heap.size rfl (.tmp 42) (.tmp 43) 23 66 (.agg #[(.int .i64 0),(.bool false),(.int .i64 0),(.string ⟨#[]⟩)]) 40 rfl Try.underlying23 info66 rfl (by decide) (by omega) (.slice none 0 0) [] r A r.length c (fun k => k ≠ bx) (fun _ => False) rfl rfl (Kd.R_nil _ _ _ _ _) HR5.out.row (fun x cs h => by rw [k66_open h];exact k66_mkM _ _ _ _) (fun _ h => h.elim) (fun k hk => by have := blk_lt BX5.out;omega) HB5.out HB5.out.size (by have := RL.out;rw [List.length_nil];omega) ?_;intro v1 w6 hv hb3 hg hat;have HV1 := Aside0.mk hv;have HB6 := Aside0.mk hb3;have HV6 := Aside0.mk (HV5.out.keep (ch_grown (S := fun _ => False) hg (fun k e => by cases e)) (fun s => s) (fun _ _ s => s));have BX6 := Aside0.mk (blk_grown BX5.out hg (by simp [Value.ownBlock]));have z6 := blk_frozen BX6.out 0;have y6 := (blk_cell BX6.out 0).trans rfl;obtain ⟨Ar,cr,er⟩ := Kd.R_slice hv;clear hv hb3 hg hat z0 y0 y1;subst er))
  have cb6 : Ch (fun k => k = bx) w6 (w6.setCell ⟨bx,0,none⟩ (.slice Ar r.length cr)) := (Ch.refl (fun k => k = bx) w6).setCell (p := ⟨bx,0,none⟩) (.inl rfl) _
  have BX7 := Aside0.mk (show (w6.setCell ⟨bx,0,none⟩ (.slice Ar r.length cr)).heap[bx]? = some (.cells #[.slice Ar r.length cr,.int .i64 n] 34 (0,0)) from blk_put BX6.out 0 _ rfl)
  have HV7 := Aside0.mk (HV6.out.keep cb6 (fun e => by have := WLT.out;have := GE.out;omega) (fun k hk e => by have := HV.out.lt k hk;have := GE.out;omega))
  have HB7 := Aside0.mk (HB6.out.setCell (p := ⟨bx,0,none⟩) GE.out (.slice Ar r.length cr))
  have HR7 := Aside0.mk (Kd.R_far (p := ⟨bx,0,none⟩) HV1.out (fun k hk => hk) (.slice Ar r.length cr))
  clear cb6 z6 y6 HV1
  generalize w6.setCell ⟨bx,0,none⟩ (.slice Ar r.length cr) = w9 at *
  have RR := Aside0.mk (show ∃ NR : Nat → Prop,(∀ k,NR k → w.heap.size ≤ k ∧ k < w9.heap.size ∧ k ≠ bx) ∧ Kd.F k66 w9 NR Ar r.length r ∧ r.length ≤ cr from ⟨fun k => k ≠ bx ∧ w.heap.size ≤ k ∧ k < w9.heap.size,fun k hk => ⟨hk.2.1,hk.2.2,hk.1⟩,Kd.F_mono (Kd.R_F (Kd.R_bound HR7.out)) (fun k hk => ⟨hk.1,hk.2.1,hk.2.2.1⟩),(Kd.R_reads' HR7.out).2.1⟩)
  obtain ⟨NR,hNR,hFR,hcr⟩ := RR.out
  have NR1 := Aside0.mk hNR
  have FR1 := Aside0.mk hFR
  have CR1 := Aside0.mk hcr
  clear hNR hFR hcr RR HR7
  have HV9 := HV7
  have HB9 := HB7
  have BX9 := BX7
  have FR9 := Aside0.mk (Kd.F_mono (ok' := fun k => D k ∨ NR k) FR1.out (fun k hk => .inr hk))
  have NR9 := NR1
  have CR9 := CR1
  clear HV7 HB7 BX7 FR1 NR1 CR1
  have OKD := Aside0.mk (fun k (hk : D k) => show (D k ∨ NR k ∨ w9.heap.size ≤ k) ∧ k < w9.heap.size from ⟨.inl hk,Nat.lt_of_lt_of_le (HV.out.lt k hk) HB9.out.size⟩)
  have FT := Aside0.mk (show Kd.F k34 w9 D A1 at_ (loD r L) by
    have h1 := Kd.F_take (m := at_) HV9.out.row (by have := HLEN.out;omega)
    rw [TK.out,HAT.out] at h1
    exact h1)
  have g9 := (blk_cell HV9.out.blk 0).trans rfl
  rw [HLEN.out] at g9
  go_upto_region 13 with (((with_reducible refine gate_builtin (b := .append) (xs := #[.tmp 56,.tmp 62]) rfl ?_);at_builtin;refine Kd.N_append_rows k34 (w0 := w) w.heap.size rfl (.tmp 56) (.tmp 62) 22 34 (.agg #[(.slice none 0 0),(.int .i64 0)]) 32 rfl Try.underlying22 info34 rfl (by decide) (by omega) (.slice none 0 0) [] (loD r L) A1 at_ c1 (fun k => D k ∨ NR k ∨ w9.heap.size ≤ k) D rfl rfl (Kd.N_nil _ _ _ _ _) FT.out (fun k hk => ⟨.inl hk,by simp [Value.ownBlock]⟩) (fun k hk => .inr (.inr hk)) HB9.out HB9.out.size (by have := HLEN.out;rw [List.length_nil];omega) ?_;intro v1 w10 hv hb3 hg hat;rw [List.nil_append] at hv;have N10 := Aside0.mk hv;have HB10 := Aside0.mk hb3;have AT10 := Aside0.mk (own_new hat);have N10S := Aside0.mk hg.size;have HV10 := Aside0.mk (HV9.out.keep (ch_grown (S := fun _ => False) hg (fun k e => by cases e)) (fun s => s) (fun _ _ s => s));have BX10 := Aside0.mk (blk_grown BX9.out hg (by simp [Value.ownBlock]));have FR10 := Aside0.mk (Kd.F_grown FR9.out hg (fun k hk => by simp [Value.ownBlock]));have y10 := (blk_cell BX10.out 0).trans rfl;have y11 := (blk_cell BX10.out 1).trans rfl;obtain ⟨Al,cl,el⟩ := Kd.N_slice hv;clear hv hb3 hg hat g9;subst el))
  have N12 := N10
  have HB12 := HB10
  have HV12 := HV10
  have AT12 := AT10
  have N12S := N10S
  have g12 := (blk_cell HV12.out.blk 0).trans rfl
  rw [HLEN.out] at g12
  clear N10 HB10 HV10 AT10 FR10
  have FT2 := Aside0.mk (show Kd.F k34 w10 D A2 (len - at_) (hiD r L) by
    have h1 := Kd.F_cut (c := c1) (m := at_) HV12.out.row (by have := HLEN.out;omega) HV12.out.cap
    rw [DPH.out] at h1
    have h2 : (hiD r L).length = len - at_ := by rw [← DPH.out,List.length_drop,HLEN.out]
    rw [h2] at h1
    rw [← HA2.out]
    exact h1)
  have zg := blk_frozen HV12.out.blk 0
  go_wp2_with (((with_reducible refine gate_builtin (b := .append) (xs := #[.tmp 75,.tmp 81]) rfl ?_);at_builtin;refine Kd.N_append_rows k34 (w0 := w) w.heap.size rfl (.tmp 75) (.tmp 81) 22 34 (.agg #[(.slice none 0 0),(.int .i64 0)]) 32 rfl Try.underlying22 info34 rfl (by decide) (by omega) (.slice Al (loD r L).length cl) (loD r L) (hiD r L) A2 (len - at_) (c1 - at_) (fun k => D k ∨ NR k ∨ w9.heap.size ≤ k) D rfl rfl N12.out FT2.out (fun k hk => ⟨.inl hk,fun e => by have := AT12.out k e.symm;have := (OKD.out k hk).2;omega⟩) (fun k hk => .inr (.inr (by have h1 := HB12.out.size;have h3 := N12S.out;omega))) HB12.out HB12.out.size (by have := HLEN.out;have := HAT.out;omega) ?_;intro v3 w12 hv hb3 hg hat;obtain ⟨L3,hL3⟩ : ∃ L3,(loD r L) ++ hiD r L = L3 := ⟨_,rfl⟩;rw [hL3] at hv;have HL3 := Aside0.mk hL3;clear hL3;have N13 := Aside0.mk hv;have HB13 := Aside0.mk hb3;have HV13 := Aside0.mk (HV12.out.keep (ch_grown (S := fun k => w9.heap.size ≤ k) hg (fun k e => AT12.out k e)) (fun s => by have := WLT.out;have := HB9.out.size;omega) (fun k hk s => by have := (OKD.out k hk).2;omega));have zg2 := blk_frozen HV13.out.blk 0;have yg2 := (blk_cell HV13.out.blk 0).trans rfl;obtain ⟨Al3,cl3,el⟩ := Kd.N_slice hv;clear hv hb3 hg hat g12 zg;subst el))
  go_ret
  have hL : L3 = putD r n L := by
    rw [← HL3.out]
    unfold putD;rw [if_pos HZ.out,List.append_nil]
  rw [← hL]
  have s9 := HB9.out.size
  have wl := WLT.out
  have cg : Ch (fun k => k = g) w12 (w12.setCell ⟨g,0,none⟩ (.slice Al3 L3.length cl3)) := (Ch.refl (fun k => k = g) w12).setCell (p := ⟨g,0,none⟩) (.inl rfl) _
  have dn : ∀ k,((D k ∨ NR k ∨ w9.heap.size ≤ k) ∧ k < w12.heap.size) → k ≠ g := fun k hk e => by
    rcases hk.1 with q | q | q
    · exact HV.out.g_not (e ▸ q)
    · have := (NR9.out k q).1;omega
    · omega
  have R1 : RefV (w12.setCell ⟨g,0,none⟩ (.slice Al3 L3.length cl3)) g Al3 cl3 L3 (fun k => (D k ∨ NR k ∨ w9.heap.size ≤ k) ∧ k < w12.heap.size) :=
    ⟨blk_put HV13.out.blk 0 _ rfl,(Kd.N_reads' N13.out).2.1,Kd.F_step (Kd.F_bound (Kd.N_F N13.out)) (fun k hk hlt => cg.block k hlt (dn k hk)),fun hk => dn g hk rfl,fun k hk => Nat.lt_of_lt_of_le hk.2 cg.size⟩
  have R2 : RefCh w (w12.setCell ⟨g,0,none⟩ (.slice Al3 L3.length cl3)) g D (fun k => (D k ∨ NR k ∨ w9.heap.size ≤ k) ∧ k < w12.heap.size) :=
    ⟨(Ch.of_below (S := fun k => k = g) HB13.out).then_ cg (fun k hk => .inl hk),fun k hk => hk.1.imp id (fun q => q.elim (fun q => (NR9.out k q).1) (fun q => by omega))⟩
  first
    | exact ⟨_,_,_,rfl,R1,R2⟩
    | exact ⟨rfl,_,_,_,R1,R2⟩
    | exact ⟨rfl,_,_,R1,R2⟩
set_option maxHeartbeats 4000000 in
set_option maxRecDepth 100000 in
theorem ref_addSN {D : Nat → Prop} (g : Nat) (A1 : Option Addr) (c1 : Nat) (L : List En) (A : Option Addr) (c : Nat) (r : Rw) (m n : Int) (y : En) (w : World) (h : RefV w g A1 c1 L D) (hs : SrtD L) (hk : OkD L) (hr : RowC w A c r) (hl : L.length ≤ 1000000)
    (hrt : rright r = true) (hn : manyD r L + m = n) (hok : okAdd r m L = true) (hz : n ≠ 0) (hf : fndD r L = some y) :
    Calls Try.prog 17 #[.pointer (some ⟨g,0,none⟩),.slice A r.length c,.int .i64 m] w fun e w' => ∃ A' c' D',e = .returned (.int .i64 0) ∧ RefV w' g A' c' (putD r n L) D' ∧ RefCh w w' g D D' := by
  have HV := Aside0.mk h
  have HS := Aside0.mk hs
  have HK := Aside0.mk hk
  have HR := Aside0.mk hr
  have HF := Aside0.mk hf
  have HN := Aside0.mk hn
  have RL := Aside0.mk (right_len hrt)
  have RT := Aside0.mk (rright_at A c r w hr)
  rw [hrt] at RT
  obtain ⟨k,hk0⟩ : ∃ k,manyD r L = k := ⟨_,rfl⟩
  have MK := Aside0.mk hk0
  obtain ⟨m0,m1⟩ := many_bd (r := r) hk
  rw [hk0] at m0 m1 hn
  have hok' := hok
  unfold okAdd at hok'
  rw [Bool.and_eq_true,Bool.and_eq_true,decide_eq_true_eq,decide_eq_true_eq,hk0,hn] at hok'
  obtain ⟨⟨b0,b1⟩,hfew⟩ := hok'
  have HFEW := Aside0.mk hfew
  have f0 := (few_iff.1 hfew).1
  have f1 := (few_iff.1 hfew).2
  have q1 : decide (m < -2147483648) = false := decide_eq_false (by omega)
  have q2 : decide (2147483648 < m) = false := decide_eq_false (by omega)
  have FEW := Aside0.mk (fun W => rfew_calls (k + m) W)
  rw [hn,hfew] at FEW
  have HN2 := Aside0.mk hn
  have q3 : (n != 0) = true := by simp [hz]
  have HZ := Aside0.mk hz
  obtain ⟨len,hlen⟩ : ∃ len,L.length = len := ⟨_,rfl⟩
  obtain ⟨at_,hat⟩ : ∃ at_,(loD r L).length = at_ := ⟨_,rfl⟩
  have HLEN := Aside0.mk hlen
  have HAT := Aside0.mk hat
  have al : at_ ≤ len := by have := lo_len r hs;omega
  have aB : at_ ≤ 1000000 := by omega
  have TK := Aside0.mk (take_lo (r := r) hs)
  have DP := Aside0.mk (drop_lo (r := r) hs)
  rw [hat] at TK DP
  rw [hf] at DP
  have aln : at_ < len := by
    rcases Nat.lt_or_ge at_ len with q | q
    · exact q
    · rw [fnd_end hs (by omega)] at hf;cases hf
  have hy : L[at_]? = some y := by
    have h1 := List.getElem?_eq_getElem (show at_ < L.length by omega)
    rcases (fnd_at (r := r) hs (x := L[at_]) (by rw [hat];exact h1)).2 with q | q
    · rw [hf] at q;rw [h1,q]
    · rw [hf] at q;cases q
  have HY := Aside0.mk hy
  have hyr : y.f0 = r := by
    have h1 := List.find?_some (show L.find? (fun x => decide (rcmp r x.f0 = 0)) = some y from hf)
    exact (rright_eq hrt (hk y (List.mem_of_find?_eq_some hf)).1 (of_decide_eq_true h1)).symm
  have HYR := Aside0.mk hyr
  have p0 : (0 : Int) ≤ (at_ : Int) := by omega
  have p1 : (at_ : Int) < (len : Int) := by omega
  have DPH := Aside0.mk (show L.drop (at_ + 1) = hiD r L by
    rw [← List.drop_drop,DP.out];rfl)
  obtain ⟨i0,hi0,hsz0⟩ : ∃ i0,Try.prog.info? 34 = some i0 ∧ i0.size = 2 := by
    obtain ⟨i0,hi,hz⟩ := Option.map_eq_some_iff.1 info34
    simp only [Prod.mk.injEq] at hz
    exact ⟨i0,hi,hz.2.1⟩
  have CT := Aside0.mk (cut_to 22 34 .i64 Try.underlying22 hi0 A1 len c1 (at_ : Int) (by omega) (by omega) (by have := h.cap;omega))
  have CF := Aside0.mk (cut_from 22 34 .i64 Try.underlying22 hi0 2 hsz0 A1 len c1 ((at_ : Int) + 1) (by omega) (by omega))
  simp only [Int.toNat_natCast] at CT
  rw [show (((at_ : Int) + 1) : Int).toNat = at_ + 1 by omega] at CF
  obtain ⟨A2,hA2⟩ : ∃ A2,(if c1 = at_ + 1 then A1 else A1.map (·.add ((at_ + 1) * 2))) = A2 := ⟨_,rfl⟩
  have HA2 := Aside0.mk hA2
  rw [hA2] at CF
  have hct := CT.out
  have hcf := CF.out
  clear CT CF
  have g0 := (blk_cell h.blk 0).trans rfl
  rw [hlen] at g0
  have WLT := Aside0.mk (blk_lt h.blk)
  clear h hs hk hr hf hn hk0 hrt hok hfew hz hlen hat hi0 hsz0 hA2 hyr hy
  go_enter Try.func17,Try.ntmps17
  go_wp2_with (fail)
  refine RT.out.mono ?_
  rintro e w1 ⟨rfl,hb⟩
  have HB1 := Aside0.mk hb
  have HV1 := Aside0.mk (HV.out.below hb)
  have HR1 := Aside0.mk (HR.out.below hb)
  clear hb RT
  go_wp2_with (fail)
  have MN := Aside0.mk (ref_many g A1 c1 L A c r w1 HV1.out HS.out HK.out HR1.out (by have := HLEN.out;omega))
  rw [MK.out] at MN
  refine MN.out.mono ?_
  rintro e w2 ⟨rfl,hb⟩
  have HB2 := Aside0.mk (HB1.out.trans (hb.mono HB1.out.size))
  have HV2 := Aside0.mk (HV1.out.below hb)
  have HR2 := Aside0.mk (HR1.out.below hb)
  clear hb HB1 HV1 HR1 MN
  go_wp2_with (fail)
  rw [HN2.out]
  refine (FEW.out w2).mono ?_
  rintro e w3 ⟨rfl,hd⟩
  have hb := hd.below
  have HB3 := Aside0.mk (HB2.out.trans (hb.mono HB2.out.size))
  have HV3 := Aside0.mk (HV2.out.below hb)
  have HR3 := Aside0.mk (HR2.out.below hb)
  clear hb hd HB2 HV2 HR2 FEW
  go_wp2_with (fail)
  have FN := Aside0.mk (ref_find g A1 c1 L A c r w3 HV3.out HS.out HK.out HR3.out (by have := HLEN.out;omega))
  rw [HAT.out,HF.out] at FN
  simp only [Option.isSome_some] at FN
  refine FN.out.mono ?_
  rintro e w4 ⟨rfl,hb⟩
  have HB4 := Aside0.mk (HB3.out.trans (hb.mono HB3.out.size))
  have HV4 := Aside0.mk (HV3.out.below hb)
  have HR4 := Aside0.mk (HR3.out.below hb)
  replace g0 := (blk_cell HV4.out.blk 0).trans rfl
  rw [HLEN.out] at g0
  clear hb HB3 HV3 HR3 FN
  go_upto_region 8 with (fail)
  rw [HN2.out]
  have BX5 := Aside0.mk (blk_new w4 (Obj.cells #[.slice none 0 0,.int .i64 n] 34))
  have HB5 := Aside0.mk (below_alloc HB4.out (Obj.cells #[.slice none 0 0,.int .i64 n] 34))
  have HV5 := Aside0.mk (HV4.out.below (below_alloc (Below.refl w4.heap.size w4) (Obj.cells #[.slice none 0 0,.int .i64 n] 34)))
  have HR5 := Aside0.mk (HR4.out.below (below_alloc (Below.refl w4.heap.size w4) (Obj.cells #[.slice none 0 0,.int .i64 n] 34)))
  have GE := Aside0.mk HB4.out.size
  obtain ⟨bx,hbx⟩ : ∃ bx,w4.heap.size = bx := ⟨_,rfl⟩
  rw [hbx] at BX5 GE ⊢
  clear hbx HB4 HV4 HR4 g0
  generalize w4.alloc (Obj.cells #[.slice none 0 0,.int .i64 n] 34) = w5 at *
  have z0 := blk_frozen BX5.out 0
  have y0 := (blk_cell BX5.out 0).trans rfl
  have y1 := (blk_cell BX5.out 1).trans rfl
  go_upto_region 9 with (((with_reducible refine gate_builtin (b := .append) (xs := #[.tmp 42,.tmp 43]) rfl ?_);at_builtin;refine Kd.R_append_rows k66 (w0 := w) w.heap.size rfl (.tmp 42) (.tmp 43) 23 66 (.agg #[(.int .i64 0),(.bool false),(.int .i64 0),(.string ⟨#[]⟩)]) 40 rfl Try.underlying23 info66 rfl (by decide) (by omega) (.slice none 0 0) [] r A r.length c (fun k => k ≠ bx) (fun _ => False) rfl rfl (Kd.R_nil _ _ _ _ _) HR5.out.row (fun x cs h => by rw [k66_open h];exact k66_mkM _ _ _ _) (fun _ h => h.elim) (fun k hk => by have := blk_lt BX5.out;omega) HB5.out HB5.out.size (by have := RL.out;rw [List.length_nil];omega) ?_;intro v1 w6 hv hb3 hg hat;have HV1 := Aside0.mk hv;have HB6 := Aside0.mk hb3;have HV6 := Aside0.mk (HV5.out.keep (ch_grown (S := fun _ => False) hg (fun k e => by cases e)) (fun s => s) (fun _ _ s => s));have BX6 := Aside0.mk (blk_grown BX5.out hg (by simp [Value.ownBlock]));have z6 := blk_frozen BX6.out 0;have y6 := (blk_cell BX6.out 0).trans rfl;obtain ⟨Ar,cr,er⟩ := Kd.R_slice hv;clear hv hb3 hg hat z0 y0 y1;subst er))
  have cb6 : Ch (fun k => k = bx) w6 (w6.setCell ⟨bx,0,none⟩ (.slice Ar r.length cr)) := (Ch.refl (fun k => k = bx) w6).setCell (p := ⟨bx,0,none⟩) (.inl rfl) _
  have BX7 := Aside0.mk (show (w6.setCell ⟨bx,0,none⟩ (.slice Ar r.length cr)).heap[bx]? = some (.cells #[.slice Ar r.length cr,.int .i64 n] 34 (0,0)) from blk_put BX6.out 0 _ rfl)
  have HV7 := Aside0.mk (HV6.out.keep cb6 (fun e => by have := WLT.out;have := GE.out;omega) (fun k hk e => by have := HV.out.lt k hk;have := GE.out;omega))
  have HB7 := Aside0.mk (HB6.out.setCell (p := ⟨bx,0,none⟩) GE.out (.slice Ar r.length cr))
  have HR7 := Aside0.mk (Kd.R_far (p := ⟨bx,0,none⟩) HV1.out (fun k hk => hk) (.slice Ar r.length cr))
  clear cb6 z6 y6 HV1
  generalize w6.setCell ⟨bx,0,none⟩ (.slice Ar r.length cr) = w7 at *
  have RR := Aside0.mk (show ∃ NR : Nat → Prop,(∀ k,NR k → w.heap.size ≤ k ∧ k < w7.heap.size ∧ k ≠ bx) ∧ Kd.F k66 w7 NR Ar r.length r ∧ r.length ≤ cr from ⟨fun k => k ≠ bx ∧ w.heap.size ≤ k ∧ k < w7.heap.size,fun k hk => ⟨hk.2.1,hk.2.2,hk.1⟩,Kd.F_mono (Kd.R_F (Kd.R_bound HR7.out)) (fun k hk => ⟨hk.1,hk.2.1,hk.2.2.1⟩),(Kd.R_reads' HR7.out).2.1⟩)
  obtain ⟨NR,hNR,hFR,hcr⟩ := RR.out
  have NR1 := Aside0.mk hNR
  have FR1 := Aside0.mk hFR
  have CR1 := Aside0.mk hcr
  clear hNR hFR hcr RR HR7
  have g7 := (blk_cell HV7.out.blk 0).trans rfl
  rw [HLEN.out] at g7
  obtain ⟨ad,A0,c0,e1,x0,x1,_,hc0,hF0⟩ := HV7.out.get (by have := HLEN.out;omega) HY.out
  subst e1
  rw [HYR.out] at x0 hc0 hF0
  have FR2 := Aside0.mk hF0
  have CR2 := Aside0.mk hc0
  have z7 := blk_frozen BX7.out 0
  have y7 := (blk_cell BX7.out 0).trans rfl
  clear hc0 hF0 x1
  go_upto_region 11 with (fail)
  have cb7 : Ch (fun k => k = bx) w7 (w7.setCell ⟨bx,0,none⟩ (.slice A0 r.length c0)) := (Ch.refl (fun k => k = bx) w7).setCell (p := ⟨bx,0,none⟩) (.inl rfl) _
  have BX9 := Aside0.mk (show (w7.setCell ⟨bx,0,none⟩ (.slice A0 r.length c0)).heap[bx]? = some (.cells #[.slice A0 r.length c0,.int .i64 n] 34 (0,0)) from blk_put BX7.out 0 _ rfl)
  have HV9 := Aside0.mk (HV7.out.keep cb7 (fun e => by have := WLT.out;have := GE.out;omega) (fun k hk e => by have := HV.out.lt k hk;have := GE.out;omega))
  have HB9 := Aside0.mk (HB7.out.setCell (p := ⟨bx,0,none⟩) GE.out (.slice A0 r.length c0))
  have FR9 := Aside0.mk (Kd.F_mono (ok' := fun k => D k ∨ NR k) (Kd.F_step FR2.out (W1 := w7.setCell ⟨bx,0,none⟩ (.slice A0 r.length c0)) (fun k hk hlt => cb7.block k hlt (fun e => by have := HV.out.lt k hk;have := GE.out;omega))) (fun k hk => .inl hk))
  have NR9 := Aside0.mk (show ∀ k,NR k → w.heap.size ≤ k ∧ k < (w7.setCell ⟨bx,0,none⟩ (.slice A0 r.length c0)).heap.size ∧ k ≠ bx from fun k hk => ⟨(NR1.out k hk).1,Nat.lt_of_lt_of_le (NR1.out k hk).2.1 cb7.size,(NR1.out k hk).2.2⟩)
  have CR9 := CR2
  clear cb7 z7 y7 x0 g7 FR1 FR2 NR1 CR1 CR2 BX7 HV7 HB7
  generalize w7.setCell ⟨bx,0,none⟩ (.slice A0 r.length c0) = w9 at *
  have OKD := Aside0.mk (fun k (hk : D k) => show (D k ∨ NR k ∨ w9.heap.size ≤ k) ∧ k < w9.heap.size from ⟨.inl hk,Nat.lt_of_lt_of_le (HV.out.lt k hk) HB9.out.size⟩)
  have FT := Aside0.mk (show Kd.F k34 w9 D (some ad) at_ (loD r L) by
    have h1 := Kd.F_take (m := at_) HV9.out.row (by have := HLEN.out;omega)
    rw [TK.out,HAT.out] at h1
    exact h1)
  have g9 := (blk_cell HV9.out.blk 0).trans rfl
  rw [HLEN.out] at g9
  go_upto_region 13 with (((with_reducible refine gate_builtin (b := .append) (xs := #[.tmp 56,.tmp 62]) rfl ?_);at_builtin;refine Kd.N_append_rows k34 (w0 := w) w.heap.size rfl (.tmp 56) (.tmp 62) 22 34 (.agg #[(.slice none 0 0),(.int .i64 0)]) 32 rfl Try.underlying22 info34 rfl (by decide) (by omega) (.slice none 0 0) [] (loD r L) (some ad) at_ c1 (fun k => D k ∨ NR k ∨ w9.heap.size ≤ k) D rfl rfl (Kd.N_nil _ _ _ _ _) FT.out (fun k hk => ⟨.inl hk,by simp [Value.ownBlock]⟩) (fun k hk => .inr (.inr hk)) HB9.out HB9.out.size (by have := HLEN.out;rw [List.length_nil];omega) ?_;intro v1 w10 hv hb3 hg hat;rw [List.nil_append] at hv;have N10 := Aside0.mk hv;have HB10 := Aside0.mk hb3;have AT10 := Aside0.mk (own_new hat);have N10S := Aside0.mk hg.size;have HV10 := Aside0.mk (HV9.out.keep (ch_grown (S := fun _ => False) hg (fun k e => by cases e)) (fun s => s) (fun _ _ s => s));have BX10 := Aside0.mk (blk_grown BX9.out hg (by simp [Value.ownBlock]));have FR10 := Aside0.mk (Kd.F_grown FR9.out hg (fun k hk => by simp [Value.ownBlock]));have y10 := (blk_cell BX10.out 0).trans rfl;have y11 := (blk_cell BX10.out 1).trans rfl;obtain ⟨Al,cl,el⟩ := Kd.N_slice hv;clear hv hb3 hg hat g9;subst el))
  have OKE := Aside0.mk (fun k (hk : D k ∨ NR k) => show (D k ∨ NR k ∨ w9.heap.size ≤ k) ∧ some k ≠ (Value.slice Al (loD r L).length cl).ownBlock from ⟨hk.imp id .inl,fun e => by have := AT10.out k e.symm;have : k < w9.heap.size := hk.elim (fun q => (OKD.out k q).2) (fun q => (NR9.out k q).2.1);omega⟩)
  go_upto_region 15 with (((with_reducible refine gate_builtin (b := .append) (xs := #[.tmp 67,.tmp 69]) rfl ?_);at_builtin;refine Kd.N_append k34 (w0 := w) w.heap.size rfl (.tmp 67) (.tmp 69) 22 34 (.agg #[(.slice none 0 0),(.int .i64 0)]) 32 rfl Try.underlying22 info34 rfl (by decide) (by omega) (.slice Al (loD r L).length cl) (loD r L) (⟨r,n⟩ : En) [.slice A0 r.length c0,.int .i64 n] (fun k => D k ∨ NR k ∨ w9.heap.size ≤ k) (fun k => D k ∨ NR k) rfl rfl (k34_mkF _ _ (⟨r,n⟩ : En) CR9.out FR10.out) OKE.out (fun k hk => .inr (.inr (by have h1 := HB10.out.size;have h2 := HB9.out.size;have h3 := N10S.out;omega))) N10.out HB10.out HB10.out.size (by have := HLEN.out;have := HAT.out;omega) ?_;intro v2 w11 hv hb3 hg hat;obtain ⟨L2,hL2⟩ : ∃ L2,loD r L ++ [(⟨r,n⟩ : En)] = L2 := ⟨_,rfl⟩;rw [hL2] at hv;have HL2 := Aside0.mk hL2;clear hL2;have N12 := Aside0.mk hv;have HB12 := Aside0.mk hb3;have N12S := Aside0.mk (Nat.le_trans N10S.out hg.size);have AT12 := Aside0.mk (own_new2 AT10.out N10S.out hat);have HV12 := Aside0.mk (HV10.out.keep (ch_grown (S := fun k => w9.heap.size ≤ k) hg (fun k e => AT10.out k e)) (fun s => by have := WLT.out;have := HB9.out.size;omega) (fun k hk s => by have := (OKD.out k hk).2;omega));obtain ⟨Al2,cl2,el⟩ := Kd.N_slice hv;clear hv hb3 hg hat y10 y11;subst el))
  have g12 := (blk_cell HV12.out.blk 0).trans rfl
  rw [HLEN.out] at g12
  clear N10 HB10 HV10 AT10 FR10
  have FT2 := Aside0.mk (show Kd.F k34 w11 D A2 (len - (at_ + 1)) (hiD r L) by
    have h1 := Kd.F_cut (c := c1) (m := (at_ + 1)) HV12.out.row (by have := HLEN.out;omega) HV12.out.cap
    rw [DPH.out] at h1
    have h2 : (hiD r L).length = len - (at_ + 1) := by rw [← DPH.out,List.length_drop,HLEN.out]
    rw [h2] at h1
    rw [← HA2.out]
    exact h1)
  have zg := blk_frozen HV12.out.blk 0
  go_wp2_with (((with_reducible refine gate_builtin (b := .append) (xs := #[.tmp 75,.tmp 81]) rfl ?_);at_builtin;refine Kd.N_append_rows k34 (w0 := w) w.heap.size rfl (.tmp 75) (.tmp 81) 22 34 (.agg #[(.slice none 0 0),(.int .i64 0)]) 32 rfl Try.underlying22 info34 rfl (by decide) (by omega) (.slice Al2 L2.length cl2) L2 (hiD r L) A2 (len - (at_ + 1)) (c1 - (at_ + 1)) (fun k => D k ∨ NR k ∨ w9.heap.size ≤ k) D rfl rfl N12.out FT2.out (fun k hk => ⟨.inl hk,fun e => by have := AT12.out k e.symm;have := (OKD.out k hk).2;omega⟩) (fun k hk => .inr (.inr (by have h1 := HB12.out.size;have h3 := N12S.out;omega))) HB12.out HB12.out.size (by have := HLEN.out;have := HAT.out;have hL2 := congrArg List.length HL2.out;rw [List.length_append] at hL2;simp at hL2;omega) ?_;intro v3 w12 hv hb3 hg hat;obtain ⟨L3,hL3⟩ : ∃ L3,L2 ++ hiD r L = L3 := ⟨_,rfl⟩;rw [hL3] at hv;have HL3 := Aside0.mk hL3;clear hL3;have N13 := Aside0.mk hv;have HB13 := Aside0.mk hb3;have HV13 := Aside0.mk (HV12.out.keep (ch_grown (S := fun k => w9.heap.size ≤ k) hg (fun k e => AT12.out k e)) (fun s => by have := WLT.out;have := HB9.out.size;omega) (fun k hk s => by have := (OKD.out k hk).2;omega));have zg2 := blk_frozen HV13.out.blk 0;have yg2 := (blk_cell HV13.out.blk 0).trans rfl;obtain ⟨Al3,cl3,el⟩ := Kd.N_slice hv;clear hv hb3 hg hat g12 zg;subst el))
  go_ret
  have hL : L3 = putD r n L := by
    rw [← HL3.out]
    rw [← HL2.out];unfold putD;rw [if_neg HZ.out]
  rw [← hL]
  have s9 := HB9.out.size
  have wl := WLT.out
  have cg : Ch (fun k => k = g) w12 (w12.setCell ⟨g,0,none⟩ (.slice Al3 L3.length cl3)) := (Ch.refl (fun k => k = g) w12).setCell (p := ⟨g,0,none⟩) (.inl rfl) _
  have dn : ∀ k,((D k ∨ NR k ∨ w9.heap.size ≤ k) ∧ k < w12.heap.size) → k ≠ g := fun k hk e => by
    rcases hk.1 with q | q | q
    · exact HV.out.g_not (e ▸ q)
    · have := (NR9.out k q).1;omega
    · omega
  have R1 : RefV (w12.setCell ⟨g,0,none⟩ (.slice Al3 L3.length cl3)) g Al3 cl3 L3 (fun k => (D k ∨ NR k ∨ w9.heap.size ≤ k) ∧ k < w12.heap.size) :=
    ⟨blk_put HV13.out.blk 0 _ rfl,(Kd.N_reads' N13.out).2.1,Kd.F_step (Kd.F_bound (Kd.N_F N13.out)) (fun k hk hlt => cg.block k hlt (dn k hk)),fun hk => dn g hk rfl,fun k hk => Nat.lt_of_lt_of_le hk.2 cg.size⟩
  have R2 : RefCh w (w12.setCell ⟨g,0,none⟩ (.slice Al3 L3.length cl3)) g D (fun k => (D k ∨ NR k ∨ w9.heap.size ≤ k) ∧ k < w12.heap.size) :=
    ⟨(Ch.of_below (S := fun k => k = g) HB13.out).then_ cg (fun k hk => .inl hk),fun k hk => hk.1.imp id (fun q => q.elim (fun q => (NR9.out k q).1) (fun q => by omega))⟩
  first
    | exact ⟨_,_,_,rfl,R1,R2⟩
    | exact ⟨rfl,_,_,_,R1,R2⟩
    | exact ⟨rfl,_,_,R1,R2⟩
set_option maxHeartbeats 4000000 in
set_option maxRecDepth 100000 in
theorem ref_addSZ {D : Nat → Prop} (g : Nat) (A1 : Option Addr) (c1 : Nat) (L : List En) (A : Option Addr) (c : Nat) (r : Rw) (m n : Int) (y : En) (w : World) (h : RefV w g A1 c1 L D) (hs : SrtD L) (hk : OkD L) (hr : RowC w A c r) (hl : L.length ≤ 1000000)
    (hrt : rright r = true) (hn : manyD r L + m = n) (hok : okAdd r m L = true) (hz : n = 0) (hf : fndD r L = some y) :
    Calls Try.prog 17 #[.pointer (some ⟨g,0,none⟩),.slice A r.length c,.int .i64 m] w fun e w' => ∃ A' c' D',e = .returned (.int .i64 0) ∧ RefV w' g A' c' (putD r n L) D' ∧ RefCh w w' g D D' := by
  have HV := Aside0.mk h
  have HS := Aside0.mk hs
  have HK := Aside0.mk hk
  have HR := Aside0.mk hr
  have HF := Aside0.mk hf
  have HN := Aside0.mk hn
  have RL := Aside0.mk (right_len hrt)
  have RT := Aside0.mk (rright_at A c r w hr)
  rw [hrt] at RT
  obtain ⟨k,hk0⟩ : ∃ k,manyD r L = k := ⟨_,rfl⟩
  have MK := Aside0.mk hk0
  obtain ⟨m0,m1⟩ := many_bd (r := r) hk
  rw [hk0] at m0 m1 hn
  have hok' := hok
  unfold okAdd at hok'
  rw [Bool.and_eq_true,Bool.and_eq_true,decide_eq_true_eq,decide_eq_true_eq,hk0,hn] at hok'
  obtain ⟨⟨b0,b1⟩,hfew⟩ := hok'
  have HFEW := Aside0.mk hfew
  have f0 := (few_iff.1 hfew).1
  have f1 := (few_iff.1 hfew).2
  have q1 : decide (m < -2147483648) = false := decide_eq_false (by omega)
  have q2 : decide (2147483648 < m) = false := decide_eq_false (by omega)
  have FEW := Aside0.mk (fun W => rfew_calls (k + m) W)
  rw [hn,hfew] at FEW
  have HN2 := Aside0.mk hn
  have q3 : (n != 0) = false := by simp [hz]
  have HZ := Aside0.mk hz
  obtain ⟨len,hlen⟩ : ∃ len,L.length = len := ⟨_,rfl⟩
  obtain ⟨at_,hat⟩ : ∃ at_,(loD r L).length = at_ := ⟨_,rfl⟩
  have HLEN := Aside0.mk hlen
  have HAT := Aside0.mk hat
  have al : at_ ≤ len := by have := lo_len r hs;omega
  have aB : at_ ≤ 1000000 := by omega
  have TK := Aside0.mk (take_lo (r := r) hs)
  have DP := Aside0.mk (drop_lo (r := r) hs)
  rw [hat] at TK DP
  rw [hf] at DP
  have aln : at_ < len := by
    rcases Nat.lt_or_ge at_ len with q | q
    · exact q
    · rw [fnd_end hs (by omega)] at hf;cases hf
  have hy : L[at_]? = some y := by
    have h1 := List.getElem?_eq_getElem (show at_ < L.length by omega)
    rcases (fnd_at (r := r) hs (x := L[at_]) (by rw [hat];exact h1)).2 with q | q
    · rw [hf] at q;rw [h1,q]
    · rw [hf] at q;cases q
  have HY := Aside0.mk hy
  have hyr : y.f0 = r := by
    have h1 := List.find?_some (show L.find? (fun x => decide (rcmp r x.f0 = 0)) = some y from hf)
    exact (rright_eq hrt (hk y (List.mem_of_find?_eq_some hf)).1 (of_decide_eq_true h1)).symm
  have HYR := Aside0.mk hyr
  have p0 : (0 : Int) ≤ (at_ : Int) := by omega
  have p1 : (at_ : Int) < (len : Int) := by omega
  have DPH := Aside0.mk (show L.drop (at_ + 1) = hiD r L by
    rw [← List.drop_drop,DP.out];rfl)
  obtain ⟨i0,hi0,hsz0⟩ : ∃ i0,Try.prog.info? 34 = some i0 ∧ i0.size = 2 := by
    obtain ⟨i0,hi,hz⟩ := Option.map_eq_some_iff.1 info34
    simp only [Prod.mk.injEq] at hz
    exact ⟨i0,hi,hz.2.1⟩
  have CT := Aside0.mk (cut_to 22 34 .i64 Try.underlying22 hi0 A1 len c1 (at_ : Int) (by omega) (by omega) (by have := h.cap;omega))
  have CF := Aside0.mk (cut_from 22 34 .i64 Try.underlying22 hi0 2 hsz0 A1 len c1 ((at_ : Int) + 1) (by omega) (by omega))
  simp only [Int.toNat_natCast] at CT
  rw [show (((at_ : Int) + 1) : Int).toNat = at_ + 1 by omega] at CF
  obtain ⟨A2,hA2⟩ : ∃ A2,(if c1 = at_ + 1 then A1 else A1.map (·.add ((at_ + 1) * 2))) = A2 := ⟨_,rfl⟩
  have HA2 := Aside0.mk hA2
  rw [hA2] at CF
  have hct := CT.out
  have hcf := CF.out
  clear CT CF
  have g0 := (blk_cell h.blk 0).trans rfl
  rw [hlen] at g0
  have WLT := Aside0.mk (blk_lt h.blk)
  clear h hs hk hr hf hn hk0 hrt hok hfew hz hlen hat hi0 hsz0 hA2 hyr hy
  go_enter Try.func17,Try.ntmps17
  go_wp2_with (fail)
  refine RT.out.mono ?_
  rintro e w1 ⟨rfl,hb⟩
  have HB1 := Aside0.mk hb
  have HV1 := Aside0.mk (HV.out.below hb)
  have HR1 := Aside0.mk (HR.out.below hb)
  clear hb RT
  go_wp2_with (fail)
  have MN := Aside0.mk (ref_many g A1 c1 L A c r w1 HV1.out HS.out HK.out HR1.out (by have := HLEN.out;omega))
  rw [MK.out] at MN
  refine MN.out.mono ?_
  rintro e w2 ⟨rfl,hb⟩
  have HB2 := Aside0.mk (HB1.out.trans (hb.mono HB1.out.size))
  have HV2 := Aside0.mk (HV1.out.below hb)
  have HR2 := Aside0.mk (HR1.out.below hb)
  clear hb HB1 HV1 HR1 MN
  go_wp2_with (fail)
  rw [HN2.out]
  refine (FEW.out w2).mono ?_
  rintro e w3 ⟨rfl,hd⟩
  have hb := hd.below
  have HB3 := Aside0.mk (HB2.out.trans (hb.mono HB2.out.size))
  have HV3 := Aside0.mk (HV2.out.below hb)
  have HR3 := Aside0.mk (HR2.out.below hb)
  clear hb hd HB2 HV2 HR2 FEW
  go_wp2_with (fail)
  have FN := Aside0.mk (ref_find g A1 c1 L A c r w3 HV3.out HS.out HK.out HR3.out (by have := HLEN.out;omega))
  rw [HAT.out,HF.out] at FN
  simp only [Option.isSome_some] at FN
  refine FN.out.mono ?_
  rintro e w4 ⟨rfl,hb⟩
  have HB4 := Aside0.mk (HB3.out.trans (hb.mono HB3.out.size))
  have HV4 := Aside0.mk (HV3.out.below hb)
  have HR4 := Aside0.mk (HR3.out.below hb)
  replace g0 := (blk_cell HV4.out.blk 0).trans rfl
  rw [HLEN.out] at g0
  clear hb HB3 HV3 HR3 FN
  go_upto_region 8 with (fail)
  rw [HN2.out]
  have BX5 := Aside0.mk (blk_new w4 (Obj.cells #[.slice none 0 0,.int .i64 n] 34))
  have HB5 := Aside0.mk (below_alloc HB4.out (Obj.cells #[.slice none 0 0,.int .i64 n] 34))
  have HV5 := Aside0.mk (HV4.out.below (below_alloc (Below.refl w4.heap.size w4) (Obj.cells #[.slice none 0 0,.int .i64 n] 34)))
  have HR5 := Aside0.mk (HR4.out.below (below_alloc (Below.refl w4.heap.size w4) (Obj.cells #[.slice none 0 0,.int .i64 n] 34)))
  have GE := Aside0.mk HB4.out.size
  obtain ⟨bx,hbx⟩ : ∃ bx,w4.heap.size = bx := ⟨_,rfl⟩
  rw [hbx] at BX5 GE ⊢
  clear hbx HB4 HV4 HR4 g0
  generalize w4.alloc (Obj.cells #[.slice none 0 0,.int .i64 n] 34) = w5 at *
  have z0 := blk_frozen BX5.out 0
  have y0 := (blk_cell BX5.out 0).trans rfl
  have y1 := (blk_cell BX5.out 1).trans rfl
  go_upto_region 9 with (((with_reducible refine gate_builtin (b := .append) (xs := #[.tmp 42,.tmp 43]) rfl ?_);at_builtin;refine Kd.R_append_rows k66 (w0 := w) w.heap.size rfl (.tmp 42) (.tmp 43) 23 66 (.agg #[(.int .i64 0),(.bool false),(.int .i64 0),(.string ⟨#[]⟩)]) 40 rfl Try.underlying23 info66 rfl (by decide) (by omega) (.slice none 0 0) [] r A r.length c (fun k => k ≠ bx) (fun _ => False) rfl rfl (Kd.R_nil _ _ _ _ _) HR5.out.row (fun x cs h => by rw [k66_open h];exact k66_mkM _ _ _ _) (fun _ h => h.elim) (fun k hk => by have := blk_lt BX5.out;omega) HB5.out HB5.out.size (by have := RL.out;rw [List.length_nil];omega) ?_;intro v1 w6 hv hb3 hg hat;have HV1 := Aside0.mk hv;have HB6 := Aside0.mk hb3;have HV6 := Aside0.mk (HV5.out.keep (ch_grown (S := fun _ => False) hg (fun k e => by cases e)) (fun s => s) (fun _ _ s => s));have BX6 := Aside0.mk (blk_grown BX5.out hg (by simp [Value.ownBlock]));have z6 := blk_frozen BX6.out 0;have y6 := (blk_cell BX6.out 0).trans rfl;obtain ⟨Ar,cr,er⟩ := Kd.R_slice hv;clear hv hb3 hg hat z0 y0 y1;subst er))
  have cb6 : Ch (fun k => k = bx) w6 (w6.setCell ⟨bx,0,none⟩ (.slice Ar r.length cr)) := (Ch.refl (fun k => k = bx) w6).setCell (p := ⟨bx,0,none⟩) (.inl rfl) _
  have BX7 := Aside0.mk (show (w6.setCell ⟨bx,0,none⟩ (.slice Ar r.length cr)).heap[bx]? = some (.cells #[.slice Ar r.length cr,.int .i64 n] 34 (0,0)) from blk_put BX6.out 0 _ rfl)
  have HV7 := Aside0.mk (HV6.out.keep cb6 (fun e => by have := WLT.out;have := GE.out;omega) (fun k hk e => by have := HV.out.lt k hk;have := GE.out;omega))
  have HB7 := Aside0.mk (HB6.out.setCell (p := ⟨bx,0,none⟩) GE.out (.slice Ar r.length cr))
  have HR7 := Aside0.mk (Kd.R_far (p := ⟨bx,0,none⟩) HV1.out (fun k hk => hk) (.slice Ar r.length cr))
  clear cb6 z6 y6 HV1
  generalize w6.setCell ⟨bx,0,none⟩ (.slice Ar r.length cr) = w7 at *
  have RR := Aside0.mk (show ∃ NR : Nat → Prop,(∀ k,NR k → w.heap.size ≤ k ∧ k < w7.heap.size ∧ k ≠ bx) ∧ Kd.F k66 w7 NR Ar r.length r ∧ r.length ≤ cr from ⟨fun k => k ≠ bx ∧ w.heap.size ≤ k ∧ k < w7.heap.size,fun k hk => ⟨hk.2.1,hk.2.2,hk.1⟩,Kd.F_mono (Kd.R_F (Kd.R_bound HR7.out)) (fun k hk => ⟨hk.1,hk.2.1,hk.2.2.1⟩),(Kd.R_reads' HR7.out).2.1⟩)
  obtain ⟨NR,hNR,hFR,hcr⟩ := RR.out
  have NR1 := Aside0.mk hNR
  have FR1 := Aside0.mk hFR
  have CR1 := Aside0.mk hcr
  clear hNR hFR hcr RR HR7
  have g7 := (blk_cell HV7.out.blk 0).trans rfl
  rw [HLEN.out] at g7
  obtain ⟨ad,A0,c0,e1,x0,x1,_,hc0,hF0⟩ := HV7.out.get (by have := HLEN.out;omega) HY.out
  subst e1
  rw [HYR.out] at x0 hc0 hF0
  have FR2 := Aside0.mk hF0
  have CR2 := Aside0.mk hc0
  have z7 := blk_frozen BX7.out 0
  have y7 := (blk_cell BX7.out 0).trans rfl
  clear hc0 hF0 x1
  go_upto_region 11 with (fail)
  have cb7 : Ch (fun k => k = bx) w7 (w7.setCell ⟨bx,0,none⟩ (.slice A0 r.length c0)) := (Ch.refl (fun k => k = bx) w7).setCell (p := ⟨bx,0,none⟩) (.inl rfl) _
  have BX9 := Aside0.mk (show (w7.setCell ⟨bx,0,none⟩ (.slice A0 r.length c0)).heap[bx]? = some (.cells #[.slice A0 r.length c0,.int .i64 n] 34 (0,0)) from blk_put BX7.out 0 _ rfl)
  have HV9 := Aside0.mk (HV7.out.keep cb7 (fun e => by have := WLT.out;have := GE.out;omega) (fun k hk e => by have := HV.out.lt k hk;have := GE.out;omega))
  have HB9 := Aside0.mk (HB7.out.setCell (p := ⟨bx,0,none⟩) GE.out (.slice A0 r.length c0))
  have FR9 := Aside0.mk (Kd.F_mono (ok' := fun k => D k ∨ NR k) (Kd.F_step FR2.out (W1 := w7.setCell ⟨bx,0,none⟩ (.slice A0 r.length c0)) (fun k hk hlt => cb7.block k hlt (fun e => by have := HV.out.lt k hk;have := GE.out;omega))) (fun k hk => .inl hk))
  have NR9 := Aside0.mk (show ∀ k,NR k → w.heap.size ≤ k ∧ k < (w7.setCell ⟨bx,0,none⟩ (.slice A0 r.length c0)).heap.size ∧ k ≠ bx from fun k hk => ⟨(NR1.out k hk).1,Nat.lt_of_lt_of_le (NR1.out k hk).2.1 cb7.size,(NR1.out k hk).2.2⟩)
  have CR9 := CR2
  clear cb7 z7 y7 x0 g7 FR1 FR2 NR1 CR1 CR2 BX7 HV7 HB7
  generalize w7.setCell ⟨bx,0,none⟩ (.slice A0 r.length c0) = w9 at *
  have OKD := Aside0.mk (fun k (hk : D k) => show (D k ∨ NR k ∨ w9.heap.size ≤ k) ∧ k < w9.heap.size from ⟨.inl hk,Nat.lt_of_lt_of_le (HV.out.lt k hk) HB9.out.size⟩)
  have FT := Aside0.mk (show Kd.F k34 w9 D (some ad) at_ (loD r L) by
    have h1 := Kd.F_take (m := at_) HV9.out.row (by have := HLEN.out;omega)
    rw [TK.out,HAT.out] at h1
    exact h1)
  have g9 := (blk_cell HV9.out.blk 0).trans rfl
  rw [HLEN.out] at g9
  go_upto_region 13 with (((with_reducible refine gate_builtin (b := .append) (xs := #[.tmp 56,.tmp 62]) rfl ?_);at_builtin;refine Kd.N_append_rows k34 (w0 := w) w.heap.size rfl (.tmp 56) (.tmp 62) 22 34 (.agg #[(.slice none 0 0),(.int .i64 0)]) 32 rfl Try.underlying22 info34 rfl (by decide) (by omega) (.slice none 0 0) [] (loD r L) (some ad) at_ c1 (fun k => D k ∨ NR k ∨ w9.heap.size ≤ k) D rfl rfl (Kd.N_nil _ _ _ _ _) FT.out (fun k hk => ⟨.inl hk,by simp [Value.ownBlock]⟩) (fun k hk => .inr (.inr hk)) HB9.out HB9.out.size (by have := HLEN.out;rw [List.length_nil];omega) ?_;intro v1 w10 hv hb3 hg hat;rw [List.nil_append] at hv;have N10 := Aside0.mk hv;have HB10 := Aside0.mk hb3;have AT10 := Aside0.mk (own_new hat);have N10S := Aside0.mk hg.size;have HV10 := Aside0.mk (HV9.out.keep (ch_grown (S := fun _ => False) hg (fun k e => by cases e)) (fun s => s) (fun _ _ s => s));have BX10 := Aside0.mk (blk_grown BX9.out hg (by simp [Value.ownBlock]));have FR10 := Aside0.mk (Kd.F_grown FR9.out hg (fun k hk => by simp [Value.ownBlock]));have y10 := (blk_cell BX10.out 0).trans rfl;have y11 := (blk_cell BX10.out 1).trans rfl;obtain ⟨Al,cl,el⟩ := Kd.N_slice hv;clear hv hb3 hg hat g9;subst el))
  have N12 := N10
  have HB12 := HB10
  have HV12 := HV10
  have AT12 := AT10
  have N12S := N10S
  have g12 := (blk_cell HV12.out.blk 0).trans rfl
  rw [HLEN.out] at g12
  clear N10 HB10 HV10 AT10 FR10
  have FT2 := Aside0.mk (show Kd.F k34 w10 D A2 (len - (at_ + 1)) (hiD r L) by
    have h1 := Kd.F_cut (c := c1) (m := (at_ + 1)) HV12.out.row (by have := HLEN.out;omega) HV12.out.cap
    rw [DPH.out] at h1
    have h2 : (hiD r L).length = len - (at_ + 1) := by rw [← DPH.out,List.length_drop,HLEN.out]
    rw [h2] at h1
    rw [← HA2.out]
    exact h1)
  have zg := blk_frozen HV12.out.blk 0
  go_wp2_with (((with_reducible refine gate_builtin (b := .append) (xs := #[.tmp 75,.tmp 81]) rfl ?_);at_builtin;refine Kd.N_append_rows k34 (w0 := w) w.heap.size rfl (.tmp 75) (.tmp 81) 22 34 (.agg #[(.slice none 0 0),(.int .i64 0)]) 32 rfl Try.underlying22 info34 rfl (by decide) (by omega) (.slice Al (loD r L).length cl) (loD r L) (hiD r L) A2 (len - (at_ + 1)) (c1 - (at_ + 1)) (fun k => D k ∨ NR k ∨ w9.heap.size ≤ k) D rfl rfl N12.out FT2.out (fun k hk => ⟨.inl hk,fun e => by have := AT12.out k e.symm;have := (OKD.out k hk).2;omega⟩) (fun k hk => .inr (.inr (by have h1 := HB12.out.size;have h3 := N12S.out;omega))) HB12.out HB12.out.size (by have := HLEN.out;have := HAT.out;omega) ?_;intro v3 w12 hv hb3 hg hat;obtain ⟨L3,hL3⟩ : ∃ L3,(loD r L) ++ hiD r L = L3 := ⟨_,rfl⟩;rw [hL3] at hv;have HL3 := Aside0.mk hL3;clear hL3;have N13 := Aside0.mk hv;have HB13 := Aside0.mk hb3;have HV13 := Aside0.mk (HV12.out.keep (ch_grown (S := fun k => w9.heap.size ≤ k) hg (fun k e => AT12.out k e)) (fun s => by have := WLT.out;have := HB9.out.size;omega) (fun k hk s => by have := (OKD.out k hk).2;omega));have zg2 := blk_frozen HV13.out.blk 0;have yg2 := (blk_cell HV13.out.blk 0).trans rfl;obtain ⟨Al3,cl3,el⟩ := Kd.N_slice hv;clear hv hb3 hg hat g12 zg;subst el))
  go_ret
  have hL : L3 = putD r n L := by
    rw [← HL3.out]
    unfold putD;rw [if_pos HZ.out,List.append_nil]
  rw [← hL]
  have s9 := HB9.out.size
  have wl := WLT.out
  have cg : Ch (fun k => k = g) w12 (w12.setCell ⟨g,0,none⟩ (.slice Al3 L3.length cl3)) := (Ch.refl (fun k => k = g) w12).setCell (p := ⟨g,0,none⟩) (.inl rfl) _
  have dn : ∀ k,((D k ∨ NR k ∨ w9.heap.size ≤ k) ∧ k < w12.heap.size) → k ≠ g := fun k hk e => by
    rcases hk.1 with q | q | q
    · exact HV.out.g_not (e ▸ q)
    · have := (NR9.out k q).1;omega
    · omega
  have R1 : RefV (w12.setCell ⟨g,0,none⟩ (.slice Al3 L3.length cl3)) g Al3 cl3 L3 (fun k => (D k ∨ NR k ∨ w9.heap.size ≤ k) ∧ k < w12.heap.size) :=
    ⟨blk_put HV13.out.blk 0 _ rfl,(Kd.N_reads' N13.out).2.1,Kd.F_step (Kd.F_bound (Kd.N_F N13.out)) (fun k hk hlt => cg.block k hlt (dn k hk)),fun hk => dn g hk rfl,fun k hk => Nat.lt_of_lt_of_le hk.2 cg.size⟩
  have R2 : RefCh w (w12.setCell ⟨g,0,none⟩ (.slice Al3 L3.length cl3)) g D (fun k => (D k ∨ NR k ∨ w9.heap.size ≤ k) ∧ k < w12.heap.size) :=
    ⟨(Ch.of_below (S := fun k => k = g) HB13.out).then_ cg (fun k hk => .inl hk),fun k hk => hk.1.imp id (fun q => q.elim (fun q => (NR9.out k q).1) (fun q => by omega))⟩
  first
    | exact ⟨_,_,_,rfl,R1,R2⟩
    | exact ⟨rfl,_,_,_,R1,R2⟩
    | exact ⟨rfl,_,_,R1,R2⟩
theorem ref_add {D : Nat → Prop} (g : Nat) (A1 : Option Addr) (c1 : Nat) (L : List En) (A : Option Addr) (c : Nat) (r : Rw) (m : Int) (w : World) (h : RefV w g A1 c1 L D) (hs : SrtD L) (hk : OkD L) (hr : RowC w A c r) (hl : L.length ≤ 1000000) :
    Calls Try.prog 17 #[.pointer (some ⟨g,0,none⟩),.slice A r.length c,.int .i64 m] w fun e w' => ∃ A' c' D',e = .returned (.int .i64 (addD r m L).1) ∧ RefV w' g A' c' (addD r m L).2 D' ∧ RefCh w w' g D D' := by
  by_cases hrt : rright r = true
  · rw [add_right hrt]
    by_cases hok : okAdd r m L = true
    · rw [if_pos hok]
      by_cases hz : manyD r L + m = 0
      · cases hf : fndD r L with
        | none => exact ref_addNZ g A1 c1 L A c r m _ w h hs hk hr hl hrt rfl hok hz hf
        | some y => exact ref_addSZ g A1 c1 L A c r m _ y w h hs hk hr hl hrt rfl hok hz hf
      · cases hf : fndD r L with
        | none => exact ref_addNN g A1 c1 L A c r m _ w h hs hk hr hl hrt rfl hok hz hf
        | some y => exact ref_addSN g A1 c1 L A c r m _ y w h hs hk hr hl hrt rfl hok hz hf
    · rw [if_neg hok]
      exact ref_addX g A1 c1 L A c r m w h hs hk hr hl hrt (by simpa using hok)
  · have e1 : addD r m L = (2,L) := by unfold addD;rw [if_neg hrt]
    rw [e1]
    exact ref_addR g A1 c1 L A c r m w h hr (by simpa using hrt)
end Go.Proofs.Ythmbfcfomcaaaaa.Z
end
section
namespace Go.Proofs.Ythmbfcfomcaaaaa.Z
set_option linter.unusedVariables false
set_option linter.unusedSimpArgs false
open Go.RowKit Go.Shelf Go.Proofs.YthmbfcfomcaaaaaW.PrintWords Go.Proofs.YthmbfcfomcaaaaaW.PrintLast Go.Proofs.YthmbfcfomcaaaaaW.PrintMore Go.Proofs.Ythmbfcfomcaaaaa.Cmp
attribute [local go_sem] Oper.semAt_some
def RowsS (Bl bx : Nat) (v : Value) (ex : Ent) (w' : World) : Prop := w'.cell? ⟨Bl,0,none⟩ = some v ∧ w'.cell? ⟨bx,0,none⟩ = some (.slice ex.A ex.row.length ex.c) ∧ w'.cell? ⟨bx,1,none⟩ = some (.int .i64 ex.many)
theorem heldS {W : World} {Bl bx t q : Nat} {v : Value} {ex : Ent} {l r : Tr} {k : Int} (h : W.heap[Bl]? = some (.cells #[v] t (0,0))) (hx : W.heap[bx]? = some (.cells (ncells ex l r k) q (0,0))) : RowsS Bl bx v ex W :=
  ⟨(blk_cell h 0).trans rfl,(blk_cell hx 0).trans rfl,(blk_cell hx 1).trans rfl⟩
theorem keepsO_below {W W' : World} (h : Below W.heap.size W W') : KeepsOthers W W' := ⟨h.size,fun k o hk _ => (h.block k (Array.getElem?_eq_some_iff.1 hk).1).trans hk⟩
theorem docT_items (t : Tr) : docT t = t.items.map docI := by unfold docT docE Tr.ents entsL;rw [List.map_map];rfl
def RowsI (w : World) (L : List En) (W : World) : Prop := ∃ v,W.heap[w.heap.size]? = some (.cells #[v] 22 (0,0)) ∧ Kd.R k34 34 W w.heap.size (fun k => k ≠ w.heap.size) v L
theorem own_rows (w : World) {α : Type} (f : List α → List En) (B : Nat) : OwnFrom B (fun pre W => RowsI w (f pre) W) := by
  rintro pre W W' row ⟨v,hb,hR⟩ hg hr
  have hne : ∀ {k : Nat} {cs : Array Value} {q : TypeId},W.heap[k]? = some (.cells cs q (0,0)) → some k ≠ row := fun {k cs q} hk e => by
    obtain ⟨_,o,ho,hc⟩ := hr k e.symm
    rw [hk] at ho
    cases ho
    cases hc
  refine ⟨v,blk_grown hb hg (hne hb),Kd.R_mono (Kd.R_grown (Kd.R_bound hR) hg (fun k hk => by obtain ⟨q,_,cs,hc⟩ := hk.2.2.2;exact hne hc)) (fun k hk => hk.1)⟩
set_option maxRecDepth 100000 in
set_option maxHeartbeats 4000000 in
theorem bag_rows {D : Nat → Prop} (b : Nat) (t : Tr) (w : World) (h : BagAt w b t D) (hs : t.size ≤ 1000000) :
    Calls Try.prog 34 #[.pointer (some ⟨b,0,none⟩)] w fun e w' => ∃ v,e = .returned v ∧ Kd.R k34 34 w' w.heap.size (fun _ => True) v (docT t) ∧ Below w.heap.size w w' := by
  have HA := Aside0.mk h
  have HS := Aside0.mk hs
  have c0 := blk_cell h.blk 0
  simp only [bcells,List.getElem?_toArray,List.getElem?_cons_zero] at c0
  have hb := h.lt.1
  have NALL := Aside0.mk (fun w' => nd_all t w')
  have STOPS := Aside0.mk (fun Bt w' hBt hn hc hT => nd_all_stops (D := D) 2 Bt w.heap.size t w' hBt hn hc hT)
  obtain ⟨q0,hq0⟩ := ptr_case t
  have HQ0 := Aside0.mk hq0
  rw [hq0] at c0 NALL STOPS
  clear h hs hq0
  have hdd : ∀ k : Nat,(Fence.wide.depth.isSome = true → 1 ≤ k) := fun k h => by cases h
  have hwA : Fence.wide.fn 76 := trivial
  have hwC : Fence.wide.fn 63 := trivial
  refine (callsIn_wide (n := 3)).1 ?_
  refine callsIn_of_wp_marks Try.func34 rfl trivial ?_ rfl
  simp only [Try.ntmps34,List.size_toArray,List.length_cons,List.length_nil,Nat.reduceAdd,Nat.reduceSub,Array.replicate_succ,Array.replicate_zero,List.push_toArray,List.append_toArray,List.nil_append,List.cons_append]
  gi_wp2_with ((try refine ⟨hdd _,?_⟩);gi_at_call 76;refine (callsIn_wide.2 (NALL.out _)).mono ?_;rintro e w' ⟨rfl,rfl⟩)
  obtain ⟨B0,hB0e⟩ : ∃ B0,w.heap.size = B0 := ⟨_,rfl⟩
  have hB0 : Below w.heap.size w ((w.alloc (.cells #[.slice none 0 0] 22)).alloc (.cells #[.pointer q0] 81)) := below_alloc (below_alloc (Below.refl _ _) _) _
  have hbx0 : ((w.alloc (.cells #[.slice none 0 0] 22)).alloc (.cells #[.pointer q0] 81)).heap[w.heap.size]? = some (.cells #[.slice none 0 0] 22 (0,0)) := blk_alloc (blk_new w _) _
  have hbn : ((w.alloc (.cells #[.slice none 0 0] 22)).alloc (.cells #[.pointer q0] 81)).cell? ⟨w.heap.size + 1,0,none⟩ = some (.pointer q0) := by
    have := blk_new (w.alloc (.cells #[.slice none 0 0] 22)) (.cells #[.pointer q0] 81)
    rw [World.size_alloc] at this
    exact (blk_cell this 0).trans rfl
  have hT : InB w.heap.size ((w.alloc (.cells #[.slice none 0 0] 22)).alloc (.cells #[.pointer q0] 81)) D t := ⟨(HA.out.below hB0).tree.inn,HA.out.lt.2.1,HA.out.lt.2.2⟩
  clear hB0e
  refine wpIn_rangeFunc_ownG (F := Fence.wide) (n := 3) rfl (by omega) (gf := 97) (lb := #[.pointer (some ⟨w.heap.size + 1,0,none⟩)]) rfl trivial (enters_of Try.func97 (by kernel_rfl) rfl) (STOPS.out (w.heap.size + 1) _ (by simp) (by simp;omega) hbn hT) belowK_t (belowK_b (by simp;omega)) (Below.refl _ _) (fun _ => rfl)
    (fun pre W => RowsI w (pre.map (fun y => docI y.1)) W ∧ Below w.heap.size w W) (fun _ _ _ => False)
    (OwnFrom.and (own_rows w (fun pre : List { x : Nat × Ent // x ∈ t.items } => pre.map (fun y => docI y.1)) _) (ownFrom_below (Nat.le_refl _) (by simp;omega))) (fun _ _ _ _ _ hs _ _ => hs)
    ⟨⟨.slice none 0 0,hbx0,Kd.R_nil _ _ _ _ _⟩,hB0⟩
    (fun x => { tmps := #[.pointer (some ⟨b,0,none⟩),undef,.slice none 0 0,.pointer (some ⟨w.heap.size,0,none⟩),.pointer (some ⟨x.1.1,0,none⟩),.pointer (some ⟨b,0,none⟩),.bool false,.pointer (some ⟨b,0,none⟩),.pointer (some ⟨b,0,none⟩),.pointer (some ⟨b,0,none⟩),.pointer q0,.func (.func 97) #[] #[.pointer (some ⟨w.heap.size + 1,0,none⟩)],.pointer (some ⟨x.1.1,0,none⟩),undef,undef,undef,undef,undef,undef,undef,undef,undef,undef,undef,undef,undef,undef,undef,undef],defers := [] }) ?assign ?body ?done ?stop
  case assign =>
    intro l x W K hK
    simp only [ptrOf]
    gi_wp2
    exact hK
  case body =>
    rintro l pre ⟨x,hx⟩ W ⟨⟨v,hbx,hR⟩,hB⟩ hlt
    obtain ⟨bx,ex⟩ := x
    obtain ⟨tl,tr,k,hnx,hex⟩ := (HA.out.below hB).tree.inn.node_of _ hx
    obtain ⟨L,hL⟩ : ∃ L,pre.map (fun y => docI y.1) = L := ⟨_,rfl⟩
    have HL := Aside0.mk hL
    have LPR := Aside0.mk (show L.length < 1000000 by have h1 := HS.out;unfold Tr.size at h1;rw [← hL,List.length_map];omega)
    change Kd.R _ _ _ _ _ _ (pre.map (fun y => docI y.1)) at hR
    rw [hL] at hR
    clear hL
    have BX1 := Aside0.mk (show W.drew.heap[w.heap.size]? = some (.cells #[v] 22 (0,0)) from hbx)
    have NX1 := Aside0.mk (show W.drew.heap[bx]? = some (.cells (ncells ex tl tr k) 90 (0,0)) from hnx)
    have HRW := Aside0.mk (Kd.R_drew hR)
    have HBW := Aside0.mk (below_drew1 hB)
    have RL := right_len (HA.out.ok.item hx).1
    have CLN := Aside0.mk (clone_at ex.A ex.c ex.row W.drew (hex.c.below (below_drew1 (Below.refl _ _))) (by have : ex.row.length ≤ 40 := RL;omega))
    obtain ⟨Av,cv,ev⟩ := Kd.R_slice hR
    have KO := Aside0.mk (KeepsOthers.drew W)
    have HD := Aside0.mk (show Below w.heap.size W W.drew from below_drew1 (Below.refl _ _))
    have LTB := Aside0.mk (blk_lt BX1.out)
    clear hbx hnx hR hB hex RL
    subst ev
    gi_wp2
    refine startR_ (m := 16) (S := RowsS w.heap.size bx (.slice Av L.length cv) ex) (ds := [15]) #[false,false,false,false,false,false,false,false,false,false,false,false,false,false,false,false] (by kernel_rfl) (noDefer_at (by kernel_rfl)) (fun ⟨_,_,h⟩ => h) rfl rfl (heldS BX1.out NX1.out) (fun hHeld => ?_)
    generalize W.drew = W1 at *
    refine pure_ (i := 1) (N := some 14) (v := ?_) (a' := ?_) #[false,true,false,false,false,false,false,false,false,false,false,false,false,false,false,false] rfl rfl (by kernel_rfl) (fun _ _ _ h => h) (Or.inl ⟨by rfl,?_⟩) ?_ ?_
    rotate_left
    · intro w'
      go_simp
      with_reducible rfl
    rotate_left
    · simp only [Act.put,zA,zB,zC,i64_w,i32_w]
      rfl
    refine pure_ (i := 2) (N := some 15) (v := ?_) (a' := ?_) #[false,true,true,false,false,false,false,false,false,false,false,false,false,false,false,false] rfl rfl (by kernel_rfl) (fun _ _ _ h => h) (Or.inl ⟨by rfl,?_⟩) ?_ ?_
    rotate_left
    · intro w'
      go_simp
      with_reducible rfl
    rotate_left
    · simp only [Act.put,zA,zB,zC,i64_w,i32_w]
      rfl
    refine pure_ (i := 3) (N := some 16) (v := ?_) (a' := ?_) #[false,true,true,true,false,false,false,false,false,false,false,false,false,false,false,false] rfl rfl (by kernel_rfl) (fun _ _ _ h => h) (Or.inl ⟨by rfl,?_⟩) ?_ ?_
    rotate_left
    · intro w'
      go_simp
      with_reducible rfl
    rotate_left
    · simp only [Act.put,zA,zB,zC,i64_w,i32_w]
      rfl
    refine pure_ (i := 4) (N := some 17) (v := ?_) (a' := ?_) #[false,true,true,true,true,false,false,false,false,false,false,false,false,false,false,false] rfl rfl (by kernel_rfl) (fun _ _ _ h => h) (Or.inl ⟨by rfl,?_⟩) ?_ ?_
    rotate_left
    · intro w'
      go_simp
      with_reducible rfl
    rotate_left
    · simp only [Act.put,zA,zB,zC,i64_w,i32_w]
      rfl
    refine pure_ (i := 7) (N := some 20) (v := ?_) (a' := ?_) #[false,true,true,true,true,false,false,true,false,false,false,false,false,false,false,false] rfl rfl (by kernel_rfl) (fun _ _ _ h => h) (Or.inl ⟨by rfl,?_⟩) ?_ ?_
    rotate_left
    · intro w'
      go_simp
      with_reducible rfl
    rotate_left
    · simp only [Act.put,zA,zB,zC,i64_w,i32_w]
      rfl
    refine pure_ (i := 8) (N := some 21) (v := ?_) (a' := ?_) #[false,true,true,true,true,false,false,true,true,false,false,false,false,false,false,false] rfl rfl (by kernel_rfl) (fun _ _ _ h => h) (Or.inl ⟨by rfl,?_⟩) ?_ ?_
    rotate_left
    · intro w'
      go_simp
      with_reducible rfl
    rotate_left
    · simp only [Act.put,zA,zB,zC,i64_w,i32_w]
      rfl
    refine pure_ (i := 9) (N := some 22) (v := ?_) (a' := ?_) #[false,true,true,true,true,false,false,true,true,true,false,false,false,false,false,false] rfl rfl (by kernel_rfl) (fun _ _ _ h => h) (Or.inl ⟨by rfl,?_⟩) ?_ ?_
    rotate_left
    · intro w'
      go_simp
      with_reducible rfl
    rotate_left
    · simp only [Act.put,zA,zB,zC,i64_w,i32_w]
      rfl
    refine pure_ (i := 10) (N := some 23) (v := ?_) (a' := ?_) #[false,true,true,true,true,false,false,true,true,true,true,false,false,false,false,false] rfl rfl (by kernel_rfl) (fun _ _ _ h => h) (Or.inl ⟨by rfl,?_⟩) ?_ ?_
    rotate_left
    · intro w'
      go_simp
      with_reducible rfl
    rotate_left
    · simp only [Act.put,zA,zB,zC,i64_w,i32_w]
      rfl
    refine take_ (i := 0) (N := some 13) (v := ?_) (a' := ?_) #[true,true,true,true,true,false,false,true,true,true,true,false,false,false,false,false] rfl rfl (by kernel_rfl) (fun _ _ _ h => h) (Or.inl ⟨by rfl,?_⟩) hHeld ?_ ?_
    rotate_left
    · rintro w' ⟨s0,s1,s2⟩
      go_simp
      with_reducible rfl
    rotate_left
    · simp only [Act.put,zA,zB,zC,i64_w,i32_w]
      rfl
    refine take_ (i := 5) (N := some 18) (v := ?_) (a' := ?_) #[true,true,true,true,true,true,false,true,true,true,true,false,false,false,false,false] rfl rfl (by kernel_rfl) (fun _ _ _ h => h) (Or.inl ⟨by rfl,?_⟩) hHeld ?_ ?_
    rotate_left
    · rintro w' ⟨s0,s1,s2⟩
      go_simp
      with_reducible rfl
    rotate_left
    · simp only [Act.put,zA,zB,zC,i64_w,i32_w]
      rfl
    refine take_ (i := 11) (N := some 24) (v := ?_) (a' := ?_) #[true,true,true,true,true,true,false,true,true,true,true,true,false,false,false,false] rfl rfl (by kernel_rfl) (fun _ _ _ h => h) (Or.inl ⟨by rfl,?_⟩) hHeld ?_ ?_
    rotate_left
    · rintro w' ⟨s0,s1,s2⟩
      go_simp
      with_reducible rfl
    rotate_left
    · simp only [Act.put,zA,zB,zC,i64_w,i32_w]
      rfl
    refine one_ (i := 6) (N := some 19) #[true,true,true,true,true,true,true,true,true,true,true,true,false,false,false,false] rfl rfl (by kernel_rfl) (by decide) (fun K hK => ?_)
    refine goes_ Try.func63 (by kernel_rfl) rfl #[.slice ex.A ex.row.length ex.c] (by rfl) rfl rfl (by (try simp only [List.map_toArray,List.map_cons,List.map_nil]);first | done | rfl) ?_
    refine (CLN.out.mono ?_)
    rintro e w2 ⟨v1,rfl,hv,hb⟩
    refine ⟨_,rfl,?_⟩
    have HV := Aside0.mk hv
    have B2 := Aside0.mk hb
    have BX2 := Aside0.mk (blk_below BX1.out hb)
    have NX2 := Aside0.mk (blk_below NX1.out hb)
    obtain ⟨A1,c1,e1⟩ := Kd.R_slice hv
    clear hv hb CLN BX1 NX1
    subst e1
    refine hK.out _ _ (heldS BX2.out NX2.out) (fun hHeld => ?_)
    clear hK K
    refine norm_ (a' := ?_) ?_ ?_
    rotate_left
    · show Act.put _ (some 19) _ = _
      simp only [Act.put,zA,zB,zC,i64_w,i32_w]
      rfl
    refine pure_ (i := 12) (N := some 25) (v := ?_) (a' := ?_) #[true,true,true,true,true,true,true,true,true,true,true,true,true,false,false,false] rfl rfl (by kernel_rfl) (fun _ _ _ h => h) (Or.inl ⟨by rfl,?_⟩) ?_ ?_
    rotate_left
    · intro w'
      go_simp
      with_reducible rfl
    rotate_left
    · simp only [Act.put,zA,zB,zC,i64_w,i32_w]
      rfl
    refine one_ (i := 13) (N := some 26) #[true,true,true,true,true,true,true,true,true,true,true,true,true,true,false,false] rfl rfl (by kernel_rfl) (by decide) (fun K hK => ?_)
    refine value_ (w1 := ?_) (v := ?_) (by rfl) rfl ?_ ?_
    rotate_left 2
    · go_simp
      constructor
      · rfl
      · rfl
    refine hK.out _ _ (heldS (blk_alloc BX2.out _) (blk_alloc NX2.out _)) (fun hHeld => ?_)
    clear hK K
    refine norm_ (a' := ?_) ?_ ?_
    rotate_left
    · show Act.put _ (some 26) _ = _
      simp only [Act.put,zA,zB,zC,i64_w,i32_w]
      rfl
    refine one_ (i := 14) (N := some 27) #[true,true,true,true,true,true,true,true,true,true,true,true,true,true,true,false] rfl rfl (by kernel_rfl) (by decide) (fun K hK => ?_)
    have HRW2 := Aside0.mk (Kd.R_below HRW.out B2.out)
    have APM := Aside0.mk (show Kd.R k66 66 w2 w.heap.size (fun k => W1.heap.size ≤ k) (.slice A1 ex.row.length c1) ex.row from Kd.R_lower (Kd.R_mono (Kd.R_bound HV.out) (fun k hk => hk.2.1)) (Nat.le_of_lt LTB.out))
    have APK := Aside0.mk (fun k (hk : W1.heap.size ≤ k) => show k ≠ w.heap.size ∧ some k ≠ ((.slice Av L.length cv) : Value).ownBlock from ⟨by have := LTB.out;omega,fun e => by have := Kd.R_lt HRW.out k e.symm;omega⟩)
    refine Kd.R_append_step k34 (w0 := w) w.heap.size (by rfl) (.tmp 13) (.tmp 26) 22 34 (.agg #[(.slice none 0 0),(.int .i64 0)]) 32 rfl Try.underlying22 info34 rfl (by decide) (by omega) (.slice Av L.length cv) L (⟨ex.row,ex.many⟩ : En) [.slice A1 ex.row.length c1,.int .i64 ex.many] (fun k => k ≠ w.heap.size) (fun k => W1.heap.size ≤ k) rfl rfl (k34_mkM _ _ _ (⟨ex.row,ex.many⟩ : En) APM.out) APK.out (fun k hk => by have := LTB.out;have := B2.out.size;omega) HRW2.out (HBW.out.trans (B2.out.mono HBW.out.size)) (by have := LTB.out;have := B2.out.size;omega) (by have := LPR.out;omega) ?_
    intro v3 w3 ho hb3 hg hat
    have BX3 := Aside0.mk (blk_grown BX2.out hg (fun e => (HRW2.out.1 _ e.symm) rfl))
    have NX3 := Aside0.mk (blk_grown NX2.out hg (fun e => by have h1 := (Kd.R_typed HRW2.out) _ e.symm;obtain ⟨cs,hcs⟩ := h1;rw [NX2.out] at hcs;cases hcs))
    have HO := Aside0.mk ho
    have HB3 := Aside0.mk hb3
    have KO3 := Aside0.mk ((KO.out.trans (keepsO_below B2.out)).trans (KeepsOthers.of_grownBy hg (fun j o e ho2 => by obtain ⟨cs,hcs⟩ := Kd.R_typed HRW2.out j e;rw [hcs] at ho2;cases ho2;rfl)))
    have HD3 := Aside0.mk ((HD.out.trans (B2.out.mono (by have := HBW.out.size;omega))).grown hg (by have := HBW.out.size;have := B2.out.size;omega) (fun k e => Kd.R_base HRW2.out k e))
    obtain ⟨A3,c3,e3⟩ := Kd.R_slice ho
    clear ho hb3 hg hat
    subst e3
    refine hK.out _ _ (heldS BX3.out NX3.out) (fun hHeld => ?_)
    clear hK K
    refine norm_ (a' := ?_) ?_ ?_
    rotate_left
    · show Act.put _ (some 27) _ = _
      simp only [Act.put,zA,zB,zC,i64_w,i32_w]
      rfl
    refine last_ (i := 15) (N := none) #[true,true,true,true,true,true,true,true,true,true,true,true,true,true,true,true] rfl rfl (by kernel_rfl) (by decide) (fun K hK => ?_)
    have z0 := blk_frozen BX3.out 0
    have y0 := (blk_cell BX3.out 0).trans rfl
    refine skip_ (w1 := w3.setCell ⟨w.heap.size,0,none⟩ (.slice A3 (L ++ [(⟨ex.row,ex.many⟩ : En)]).length c3)) (by rfl) rfl ?_ ?_
    · go_simp
      try with_reducible rfl
    refine hK.out _ _ ?_
    clear hK K
    refine done_ (by kernel_rfl) ?_
    show KeepsFrom _ _ _ ∧ Below _ _ _ ∧ RowsI _ _ _ ∧ Below _ _ _
    refine ⟨(KO3.out.trans (KeepsOthers.setCell _ _ _)).from _,HD3.out.setCell (Nat.le_refl _) _,⟨_,blk_put BX3.out 0 _ rfl,?_⟩,HB3.out.setCell (Nat.le_refl _) _⟩
    rw [List.map_append,HL.out]
    exact Kd.R_far (p := ⟨w.heap.size,0,none⟩) HO.out (fun k hk => hk) _
  case done =>
    rintro D2 ys W hD2 hys ⟨⟨v,hbx,hR⟩,hB⟩ hK
    have hd : ys.map (fun y => docI y.1) = docT t := by
      have h1 := congrArg (List.map docI) hys
      rw [List.map_map] at h1
      exact h1.trans (docT_items t).symm
    change Kd.R _ _ _ _ _ _ (ys.map (fun y => docI y.1)) at hR
    rw [hd] at hR
    clear hd
    obtain ⟨A9,c9,e9⟩ := Kd.R_slice hR
    have HR9 := Aside0.mk hR
    have HB9 := Aside0.mk hB
    have LK := Aside0.mk (show D2 ≠ w.heap.size by simp at hD2;omega)
    have y0 := (blk_cell hbx 0).trans rfl
    have HK := Aside0.mk hK
    have HYS := Aside0.mk hys
    have HD2 := Aside0.mk hD2
    clear hR hB hbx hK hys hD2
    subst e9
    gi_wp2
    refine ⟨by simp,.inl ⟨_,_,rfl,run_takeDeferred HK.out,?_⟩⟩
    have hg := grownBy_putObj' W D2 (.deferred none)
    have hR' := Kd.R_mono (ok' := fun _ => True) (Kd.R_grown (Kd.R_bound HR9.out) hg (fun k hk e => by
      obtain ⟨q,_,cs,hc⟩ := hk.2.2.2
      injection e with e
      subst e
      rw [HK.out] at hc
      cases hc)) (fun _ _ => trivial)
    exact ⟨_,results_tmp rfl _ _ _,.slice A9 (docT t).length c9,rfl,hR',HB9.out.trans (belowK_b (w := w) (Nat.le_refl _) W D2 _ _ (by have := HD2.out;simp at this;omega) HK.out rfl rfl)⟩
  case stop =>
    rintro D2 c pre W _ _ h _
    exact h.elim
end Go.Proofs.Ythmbfcfomcaaaaa.Z
end
section
namespace Go.Proofs.Ythmbfcfomcaaaaa.Z
open Go.RowKit Go.Proofs.YthmbfcfomcaaaaaW.PrintWords Go.Proofs.YthmbfcfomcaaaaaW.PrintLast Go.Proofs.YthmbfcfomcaaaaaW.PrintMore
attribute [local go_sem] max2_int min2_int max_two min_two max_three min_three max_four min_four
set_option linter.unusedVariables false
set_option linter.unusedSimpArgs false
def verdererref05_Alike.l0 : Nat → List (S34) → List (S34) → Int → Option (Bool)
  | 0,_,_,_ => none
  | k + 1,x0,x1,x5 => if x5 < (x0.length : Int) then (if 0 ≤ x5 then (if x5 < (x1.length : Int) then (if ((rd_T34 x0 x5).f1) = ((rd_T34 x1 x5).f1) then ((verdererref02_Equal.f k ((rd_T34 x0 x5).f0) ((rd_T34 x1 x5).f0)).bind fun t173 => (if t173 = true then (verdererref05_Alike.l0 k x0 x1 (wrap64 (x5 + 1))) else (some false))) else (some false)) else (none)) else (none)) else (some true)
def verdererref05_Alike.f (k : Nat) (l0 : List (S34)) (l1 : List (S34)) : Option (Bool) := if (l0.length : Int) = (l1.length : Int) then (verdererref05_Alike.l0 k l0 l1 0) else (some false)
theorem verdererref05_Alike.mono_l : ∀ k,(∀ y0 y1 y2,LeO (verdererref05_Alike.l0 k y0 y1 y2) (verdererref05_Alike.l0 (k + 1) y0 y1 y2))
  | 0 => fun _ _ _ r h => by simp [verdererref05_Alike.l0] at h
  | k + 1 => by
    have ih0 := verdererref05_Alike.mono_l k
    · intro y0 y1 y2
      unfold verdererref05_Alike.l0
      repeat' first
      | (with_reducible exact ih0 _ _ _)
      | (with_reducible exact verdererref02_Equal.mono _ _ _)
      | (with_reducible exact LeO.refl _)
      | (with_reducible exact LeO.none _)
      | (with_reducible refine LeO.ite ?_ ?_)
      | (with_reducible refine LeO.bind ?_ (fun _ => ?_))
      | exact ih0 _ _ _
      | exact verdererref02_Equal.mono _ _ _
      | exact LeO.none _
      | refine LeO.ite ?_ ?_
      | refine LeO.bind ?_ (fun _ => ?_)
theorem verdererref05_Alike.mono : ∀ a0 a1 k,LeO (verdererref05_Alike.f k a0 a1) (verdererref05_Alike.f (k + 1) a0 a1) := by
  intro a0 a1 k
  have ih0 := verdererref05_Alike.mono_l k
  unfold verdererref05_Alike.f
  repeat' first
      | (with_reducible exact ih0 _ _ _)
      | (with_reducible exact verdererref02_Equal.mono _ _ _)
      | (with_reducible exact LeO.refl _)
      | (with_reducible exact LeO.none _)
      | (with_reducible refine LeO.ite ?_ ?_)
      | (with_reducible refine LeO.bind ?_ (fun _ => ?_))
      | exact ih0 _ _ _
      | exact verdererref02_Equal.mono _ _ _
      | exact LeO.none _
      | refine LeO.ite ?_ ?_
      | refine LeO.bind ?_ (fun _ => ?_)
set_option maxHeartbeats 8000000 in
set_option maxRecDepth 100000 in
theorem verdererref05_Alike.calls (k : Nat) (A0 : Option Addr) (c0 : Nat) (l0 : List (S34)) (A1 : Option Addr) (c1 : Nat) (l1 : List (S34)) (r : Bool) (w : World) (hr0 : Kd.C k34 w A0 l0.length l0) (hc0 : l0.length ≤ c0) (hr1 : Kd.C k34 w A1 l1.length l1) (hc1 : l1.length ≤ c1) (h : verdererref05_Alike.f k l0 l1 = some r) :
    Calls Try.prog 31 #[.slice A0 l0.length c0,.slice A1 l1.length c1] w fun e w' => e = .returned (.bool r) ∧ Drawn0 w w' := by
  have HR0 := Aside0.mk hr0
  have HC0 := Aside0.mk hc0
  clear hr0 hc0
  have HR1 := Aside0.mk hr1
  have HC1 := Aside0.mk hc1
  clear hr1 hc1
  have H : (if (l0.length : Int) = (l1.length : Int) then (verdererref05_Alike.l0 k l0 l1 0) else (some false)) = some r := h
  clear h
  by_cases c3 : (l0.length : Int) = (l1.length : Int)
  · rw [if_pos c3] at H
    have c3b0 : ((l0.length : Int) == (l1.length : Int)) = true := beq_iff_eq.mpr c3
    have c3b1 : ((l0.length : Int) != (l1.length : Int)) = false := bne_eq_false_iff_eq.mpr c3
    have c3b2 : (l0.length == l1.length) = true := by first | simpa using c3 | (simp at c3 ⊢;omega)
    clear c3
    have H' := Aside0.mk H
    clear H
    go_enter Try.func31,Try.ntmps31
    go_wp2
    repeat (go_quiet (fail);try go_wp2)
    go_loopg [5] k (fun kq v5 w' => ∃ (x5_1 : Int),v5 = .int .i64 x5_1 ∧ Aside0 (verdererref05_Alike.l0 kq l0 l1 x5_1 = some r) ∧ Aside0 (kq ≤ k) ∧ Drawn0 w w')
    case atStart => exact ⟨(0),(by first | rfl | (simp;done) | (simp [*];done)),H',⟨Nat.le_refl _⟩,by repeat (first | exact Drawn0.refl _ | apply Drawn0.step)⟩
    case round =>
      clear H'
      try clear c1
      try clear p2
      try clear c3
      try clear c3b0
      try clear c3b1
      try clear c3b2
      obtain ⟨x5_1,rfl,HA,HK1,⟨m1,rfl⟩⟩ := hrel
      cases gk with
      | zero => exact absurd HA.out (by simp [verdererref05_Alike.l0])
      | succ k1 =>
        have H := HA.out
        clear HA
        simp only [verdererref05_Alike.l0] at H
        by_cases c4 : x5_1 < (l0.length : Int)
        · rw [if_pos c4] at H
          have c4b0 : decide (x5_1 < (l0.length : Int)) = true := decide_eq_true c4
          clear c4
          by_cases c5 : 0 ≤ x5_1
          · rw [if_pos c5] at H
            have c5b0 : decide (0 ≤ x5_1) = true := decide_eq_true c5
            clear c5
            by_cases c6 : x5_1 < (l1.length : Int)
            · rw [if_pos c6] at H
              have c6b0 : decide (x5_1 < (l1.length : Int)) = true := decide_eq_true c6
              clear c6
              by_cases c7 : ((rd_T34 l0 x5_1).f1) = ((rd_T34 l1 x5_1).f1)
              · rw [if_pos c7] at H
                have c7b0 : (((rd_T34 l0 x5_1).f1) == ((rd_T34 l1 x5_1).f1)) = true := beq_iff_eq.mpr c7
                have c7b1 : (((rd_T34 l0 x5_1).f1) != ((rd_T34 l1 x5_1).f1)) = false := bne_eq_false_iff_eq.mpr c7
                clear c7
                replace H := Option.bind_eq_some_iff.mp H
                obtain ⟨t173,A80,H⟩ := H
                replace H : (if t173 = true then (verdererref05_Alike.l0 k1 l0 l1 (wrap64 (x5_1 + 1))) else (some false)) = some r := H
                have A8 := Aside0.mk A80
                clear A80
                by_cases c9 : t173 = true
                · subst c9
                  have H1 : (verdererref05_Alike.l0 k1 l0 l1 (wrap64 (x5_1 + 1))) = some r := by rw [if_pos rfl] at H;exact H
                  clear H
                  have H := H1
                  clear H1
                  have H' := Aside0.mk H
                  clear H
                  have p169 : 0 ≤ (x5_1 : Int) := of_decide_eq_true (by first | (with_reducible assumption) | assumption)
                  have q169 : x5_1 < (l0.length : Int) := of_decide_eq_true (by first | (with_reducible assumption) | assumption)
                  obtain ⟨ad169,A169_0,c169_0,e169,hx169_0,hx169_1,hl169_0,hi169_0⟩ := at_T34 HR0.out x5_1 p169 q169
                  cases e169
                  have HR169_0 := Aside0.mk hi169_0
                  have HC169_0 := Aside0.mk hl169_0
                  clear hi169_0 hl169_0
                  replace p169 := eq_true p169
                  replace q169 := eq_true q169
                  have p170 : 0 ≤ (x5_1 : Int) := of_decide_eq_true (by first | (with_reducible assumption) | assumption)
                  have q170 : x5_1 < (l1.length : Int) := of_decide_eq_true (by first | (with_reducible assumption) | assumption)
                  obtain ⟨ad170,A170_0,c170_0,e170,hx170_0,hx170_1,hl170_0,hi170_0⟩ := at_T34 HR1.out x5_1 p170 q170
                  cases e170
                  have HR170_0 := Aside0.mk hi170_0
                  have HC170_0 := Aside0.mk hl170_0
                  clear hi170_0 hl170_0
                  replace p170 := eq_true p170
                  replace q170 := eq_true q170
                  have p171 : 0 ≤ (x5_1 : Int) := of_decide_eq_true (by first | (with_reducible assumption) | assumption)
                  have q171 : x5_1 < (l0.length : Int) := of_decide_eq_true (by first | (with_reducible assumption) | assumption)
                  obtain ⟨ad171,A171_0,c171_0,e171,hx171_0,hx171_1,hl171_0,hi171_0⟩ := at_T34 HR0.out x5_1 p171 q171
                  obtain rfl : ad169 = ad171 := (by injection e171)
                  have HR171_0 := Aside0.mk hi171_0
                  have HC171_0 := Aside0.mk hl171_0
                  clear hi171_0 hl171_0
                  replace p171 := eq_true p171
                  replace q171 := eq_true q171
                  have ea_ := Option.some.inj (hx169_0.symm.trans hx171_0)
                  injection ea_ with ea_ en_ ec_
                  subst ea_
                  subst ec_
                  clear en_
                  have p172 : 0 ≤ (x5_1 : Int) := of_decide_eq_true (by first | (with_reducible assumption) | assumption)
                  have q172 : x5_1 < (l1.length : Int) := of_decide_eq_true (by first | (with_reducible assumption) | assumption)
                  obtain ⟨ad172,A172_0,c172_0,e172,hx172_0,hx172_1,hl172_0,hi172_0⟩ := at_T34 HR1.out x5_1 p172 q172
                  obtain rfl : ad170 = ad172 := (by injection e172)
                  have HR172_0 := Aside0.mk hi172_0
                  have HC172_0 := Aside0.mk hl172_0
                  clear hi172_0 hl172_0
                  replace p172 := eq_true p172
                  replace q172 := eq_true q172
                  have ea_ := Option.some.inj (hx170_0.symm.trans hx172_0)
                  injection ea_ with ea_ en_ ec_
                  subst ea_
                  subst ec_
                  clear en_
                  go_wp2_with (first | (go_at_call 22;(with_reducible refine (verdererref02_Equal.calls k1 _ _ ((rd_T34 l0 x5_1).f0) _ _ ((rd_T34 l1 x5_1).f0) true _ ?side1 ?side2 ?side3 ?side4 A8.out).mono ?_);(case side1 => repeat (first | exact HR171_0.out | (with_reducible refine Kd.C_alloc ?_ _) | (with_reducible refine Kd.C_drewN ?_ _) | (with_reducible refine Kd.C_drew ?_)));(case side2 => exact HC171_0.out);(case side3 => repeat (first | exact HR172_0.out | (with_reducible refine Kd.C_alloc ?_ _) | (with_reducible refine Kd.C_drewN ?_ _) | (with_reducible refine Kd.C_drew ?_)));(case side4 => exact HC172_0.out);rintro e w' ⟨rfl,⟨nd,rfl⟩⟩;(try first | exact ⟨rfl,_,World.drewN_drewN _ _ _⟩ | exact ⟨rfl,_,Eq.trans (World.drewN_drewN _ _ _) (congrArg (World.drewN _) (Nat.add_assoc _ _ _))⟩)))
                  repeat (go_quiet (first | (go_at_call 22;(with_reducible refine (verdererref02_Equal.calls k1 _ _ ((rd_T34 l0 x5_1).f0) _ _ ((rd_T34 l1 x5_1).f0) true _ ?side1 ?side2 ?side3 ?side4 A8.out).mono ?_);(case side1 => repeat (first | exact HR171_0.out | (with_reducible refine Kd.C_alloc ?_ _) | (with_reducible refine Kd.C_drewN ?_ _) | (with_reducible refine Kd.C_drew ?_)));(case side2 => exact HC171_0.out);(case side3 => repeat (first | exact HR172_0.out | (with_reducible refine Kd.C_alloc ?_ _) | (with_reducible refine Kd.C_drewN ?_ _) | (with_reducible refine Kd.C_drew ?_)));(case side4 => exact HC172_0.out);rintro e w' ⟨rfl,⟨nd,rfl⟩⟩;(try first | exact ⟨rfl,_,World.drewN_drewN _ _ _⟩ | exact ⟨rfl,_,Eq.trans (World.drewN_drewN _ _ _) (congrArg (World.drewN _) (Nat.add_assoc _ _ _))⟩)));try go_wp2_with (first | (go_at_call 22;(with_reducible refine (verdererref02_Equal.calls k1 _ _ ((rd_T34 l0 x5_1).f0) _ _ ((rd_T34 l1 x5_1).f0) true _ ?side1 ?side2 ?side3 ?side4 A8.out).mono ?_);(case side1 => repeat (first | exact HR171_0.out | (with_reducible refine Kd.C_alloc ?_ _) | (with_reducible refine Kd.C_drewN ?_ _) | (with_reducible refine Kd.C_drew ?_)));(case side2 => exact HC171_0.out);(case side3 => repeat (first | exact HR172_0.out | (with_reducible refine Kd.C_alloc ?_ _) | (with_reducible refine Kd.C_drewN ?_ _) | (with_reducible refine Kd.C_drew ?_)));(case side4 => exact HC172_0.out);rintro e w' ⟨rfl,⟨nd,rfl⟩⟩;(try first | exact ⟨rfl,_,World.drewN_drewN _ _ _⟩ | exact ⟨rfl,_,Eq.trans (World.drewN_drewN _ _ _) (congrArg (World.drewN _) (Nat.add_assoc _ _ _))⟩))))
                  go_roundg k1
                  case measure => have := HK1.out;omega
                  case rel => exact ⟨(wrap64 (x5_1 + 1)),(by first | rfl | (simp;done) | (simp [*];done)),H',⟨by have := HK1.out;omega⟩,by repeat (first | exact Drawn0.refl _ | apply Drawn0.step)⟩
                · replace c9 := Bool.eq_false_iff.mpr c9
                  subst c9
                  have H1 : (some false) = some r := by rw [if_neg (show ¬ (false = true) by decide)] at H;exact H
                  clear H
                  have H := H1
                  clear H1
                  obtain rfl := Option.some.inj H
                  have p169 : 0 ≤ (x5_1 : Int) := of_decide_eq_true (by first | (with_reducible assumption) | assumption)
                  have q169 : x5_1 < (l0.length : Int) := of_decide_eq_true (by first | (with_reducible assumption) | assumption)
                  obtain ⟨ad169,A169_0,c169_0,e169,hx169_0,hx169_1,hl169_0,hi169_0⟩ := at_T34 HR0.out x5_1 p169 q169
                  cases e169
                  have HR169_0 := Aside0.mk hi169_0
                  have HC169_0 := Aside0.mk hl169_0
                  clear hi169_0 hl169_0
                  replace p169 := eq_true p169
                  replace q169 := eq_true q169
                  have p170 : 0 ≤ (x5_1 : Int) := of_decide_eq_true (by first | (with_reducible assumption) | assumption)
                  have q170 : x5_1 < (l1.length : Int) := of_decide_eq_true (by first | (with_reducible assumption) | assumption)
                  obtain ⟨ad170,A170_0,c170_0,e170,hx170_0,hx170_1,hl170_0,hi170_0⟩ := at_T34 HR1.out x5_1 p170 q170
                  cases e170
                  have HR170_0 := Aside0.mk hi170_0
                  have HC170_0 := Aside0.mk hl170_0
                  clear hi170_0 hl170_0
                  replace p170 := eq_true p170
                  replace q170 := eq_true q170
                  have p171 : 0 ≤ (x5_1 : Int) := of_decide_eq_true (by first | (with_reducible assumption) | assumption)
                  have q171 : x5_1 < (l0.length : Int) := of_decide_eq_true (by first | (with_reducible assumption) | assumption)
                  obtain ⟨ad171,A171_0,c171_0,e171,hx171_0,hx171_1,hl171_0,hi171_0⟩ := at_T34 HR0.out x5_1 p171 q171
                  obtain rfl : ad169 = ad171 := (by injection e171)
                  have HR171_0 := Aside0.mk hi171_0
                  have HC171_0 := Aside0.mk hl171_0
                  clear hi171_0 hl171_0
                  replace p171 := eq_true p171
                  replace q171 := eq_true q171
                  have ea_ := Option.some.inj (hx169_0.symm.trans hx171_0)
                  injection ea_ with ea_ en_ ec_
                  subst ea_
                  subst ec_
                  clear en_
                  have p172 : 0 ≤ (x5_1 : Int) := of_decide_eq_true (by first | (with_reducible assumption) | assumption)
                  have q172 : x5_1 < (l1.length : Int) := of_decide_eq_true (by first | (with_reducible assumption) | assumption)
                  obtain ⟨ad172,A172_0,c172_0,e172,hx172_0,hx172_1,hl172_0,hi172_0⟩ := at_T34 HR1.out x5_1 p172 q172
                  obtain rfl : ad170 = ad172 := (by injection e172)
                  have HR172_0 := Aside0.mk hi172_0
                  have HC172_0 := Aside0.mk hl172_0
                  clear hi172_0 hl172_0
                  replace p172 := eq_true p172
                  replace q172 := eq_true q172
                  have ea_ := Option.some.inj (hx170_0.symm.trans hx172_0)
                  injection ea_ with ea_ en_ ec_
                  subst ea_
                  subst ec_
                  clear en_
                  go_wp2_with (first | (go_at_call 22;(with_reducible refine (verdererref02_Equal.calls k1 _ _ ((rd_T34 l0 x5_1).f0) _ _ ((rd_T34 l1 x5_1).f0) false _ ?side1 ?side2 ?side3 ?side4 A8.out).mono ?_);(case side1 => repeat (first | exact HR171_0.out | (with_reducible refine Kd.C_alloc ?_ _) | (with_reducible refine Kd.C_drewN ?_ _) | (with_reducible refine Kd.C_drew ?_)));(case side2 => exact HC171_0.out);(case side3 => repeat (first | exact HR172_0.out | (with_reducible refine Kd.C_alloc ?_ _) | (with_reducible refine Kd.C_drewN ?_ _) | (with_reducible refine Kd.C_drew ?_)));(case side4 => exact HC172_0.out);rintro e w' ⟨rfl,⟨nd,rfl⟩⟩;(try first | exact ⟨rfl,_,World.drewN_drewN _ _ _⟩ | exact ⟨rfl,_,Eq.trans (World.drewN_drewN _ _ _) (congrArg (World.drewN _) (Nat.add_assoc _ _ _))⟩)))
                  repeat (go_quiet (first | (go_at_call 22;(with_reducible refine (verdererref02_Equal.calls k1 _ _ ((rd_T34 l0 x5_1).f0) _ _ ((rd_T34 l1 x5_1).f0) false _ ?side1 ?side2 ?side3 ?side4 A8.out).mono ?_);(case side1 => repeat (first | exact HR171_0.out | (with_reducible refine Kd.C_alloc ?_ _) | (with_reducible refine Kd.C_drewN ?_ _) | (with_reducible refine Kd.C_drew ?_)));(case side2 => exact HC171_0.out);(case side3 => repeat (first | exact HR172_0.out | (with_reducible refine Kd.C_alloc ?_ _) | (with_reducible refine Kd.C_drewN ?_ _) | (with_reducible refine Kd.C_drew ?_)));(case side4 => exact HC172_0.out);rintro e w' ⟨rfl,⟨nd,rfl⟩⟩;(try first | exact ⟨rfl,_,World.drewN_drewN _ _ _⟩ | exact ⟨rfl,_,Eq.trans (World.drewN_drewN _ _ _) (congrArg (World.drewN _) (Nat.add_assoc _ _ _))⟩)));try go_wp2_with (first | (go_at_call 22;(with_reducible refine (verdererref02_Equal.calls k1 _ _ ((rd_T34 l0 x5_1).f0) _ _ ((rd_T34 l1 x5_1).f0) false _ ?side1 ?side2 ?side3 ?side4 A8.out).mono ?_);(case side1 => repeat (first | exact HR171_0.out | (with_reducible refine Kd.C_alloc ?_ _) | (with_reducible refine Kd.C_drewN ?_ _) | (with_reducible refine Kd.C_drew ?_)));(case side2 => exact HC171_0.out);(case side3 => repeat (first | exact HR172_0.out | (with_reducible refine Kd.C_alloc ?_ _) | (with_reducible refine Kd.C_drewN ?_ _) | (with_reducible refine Kd.C_drew ?_)));(case side4 => exact HC172_0.out);rintro e w' ⟨rfl,⟨nd,rfl⟩⟩;(try first | exact ⟨rfl,_,World.drewN_drewN _ _ _⟩ | exact ⟨rfl,_,Eq.trans (World.drewN_drewN _ _ _) (congrArg (World.drewN _) (Nat.add_assoc _ _ _))⟩))))
                  go_ret
                  exact ⟨by first | rfl | (simp;done) | (simp [*];done),by repeat (first | exact Drawn0.refl _ | apply Drawn0.step)⟩
              · rw [if_neg c7] at H
                have c7b0 : (((rd_T34 l0 x5_1).f1) == ((rd_T34 l1 x5_1).f1)) = false := beq_eq_false_iff_ne.mpr c7
                have c7b1 : (((rd_T34 l0 x5_1).f1) != ((rd_T34 l1 x5_1).f1)) = true := bne_iff_ne.mpr c7
                obtain rfl := Option.some.inj H
                have p169 : 0 ≤ (x5_1 : Int) := of_decide_eq_true (by first | (with_reducible assumption) | assumption)
                have q169 : x5_1 < (l0.length : Int) := of_decide_eq_true (by first | (with_reducible assumption) | assumption)
                obtain ⟨ad169,A169_0,c169_0,e169,hx169_0,hx169_1,hl169_0,hi169_0⟩ := at_T34 HR0.out x5_1 p169 q169
                cases e169
                have HR169_0 := Aside0.mk hi169_0
                have HC169_0 := Aside0.mk hl169_0
                clear hi169_0 hl169_0
                replace p169 := eq_true p169
                replace q169 := eq_true q169
                have p170 : 0 ≤ (x5_1 : Int) := of_decide_eq_true (by first | (with_reducible assumption) | assumption)
                have q170 : x5_1 < (l1.length : Int) := of_decide_eq_true (by first | (with_reducible assumption) | assumption)
                obtain ⟨ad170,A170_0,c170_0,e170,hx170_0,hx170_1,hl170_0,hi170_0⟩ := at_T34 HR1.out x5_1 p170 q170
                cases e170
                have HR170_0 := Aside0.mk hi170_0
                have HC170_0 := Aside0.mk hl170_0
                clear hi170_0 hl170_0
                replace p170 := eq_true p170
                replace q170 := eq_true q170
                go_wp2
                repeat (go_quiet (fail);try go_wp2)
                go_ret
                exact ⟨by first | rfl | (simp;done) | (simp [*];done),by repeat (first | exact Drawn0.refl _ | apply Drawn0.step)⟩
            · rw [if_neg c6] at H
              exact absurd H (by simp)
          · rw [if_neg c5] at H
            exact absurd H (by simp)
        · rw [if_neg c4] at H
          have c4b0 : decide (x5_1 < (l0.length : Int)) = false := decide_eq_false c4
          clear c4
          obtain rfl := Option.some.inj H
          go_wp2
          repeat (go_quiet (fail);try go_wp2)
          go_ret
          exact ⟨by first | rfl | (simp;done) | (simp [*];done),by repeat (first | exact Drawn0.refl _ | apply Drawn0.step)⟩
  · rw [if_neg c3] at H
    have c3b0 : ((l0.length : Int) == (l1.length : Int)) = false := beq_eq_false_iff_ne.mpr c3
    have c3b1 : ((l0.length : Int) != (l1.length : Int)) = true := bne_iff_ne.mpr c3
    have c3b2 : (l0.length == l1.length) = false := by first | simpa using c3 | (simp at c3 ⊢;omega)
    obtain rfl := Option.some.inj H
    go_enter Try.func31,Try.ntmps31
    go_wp2
    repeat (go_quiet (fail);try go_wp2)
    go_ret
    exact ⟨by first | rfl | (simp;done) | (simp [*];done),by repeat (first | exact Drawn0.refl _ | apply Drawn0.step)⟩
end Go.Proofs.Ythmbfcfomcaaaaa.Z
end
section
namespace Go.Proofs.Ythmbfcfomcaaaaa.Z
set_option linter.unusedVariables false
set_option linter.unusedSimpArgs false
open Go.RowKit Go.Proofs.YthmbfcfomcaaaaaW.PrintWords Go.Proofs.YthmbfcfomcaaaaaW.PrintLast Go.Proofs.YthmbfcfomcaaaaaW.PrintMore Go.Proofs.Ythmbfcfomcaaaaa.Cmp
structure EnsC (w : World) (A : Option Addr) (c : Nat) (L : List En) : Prop where
  cap : L.length ≤ c
  row : Kd.C k34 w A L.length L
theorem EnsC.below {w w1 : World} {A : Option Addr} {c : Nat} {L : List En} (h : EnsC w A c L) (hb : Below w.heap.size w w1) : EnsC w1 A c L := ⟨h.cap,Kd.C_below h.row hb⟩
end Go.Proofs.Ythmbfcfomcaaaaa.Z
end
section
namespace Go.Proofs.Ythmbfcfomcaaaaa.Z
set_option linter.unusedVariables false
set_option linter.unusedSimpArgs false
open Go.RowKit Go.Proofs.YthmbfcfomcaaaaaW.PrintWords Go.Proofs.YthmbfcfomcaaaaaW.PrintLast Go.Proofs.YthmbfcfomcaaaaaW.PrintMore Go.Proofs.Ythmbfcfomcaaaaa.Cmp
structure SameW (w w' : World) : Prop where
  heap : w'.heap = w.heap
  os : w'.os = w.os
  tape : w'.tape = w.tape
  output : w'.output = w.output
structure NextW (N : Nat) (w w' : World) : Prop where
  below : Below N w w'
  le : N ≤ w'.heap.size
theorem NextW.refl (w : World) : NextW w.heap.size w w := ⟨Below.refl _ _,Nat.le_refl _⟩
theorem NextW.next {N : Nat} {w w1 w2 W : World} (h : NextW N w w1) (hb : Below W.heap.size W w2) (e : SameW w1 W := by exact ⟨rfl,rfl,rfl,rfl⟩) : NextW N w w2 := by
  have h1 : Below N w W := ⟨e.os.trans h.below.os,e.tape.trans h.below.tape,e.output.trans h.below.output,by rw [e.heap];exact h.below.size,fun k hk => by rw [e.heap];exact h.below.block k hk⟩
  have hs : N ≤ W.heap.size := by rw [e.heap];exact h.le
  exact ⟨h1.trans (hb.mono hs),Nat.le_trans hs hb.size⟩
theorem NextW.nextN {N : Nat} {w w1 w2 W : World} (h : NextW N w w1) (hb : Below N W w2) (e : SameW w1 W := by exact ⟨rfl,rfl,rfl,rfl⟩) : NextW N w w2 := by
  have h1 : Below N w W := ⟨e.os.trans h.below.os,e.tape.trans h.below.tape,e.output.trans h.below.output,by rw [e.heap];exact h.below.size,fun k hk => by rw [e.heap];exact h.below.block k hk⟩
  have hs : N ≤ W.heap.size := by rw [e.heap];exact h.le
  exact ⟨h1.trans hb,Nat.le_trans hs hb.size⟩
theorem NextW.at_ {N : Nat} {w w1 W : World} (h : NextW N w w1) (e : SameW w1 W := by exact ⟨rfl,rfl,rfl,rfl⟩) : Below N w W :=
  ⟨e.os.trans h.below.os,e.tape.trans h.below.tape,e.output.trans h.below.output,by rw [e.heap];exact h.below.size,fun k hk => by rw [e.heap];exact h.below.block k hk⟩
theorem SameW.below {w W : World} (e : SameW w W) (N : Nat) : Below N w W := ⟨e.os,e.tape,e.output,by rw [e.heap];exact Nat.le_refl _,fun k _ => by rw [e.heap]⟩
theorem SameW.refl (w : World) : SameW w w := ⟨rfl,rfl,rfl,rfl⟩
theorem SameW.drew (w : World) : SameW w w.drew := ⟨rfl,rfl,rfl,rfl⟩
theorem SameW.drewN (w : World) (n : Nat) : SameW w (w.drewN n) := ⟨rfl,rfl,rfl,rfl⟩
theorem OkD.len {L : List En} (h : OkD L) : ∀ x ∈ L,x.f0.length ≤ 1000000 := fun x hx => by have := right_len (h x hx).1;omega
structure Two (N : Nat) (w : World) (b : Nat) (t : Tr) (D : Nat → Prop) (g : Nat) (A : Option Addr) (c : Nat) (L : List En) (E : Nat → Prop) : Prop where
  bag : BagAt w b t D
  ref : RefV w g A c L E
  own : ∀ k,BagOwn b t D k → N ≤ k ∧ k ≠ g ∧ ¬ E k
  g_le : N ≤ g
  e_le : ∀ k,E k → N ≤ k
theorem BagAt.own_lt {w : World} {b : Nat} {t : Tr} {D : Nat → Prop} (h : BagAt w b t D) : ∀ k,BagOwn b t D k → k < w.heap.size := fun k hk => by
  rcases hk with rfl | q | q
  · exact h.lt.1
  · exact h.lt.2.1 k q
  · exact h.lt.2.2 k q
theorem RefV.g_lt {w : World} {g : Nat} {A : Option Addr} {c : Nat} {L : List En} {E : Nat → Prop} (h : RefV w g A c L E) : g < w.heap.size := blk_lt h.blk
theorem Two.below {N : Nat} {w w1 : World} {b : Nat} {t : Tr} {D : Nat → Prop} {g : Nat} {A : Option Addr} {c : Nat} {L : List En} {E : Nat → Prop} (h : Two N w b t D g A c L E) (hb : Below w.heap.size w w1) : Two N w1 b t D g A c L E :=
  ⟨h.bag.below hb,h.ref.below hb,h.own,h.g_le,h.e_le⟩
theorem Two.heap {N : Nat} {w w1 : World} {b : Nat} {t : Tr} {D : Nat → Prop} {g : Nat} {A : Option Addr} {c : Nat} {L : List En} {E : Nat → Prop} (h : Two N w b t D g A c L E) (e : SameW w w1 := by exact ⟨rfl,rfl,rfl,rfl⟩) : Two N w1 b t D g A c L E :=
  h.below ⟨e.os,e.tape,e.output,by rw [e.heap];exact Nat.le_refl _,fun k _ => by rw [e.heap]⟩
end Go.Proofs.Ythmbfcfomcaaaaa.Z
end
section
namespace Go.Proofs.Ythmbfcfomcaaaaa.Z
set_option linter.unusedVariables false
set_option linter.unusedSimpArgs false
open Go.RowKit Go.Proofs.YthmbfcfomcaaaaaW.PrintWords Go.Proofs.YthmbfcfomcaaaaaW.PrintLast Go.Proofs.YthmbfcfomcaaaaaW.PrintMore Go.Proofs.Ythmbfcfomcaaaaa.Cmp
theorem row_one {w : World} {g q : Nat} {x : S66} (h : w.heap[g]? = some (.cells #[.int .i64 x.f0,.bool x.f1,.int .i64 x.f2,.string x.f3] q (0,0))) : RowC w (some ⟨g,0,none⟩) 1 [x] :=
  ⟨Nat.le_refl 1,rfl,by simp,fun _ => ⟨_,rfl,fun j p hj => by
    cases j with
    | succ j => simp at hj
    | zero =>
      simp only [List.getElem?_cons_zero,Option.some.injEq] at hj
      subst hj
      refine ⟨_,rfl,k66_mk w x,fun i u hi => ?_⟩
      rw [Nat.zero_mul,Nat.zero_add,add_plain]
      have h1 := blk_cell h i
      rw [h1,← hi]
      simp⟩⟩
structure One (N : Nat) (w : World) (b : Nat) (t : Tr) (D : Nat → Prop) : Prop where
  bag : BagAt w b t D
  own : ∀ k,BagOwn b t D k → N ≤ k
theorem One.below {N : Nat} {w w1 : World} {b : Nat} {t : Tr} {D : Nat → Prop} (h : One N w b t D) (hb : Below w.heap.size w w1) : One N w1 b t D := ⟨h.bag.below hb,h.own⟩
def Off (w w' : World) (o o' : Nat → Prop) : Prop := ∀ k,k < w.heap.size → ¬ o k → w'.heap[k]? = w.heap[k]? ∧ ¬ o' k
theorem BagCh.off {w w' : World} {b : Nat} {t t' : Tr} {D D' : Nat → Prop} (h : BagCh w w' b t t' D D') : Off w w' (BagOwn b t D) (BagOwn b t' D') := fun k hk hn =>
  ⟨h.ch.block k hk (fun s => hn (s.elim .inl (fun q => .inr (.inl q)))),fun ho => (h.own k ho).elim hn (fun q => by omega)⟩
structure Lit (w : World) (o : Nat → Prop) (g : Nat) (x : S66) : Prop where
  blk : w.heap[g]? = some (.cells #[.int .i64 x.f0,.bool x.f1,.int .i64 x.f2,.string x.f3] 66 (0,0))
  off : ¬ o g
theorem Lit.step {w w' : World} {o o' : Nat → Prop} {g : Nat} {x : S66} (h : Lit w o g x) (k : Off w w' o o') : Lit w' o' g x := ⟨(k g (blk_lt h.blk) h.off).1.trans h.blk,(k g (blk_lt h.blk) h.off).2⟩
theorem Lit.below {w w' : World} {o : Nat → Prop} {g : Nat} {x : S66} (h : Lit w o g x) (k : Below w.heap.size w w') : Lit w' o g x := ⟨(k.block g (blk_lt h.blk)).trans h.blk,h.off⟩
theorem Lit.row {w : World} {o : Nat → Prop} {g : Nat} {x : S66} (h : Lit w o g x) : RowC w (some ⟨g,0,none⟩) 1 [x] := row_one h.blk
end Go.Proofs.Ythmbfcfomcaaaaa.Z
end
section
namespace Go.Proofs.Ythmbfcfomcaaaaa.Z
open Go.RowKit Go.Proofs.YthmbfcfomcaaaaaW.PrintWords Go.Proofs.YthmbfcfomcaaaaaW.PrintLast Go.Proofs.YthmbfcfomcaaaaaW.PrintMore
attribute [local go_sem] max2_int min2_int max_two min_two max_three min_three max_four min_four
set_option linter.unusedVariables false
set_option linter.unusedSimpArgs false
def row_Same.f (k : Nat) (l0 : List (S66)) (l1 : List (S66)) : Option (Bool) := (row_Compare.f k l0 l1).bind fun t146 => (some (t146 == 0))
theorem row_Same.mono : ∀ a0 a1 k,LeO (row_Same.f k a0 a1) (row_Same.f (k + 1) a0 a1) := by
  intro a0 a1 k
  unfold row_Same.f
  repeat' first
      | (with_reducible exact row_Compare.mono _ _ _)
      | (with_reducible exact LeO.refl _)
      | (with_reducible exact LeO.none _)
      | (with_reducible refine LeO.ite ?_ ?_)
      | (with_reducible refine LeO.bind ?_ (fun _ => ?_))
      | exact row_Compare.mono _ _ _
      | exact LeO.none _
      | refine LeO.ite ?_ ?_
      | refine LeO.bind ?_ (fun _ => ?_)
set_option maxHeartbeats 8000000 in
set_option maxRecDepth 100000 in
theorem row_Same.calls (k : Nat) (A0 : Option Addr) (c0 : Nat) (l0 : List (S66)) (A1 : Option Addr) (c1 : Nat) (l1 : List (S66)) (r : Bool) (w : World) (hr0 : Kd.C k66 w A0 l0.length l0) (hc0 : l0.length ≤ c0) (hr1 : Kd.C k66 w A1 l1.length l1) (hc1 : l1.length ≤ c1) (h : row_Same.f k l0 l1 = some r) :
    Calls Try.prog 74 #[.slice A0 l0.length c0,.slice A1 l1.length c1] w fun e w' => e = .returned (.bool r) ∧ Below w.heap.size w w' := by
  have HR0 := Aside0.mk hr0
  have HC0 := Aside0.mk hc0
  clear hr0 hc0
  have HR1 := Aside0.mk hr1
  have HC1 := Aside0.mk hc1
  clear hr1 hc1
  have HB := Aside0.mk (Below.refl w.heap.size w)
  have H : ((row_Compare.f k l0 l1).bind fun t146 => (some (t146 == 0))) = some r := h
  clear h
  replace H := Option.bind_eq_some_iff.mp H
  obtain ⟨t146,A30,H⟩ := H
  replace H : (some (t146 == 0)) = some r := H
  have A3 := Aside0.mk A30
  clear A30
  obtain rfl := Option.some.inj H
  go_enter Try.func74,Try.ntmps74
  go_wp2_with (first | ((with_reducible refine gate_callee (f := 93) rfl ?_);refine goesL_ (some 7) rfl rfl Try.func93 (by kernel_rfl) rfl #[.slice A0 l0.length c0,.slice A1 l1.length c1] rfl (by (try simp only [List.map_toArray,List.map_cons,List.map_nil]);first | done | rfl | (simp only [List.length_drop,List.length_take];rfl)) ?_;(with_reducible refine (row_Compare.calls k _ _ l0 _ _ l1 t146 _ ?side1 ?side2 ?side3 ?side4 A3.out).mono ?_);(case side1 => repeat (first | exact HR0.out | (with_reducible refine Kd.C_alloc ?_ _) | (with_reducible refine Kd.C_drewN ?_ _) | (with_reducible refine Kd.C_drew ?_)));(case side2 => exact HC0.out);(case side3 => repeat (first | exact HR1.out | (with_reducible refine Kd.C_alloc ?_ _) | (with_reducible refine Kd.C_drewN ?_ _) | (with_reducible refine Kd.C_drew ?_)));(case side4 => exact HC1.out);rintro e w4 ⟨rfl,hb⟩;refine ⟨_,rfl,?_⟩;have n0_ := Aside0.mk (below_step (by repeat (first | (with_reducible first | exact HB.out | apply below_alloc | apply pw_below_drewN | apply below_drew1) | exact HB.out)) hb);clear HB;have HB := n0_;clear n0_;(try clear hb);(try clear hb2);(try clear hk);(try clear hi)))
  go_ret
  exact ⟨by first | rfl | (simp [errW_none,errW_some] <;> rfl) | (simp [*,errW_none,errW_some] <;> rfl),by repeat (first | (with_reducible first | exact HB.out | apply below_alloc | apply pw_below_drewN | apply below_drew1) | exact HB.out)⟩
end Go.Proofs.Ythmbfcfomcaaaaa.Z
end
section
namespace Go.Proofs.Ythmbfcfomcaaaaa.Z
open Go.RowKit Go.Proofs.YthmbfcfomcaaaaaW.PrintWords Go.Proofs.YthmbfcfomcaaaaaW.PrintLast Go.Proofs.YthmbfcfomcaaaaaW.PrintMore
attribute [local go_sem] max2_int min2_int max_two min_two max_three min_three max_four min_four
set_option linter.unusedVariables false
set_option linter.unusedSimpArgs false
def bag_Same_1.f (k : Nat) (l0_0 : List (S66)) (a0_1 : Int) (l1_0 : List (S66)) (a1_1 : Int) : Option (Bool) := if a0_1 = a1_1 then ((row_Same.f k l0_0 l1_0).bind fun t229 => (some t229)) else (some false)
theorem bag_Same_1.mono : ∀ a0 a1 a2 a3 k,LeO (bag_Same_1.f k a0 a1 a2 a3) (bag_Same_1.f (k + 1) a0 a1 a2 a3) := by
  intro a0 a1 a2 a3 k
  unfold bag_Same_1.f
  repeat' first
      | (with_reducible exact row_Same.mono _ _ _)
      | (with_reducible exact LeO.refl _)
      | (with_reducible exact LeO.none _)
      | (with_reducible refine LeO.ite ?_ ?_)
      | (with_reducible refine LeO.bind ?_ (fun _ => ?_))
      | exact row_Same.mono _ _ _
      | exact LeO.none _
      | refine LeO.ite ?_ ?_
      | refine LeO.bind ?_ (fun _ => ?_)
set_option maxHeartbeats 8000000 in
set_option maxRecDepth 100000 in
theorem bag_Same_1.calls (k : Nat) (A0_0 : Option Addr) (c0_0 : Nat) (l0_0 : List (S66)) (a0_1 : Int) (A1_0 : Option Addr) (c1_0 : Nat) (l1_0 : List (S66)) (a1_1 : Int) (r : Bool) (w : World) (hr0_0 : Kd.C k66 w A0_0 l0_0.length l0_0) (hc0_0 : l0_0.length ≤ c0_0) (hr1_0 : Kd.C k66 w A1_0 l1_0.length l1_0) (hc1_0 : l1_0.length ≤ c1_0) (h : bag_Same_1.f k l0_0 a0_1 l1_0 a1_1 = some r) :
    Calls Try.prog 73 #[.agg #[.slice A0_0 l0_0.length c0_0,.int .i64 a0_1],.agg #[.slice A1_0 l1_0.length c1_0,.int .i64 a1_1]] w fun e w' => e = .returned (.bool r) ∧ Below w.heap.size w w' := by
  have hu34 := Try.underlying34
  have HR0_0 := Aside0.mk hr0_0
  have HC0_0 := Aside0.mk hc0_0
  clear hr0_0 hc0_0
  have HR1_0 := Aside0.mk hr1_0
  have HC1_0 := Aside0.mk hc1_0
  clear hr1_0 hc1_0
  have HB := Aside0.mk (Below.refl w.heap.size w)
  have H : (if a0_1 = a1_1 then ((row_Same.f k l0_0 l1_0).bind fun t229 => (some t229)) else (some false)) = some r := h
  clear h
  by_cases c3 : a0_1 = a1_1
  · rw [if_pos c3] at H
    have c3b0 : (a0_1 == a1_1) = true := beq_iff_eq.mpr c3
    have c3b1 : (a0_1 != a1_1) = false := bne_eq_false_iff_eq.mpr c3
    clear c3
    replace H := Option.bind_eq_some_iff.mp H
    obtain ⟨t229,A40,H⟩ := H
    replace H : (some t229) = some r := H
    have A4 := Aside0.mk A40
    clear A40
    obtain rfl := Option.some.inj H
    go_enter Try.func73,Try.ntmps73
    go_wp2_with (first | ((with_reducible refine gate_dst (N := 2) rfl ?_);refine box_event ?hg (N := 2) ?hd (cs := #[.slice A0_0 l0_0.length c0_0,.int .i64 a0_1]) (t := 34) ?hr ?_;(case hd => rfl);(case hg => rfl);(case hr => first | (go_simp;done) | (go_simp;rfl));intro gb227 hg w5 hbox hb;have n0_ := Aside0.mk (below_step (by repeat (first | (with_reducible first | exact HB.out | apply below_alloc | apply pw_below_drewN | apply below_drew1) | exact HB.out)) hb);have n1_ := Aside0.mk (hbox);have n2_ := Aside0.mk ((by rw [hg];exact (below_size (by repeat (first | (with_reducible first | exact HB.out | apply below_alloc | apply pw_below_drewN | apply below_drew1) | exact HB.out))) : w.heap.size ≤ gb227));have n3_ := Aside0.mk ((by rw [hg];exact (below_size (by repeat (first | (with_reducible first | exact HB.out | apply below_alloc | apply pw_below_drewN | apply below_drew1) | exact HB.out))) : w.heap.size ≤ gb227));clear HB;have HB := n0_;have BK227 := n1_;have GW227 := n2_;have GE227 := n3_;clear n0_ n1_ n2_ n3_;clear hb hbox hg) | ((with_reducible refine gate_dst (N := 3) rfl ?_);refine box_event ?hg (N := 3) ?hd (cs := #[.slice A1_0 l1_0.length c1_0,.int .i64 a1_1]) (t := 34) ?hr ?_;(case hd => rfl);(case hg => rfl);(case hr => first | (go_simp;done) | (go_simp;rfl));intro gb228 hg w6 hbox hb;have n0_ := Aside0.mk (blk_below (g := gb227) (o := .cells #[.slice A0_0 l0_0.length c0_0,.int .i64 a0_1] 34 (0,0)) (by (with_reducible repeat (first | refine blk_drewN ?_ _ | refine blk_drew ?_ | refine blk_alloc ?_ _));exact BK227.out) hb);have n1_ := Aside0.mk (below_step (by repeat (first | (with_reducible first | exact HB.out | apply below_alloc | apply pw_below_drewN | apply below_drew1 | refine below_set ?_ GE227.out) | exact HB.out)) hb);have n2_ := Aside0.mk (hbox);have n3_ := Aside0.mk ((by rw [hg];exact (below_size (by repeat (first | (with_reducible first | exact HB.out | apply below_alloc | apply pw_below_drewN | apply below_drew1 | refine below_set ?_ GE227.out) | exact HB.out))) : w.heap.size ≤ gb228));have n4_ := Aside0.mk ((by rw [hg];exact (below_size (by repeat (first | (with_reducible first | exact HB.out | apply below_alloc | apply pw_below_drewN | apply below_drew1 | refine below_set ?_ GE227.out) | exact HB.out))) : w.heap.size ≤ gb228));have n5_ := Aside0.mk ((by rw [hg];exact Nat.ne_of_lt (blk_lt (g := gb227) (o := .cells #[.slice A0_0 l0_0.length c0_0,.int .i64 a0_1] 34 (0,0)) (by (with_reducible repeat (first | refine blk_drewN ?_ _ | refine blk_drew ?_ | refine blk_alloc ?_ _));exact BK227.out)) : gb227 ≠ gb228));have n6_ := Aside0.mk ((by rw [hg];exact Nat.ne_of_gt (blk_lt (g := gb227) (o := .cells #[.slice A0_0 l0_0.length c0_0,.int .i64 a0_1] 34 (0,0)) (by (with_reducible repeat (first | refine blk_drewN ?_ _ | refine blk_drew ?_ | refine blk_alloc ?_ _));exact BK227.out)) : gb228 ≠ gb227));clear BK227;clear HB;have BK227 := n0_;have HB := n1_;have BK228 := n2_;have GW228 := n3_;have GE228 := n4_;have NB227_228 := n5_;have NB228_227 := n6_;clear n0_ n1_ n2_ n3_ n4_ n5_ n6_;clear hb hbox hg;have hnb7 := NB227_228.out;have hnc7 := NB228_227.out;have hcz8_0 : w6.cell? ⟨gb227,0,none⟩ = some (.slice A0_0 l0_0.length c0_0) := (blk_cell BK227.out 0).trans rfl;have hcz8_1 : w6.cell? ⟨gb227,1,none⟩ = some (.int .i64 a0_1) := (blk_cell BK227.out 1).trans rfl;have hfz8_0 := blk_frozen BK227.out 0;have hfz8_1 := blk_frozen BK227.out 1;have hcz9_0 : w6.cell? ⟨gb228,0,none⟩ = some (.slice A1_0 l1_0.length c1_0) := (blk_cell BK228.out 0).trans rfl;have hcz9_1 : w6.cell? ⟨gb228,1,none⟩ = some (.int .i64 a1_1) := (blk_cell BK228.out 1).trans rfl;have hfz9_0 := blk_frozen BK228.out 0;have hfz9_1 := blk_frozen BK228.out 1) | (go_at_call 74;(with_reducible refine (row_Same.calls k _ _ l0_0 _ _ l1_0 t229 _ ?side1 ?side2 ?side3 ?side4 A4.out).mono ?_);(case side1 => repeat (first | exact (Kd.C_below HR0_0.out HB.out) | (with_reducible refine Kd.C_alloc ?_ _) | (with_reducible refine Kd.C_drewN ?_ _) | (with_reducible refine Kd.C_drew ?_)));(case side2 => exact HC0_0.out);(case side3 => repeat (first | exact (Kd.C_below HR1_0.out HB.out) | (with_reducible refine Kd.C_alloc ?_ _) | (with_reducible refine Kd.C_drewN ?_ _) | (with_reducible refine Kd.C_drew ?_)));(case side4 => exact HC1_0.out);rintro e w10 ⟨rfl,hb⟩;have n0_ := Aside0.mk (blk_below (g := gb227) (o := .cells #[.slice A0_0 l0_0.length c0_0,.int .i64 a0_1] 34 (0,0)) (by (with_reducible repeat (first | refine blk_drewN ?_ _ | refine blk_drew ?_ | refine blk_alloc ?_ _));exact BK227.out) hb);have n1_ := Aside0.mk (blk_below (g := gb228) (o := .cells #[.slice A1_0 l1_0.length c1_0,.int .i64 a1_1] 34 (0,0)) (by (with_reducible repeat (first | refine blk_drewN ?_ _ | refine blk_drew ?_ | refine blk_alloc ?_ _));exact BK228.out) hb);have n2_ := Aside0.mk (below_step (by repeat (first | (with_reducible first | exact HB.out | apply below_alloc | apply pw_below_drewN | apply below_drew1 | refine below_set ?_ GE227.out | refine below_set ?_ GE228.out) | exact HB.out)) hb);clear BK227;clear BK228;clear HB;have BK227 := n0_;have BK228 := n1_;have HB := n2_;clear n0_ n1_ n2_;(try clear hb);(try clear hb2);(try clear hk);(try clear hi)))
    go_ret
    exact ⟨by first | rfl | (simp [errW_none,errW_some] <;> rfl) | (simp [*,errW_none,errW_some] <;> rfl),by repeat (first | (with_reducible first | exact HB.out | apply below_alloc | apply pw_below_drewN | apply below_drew1 | refine below_set ?_ GE227.out | refine below_set ?_ GE228.out) | exact HB.out)⟩
  · rw [if_neg c3] at H
    have c3b0 : (a0_1 == a1_1) = false := beq_eq_false_iff_ne.mpr c3
    have c3b1 : (a0_1 != a1_1) = true := bne_iff_ne.mpr c3
    obtain rfl := Option.some.inj H
    go_enter Try.func73,Try.ntmps73
    go_wp2_with (first | ((with_reducible refine gate_dst (N := 2) rfl ?_);refine box_event ?hg (N := 2) ?hd (cs := #[.slice A0_0 l0_0.length c0_0,.int .i64 a0_1]) (t := 34) ?hr ?_;(case hd => rfl);(case hg => rfl);(case hr => first | (go_simp;done) | (go_simp;rfl));intro gb227 hg w11 hbox hb;have n0_ := Aside0.mk (below_step (by repeat (first | (with_reducible first | exact HB.out | apply below_alloc | apply pw_below_drewN | apply below_drew1) | exact HB.out)) hb);have n1_ := Aside0.mk (hbox);have n2_ := Aside0.mk ((by rw [hg];exact (below_size (by repeat (first | (with_reducible first | exact HB.out | apply below_alloc | apply pw_below_drewN | apply below_drew1) | exact HB.out))) : w.heap.size ≤ gb227));have n3_ := Aside0.mk ((by rw [hg];exact (below_size (by repeat (first | (with_reducible first | exact HB.out | apply below_alloc | apply pw_below_drewN | apply below_drew1) | exact HB.out))) : w.heap.size ≤ gb227));clear HB;have HB := n0_;have BK227 := n1_;have GW227 := n2_;have GE227 := n3_;clear n0_ n1_ n2_ n3_;clear hb hbox hg) | ((with_reducible refine gate_dst (N := 3) rfl ?_);refine box_event ?hg (N := 3) ?hd (cs := #[.slice A1_0 l1_0.length c1_0,.int .i64 a1_1]) (t := 34) ?hr ?_;(case hd => rfl);(case hg => rfl);(case hr => first | (go_simp;done) | (go_simp;rfl));intro gb228 hg w12 hbox hb;have n0_ := Aside0.mk (blk_below (g := gb227) (o := .cells #[.slice A0_0 l0_0.length c0_0,.int .i64 a0_1] 34 (0,0)) (by (with_reducible repeat (first | refine blk_drewN ?_ _ | refine blk_drew ?_ | refine blk_alloc ?_ _));exact BK227.out) hb);have n1_ := Aside0.mk (below_step (by repeat (first | (with_reducible first | exact HB.out | apply below_alloc | apply pw_below_drewN | apply below_drew1 | refine below_set ?_ GE227.out) | exact HB.out)) hb);have n2_ := Aside0.mk (hbox);have n3_ := Aside0.mk ((by rw [hg];exact (below_size (by repeat (first | (with_reducible first | exact HB.out | apply below_alloc | apply pw_below_drewN | apply below_drew1 | refine below_set ?_ GE227.out) | exact HB.out))) : w.heap.size ≤ gb228));have n4_ := Aside0.mk ((by rw [hg];exact (below_size (by repeat (first | (with_reducible first | exact HB.out | apply below_alloc | apply pw_below_drewN | apply below_drew1 | refine below_set ?_ GE227.out) | exact HB.out))) : w.heap.size ≤ gb228));have n5_ := Aside0.mk ((by rw [hg];exact Nat.ne_of_lt (blk_lt (g := gb227) (o := .cells #[.slice A0_0 l0_0.length c0_0,.int .i64 a0_1] 34 (0,0)) (by (with_reducible repeat (first | refine blk_drewN ?_ _ | refine blk_drew ?_ | refine blk_alloc ?_ _));exact BK227.out)) : gb227 ≠ gb228));have n6_ := Aside0.mk ((by rw [hg];exact Nat.ne_of_gt (blk_lt (g := gb227) (o := .cells #[.slice A0_0 l0_0.length c0_0,.int .i64 a0_1] 34 (0,0)) (by (with_reducible repeat (first | refine blk_drewN ?_ _ | refine blk_drew ?_ | refine blk_alloc ?_ _));exact BK227.out)) : gb228 ≠ gb227));clear BK227;clear HB;have BK227 := n0_;have HB := n1_;have BK228 := n2_;have GW228 := n3_;have GE228 := n4_;have NB227_228 := n5_;have NB228_227 := n6_;clear n0_ n1_ n2_ n3_ n4_ n5_ n6_;clear hb hbox hg;have hnb13 := NB227_228.out;have hnc13 := NB228_227.out;have hcz14_0 : w12.cell? ⟨gb227,0,none⟩ = some (.slice A0_0 l0_0.length c0_0) := (blk_cell BK227.out 0).trans rfl;have hcz14_1 : w12.cell? ⟨gb227,1,none⟩ = some (.int .i64 a0_1) := (blk_cell BK227.out 1).trans rfl;have hfz14_0 := blk_frozen BK227.out 0;have hfz14_1 := blk_frozen BK227.out 1;have hcz15_0 : w12.cell? ⟨gb228,0,none⟩ = some (.slice A1_0 l1_0.length c1_0) := (blk_cell BK228.out 0).trans rfl;have hcz15_1 : w12.cell? ⟨gb228,1,none⟩ = some (.int .i64 a1_1) := (blk_cell BK228.out 1).trans rfl;have hfz15_0 := blk_frozen BK228.out 0;have hfz15_1 := blk_frozen BK228.out 1))
    go_ret
    exact ⟨by first | rfl | (simp [errW_none,errW_some] <;> rfl) | (simp [*,errW_none,errW_some] <;> rfl),by repeat (first | (with_reducible first | exact HB.out | apply below_alloc | apply pw_below_drewN | apply below_drew1 | refine below_set ?_ GE227.out | refine below_set ?_ GE228.out) | exact HB.out)⟩
end Go.Proofs.Ythmbfcfomcaaaaa.Z
end
section
namespace Go.Proofs.Ythmbfcfomcaaaaa.Z
open Go.RowKit Go.Proofs.YthmbfcfomcaaaaaW.PrintWords Go.Proofs.YthmbfcfomcaaaaaW.PrintLast Go.Proofs.YthmbfcfomcaaaaaW.PrintMore
attribute [local go_sem] max2_int min2_int max_two min_two max_three min_three max_four min_four
set_option linter.unusedVariables false
set_option linter.unusedSimpArgs false
def slices_EqualFunc.l0 : Nat → List (S34) → List (S34) → Int → Int → Option (Bool)
  | 0,_,_,_,_ => none
  | k + 1,x1,x15,x16,x17 => if x17 < x16 then (if 0 ≤ x17 then (if x17 < (x15.length : Int) then (if x17 < (x1.length : Int) then ((bag_Same_1.f k ((rd_T34 x15 x17).f0) ((rd_T34 x15 x17).f1) ((rd_T34 x1 x17).f0) ((rd_T34 x1 x17).f1)).bind fun t234 => (if t234 = true then (slices_EqualFunc.l0 k x1 x15 x16 (wrap64 (x17 + 1))) else (some false))) else (none)) else (none)) else (none)) else (some true)
def slices_EqualFunc.f (k : Nat) (l0 : List (S34)) (l1 : List (S34)) (a2 : Int) : Option (Bool) := if (l0.length : Int) = (l1.length : Int) then (slices_EqualFunc.l0 k l1 l0 (l0.length : Int) 0) else (some false)
theorem slices_EqualFunc.mono_l : ∀ k,(∀ y0 y1 y2 y3,LeO (slices_EqualFunc.l0 k y0 y1 y2 y3) (slices_EqualFunc.l0 (k + 1) y0 y1 y2 y3))
  | 0 => fun _ _ _ _ r h => by simp [slices_EqualFunc.l0] at h
  | k + 1 => by
    have ih0 := slices_EqualFunc.mono_l k
    · intro y0 y1 y2 y3
      unfold slices_EqualFunc.l0
      repeat' first
      | (with_reducible exact ih0 _ _ _ _)
      | (with_reducible exact bag_Same_1.mono _ _ _ _ _)
      | (with_reducible exact LeO.refl _)
      | (with_reducible exact LeO.none _)
      | (with_reducible refine LeO.ite ?_ ?_)
      | (with_reducible refine LeO.bind ?_ (fun _ => ?_))
      | exact ih0 _ _ _ _
      | exact bag_Same_1.mono _ _ _ _ _
      | exact LeO.none _
      | refine LeO.ite ?_ ?_
      | refine LeO.bind ?_ (fun _ => ?_)
theorem slices_EqualFunc.mono : ∀ a0 a1 a2 k,LeO (slices_EqualFunc.f k a0 a1 a2) (slices_EqualFunc.f (k + 1) a0 a1 a2) := by
  intro a0 a1 a2 k
  have ih0 := slices_EqualFunc.mono_l k
  unfold slices_EqualFunc.f
  repeat' first
      | (with_reducible exact ih0 _ _ _ _)
      | (with_reducible exact bag_Same_1.mono _ _ _ _ _)
      | (with_reducible exact LeO.refl _)
      | (with_reducible exact LeO.none _)
      | (with_reducible refine LeO.ite ?_ ?_)
      | (with_reducible refine LeO.bind ?_ (fun _ => ?_))
      | exact ih0 _ _ _ _
      | exact bag_Same_1.mono _ _ _ _ _
      | exact LeO.none _
      | refine LeO.ite ?_ ?_
      | refine LeO.bind ?_ (fun _ => ?_)
set_option maxHeartbeats 8000000 in
set_option maxRecDepth 100000 in
theorem slices_EqualFunc.calls (k : Nat) (A0 : Option Addr) (c0 : Nat) (l0 : List (S34)) (A1 : Option Addr) (c1 : Nat) (l1 : List (S34)) (a2 : Int) (r : Bool) (w : World) (hr0 : Kd.C k34 w A0 l0.length l0) (hc0 : l0.length ≤ c0) (hr1 : Kd.C k34 w A1 l1.length l1) (hc1 : l1.length ≤ c1) (h : slices_EqualFunc.f k l0 l1 a2 = some r) :
    Calls Try.prog 72 #[.slice A0 l0.length c0,.slice A1 l1.length c1,.func (.func 73) #[] #[]] w fun e w' => e = .returned (.bool r) ∧ Below w.heap.size w w' := by
  have hu34 := Try.underlying34
  have HR0 := Aside0.mk hr0
  have HC0 := Aside0.mk hc0
  clear hr0 hc0
  have HR1 := Aside0.mk hr1
  have HC1 := Aside0.mk hc1
  clear hr1 hc1
  have HB := Aside0.mk (Below.refl w.heap.size w)
  have H : (if (l0.length : Int) = (l1.length : Int) then (slices_EqualFunc.l0 k l1 l0 (l0.length : Int) 0) else (some false)) = some r := h
  clear h
  by_cases c4 : (l0.length : Int) = (l1.length : Int)
  · rw [if_pos c4] at H
    have c4b0 : ((l0.length : Int) == (l1.length : Int)) = true := beq_iff_eq.mpr c4
    have c4b1 : ((l0.length : Int) != (l1.length : Int)) = false := bne_eq_false_iff_eq.mpr c4
    have c4b2 : (l0.length == l1.length) = true := by first | simpa using c4 | (simp at c4 ⊢;omega)
    clear c4
    have H' := Aside0.mk H
    clear H
    go_enter Try.func72,Try.ntmps72
    go_wp2
    go_loopg [17] k (fun kq v17 w' => ∃ (x17_1 : Int),v17 = .int .i64 x17_1 ∧ Aside0 (slices_EqualFunc.l0 kq l1 l0 (l0.length : Int) x17_1 = some r) ∧ Aside0 (kq ≤ k) ∧ Aside0 (Below w.heap.size w w'))
    case atStart => exact ⟨(0),(by first | rfl | (simp;done) | (simp [*];done)),H',⟨Nat.le_refl _⟩,⟨by repeat (first | (with_reducible first | exact HB.out | apply below_alloc | apply pw_below_drewN | apply below_drew1) | exact HB.out)⟩⟩
    case round =>
      clear H'
      try clear c1
      try clear p2
      try clear c4
      try clear c4b0
      try clear c4b1
      try clear c4b2
      obtain ⟨x17_1,rfl,HA,HK1,HB⟩ := hrel
      cases gk with
      | zero => exact absurd HA.out (by simp [slices_EqualFunc.l0])
      | succ k1 =>
        have H := HA.out
        clear HA
        simp only [slices_EqualFunc.l0] at H
        by_cases c5 : x17_1 < (l0.length : Int)
        · rw [if_pos c5] at H
          have c5b0 : decide (x17_1 < (l0.length : Int)) = true := decide_eq_true c5
          clear c5
          by_cases c6 : 0 ≤ x17_1
          · rw [if_pos c6] at H
            have c6b0 : decide (0 ≤ x17_1) = true := decide_eq_true c6
            clear c6
            by_cases c7 : x17_1 < (l0.length : Int)
            · rw [if_pos c7] at H
              have c7b0 : decide (x17_1 < (l0.length : Int)) = true := decide_eq_true c7
              clear c7
              by_cases c8 : x17_1 < (l1.length : Int)
              · rw [if_pos c8] at H
                have c8b0 : decide (x17_1 < (l1.length : Int)) = true := decide_eq_true c8
                clear c8
                replace H := Option.bind_eq_some_iff.mp H
                obtain ⟨t234,A90,H⟩ := H
                replace H : (if t234 = true then (slices_EqualFunc.l0 k1 l1 l0 (l0.length : Int) (wrap64 (x17_1 + 1))) else (some false)) = some r := H
                have A9 := Aside0.mk A90
                clear A90
                by_cases c10 : t234 = true
                · subst c10
                  have H1 : (slices_EqualFunc.l0 k1 l1 l0 (l0.length : Int) (wrap64 (x17_1 + 1))) = some r := by rw [if_pos rfl] at H;exact H
                  clear H
                  have H := H1
                  clear H1
                  have H' := Aside0.mk H
                  clear H
                  have p230 : 0 ≤ (x17_1 : Int) := of_decide_eq_true (by first | (with_reducible assumption) | assumption)
                  have q230 : x17_1 < (l0.length : Int) := of_decide_eq_true (by first | (with_reducible assumption) | assumption)
                  obtain ⟨ad230,A230_0,c230_0,e230,hx230_0,hx230_1,hl230_0,hi230_0⟩ := at_T34 HR0.out x17_1 p230 q230
                  cases e230
                  replace hx230_0 := (HB.out.cell (World.block_lt_of_cell? w _ hx230_0)).trans hx230_0
                  replace hx230_1 := (HB.out.cell (World.block_lt_of_cell? w _ hx230_1)).trans hx230_1
                  have HR230_0 := Aside0.mk hi230_0
                  have HC230_0 := Aside0.mk hl230_0
                  clear hi230_0 hl230_0
                  replace p230 := eq_true p230
                  replace q230 := eq_true q230
                  go_wp2_with (first | ((with_reducible refine gate_dst (N := 8) rfl ?_);refine box_event ?hg (N := 8) ?hd (cs := #[.slice none 0 0,.int .i64 0]) (t := 34) ?hr ?_;(case hd => rfl);(case hg => rfl);(case hr => first | (go_simp;done) | (go_simp;rfl));intro gb231 hg w11 hbox hb;have n0_ := Aside0.mk (below_step (by repeat (first | (with_reducible first | exact HB.out | apply below_alloc | apply pw_below_drewN | apply below_drew1) | exact HB.out)) hb);have n1_ := Aside0.mk (hbox);have n2_ := Aside0.mk ((by rw [hg];exact (below_size (by repeat (first | (with_reducible first | exact HB.out | apply below_alloc | apply pw_below_drewN | apply below_drew1) | exact HB.out))) : w.heap.size ≤ gb231));have n3_ := Aside0.mk ((by rw [hg];exact (below_size (by repeat (first | (with_reducible first | exact HB.out | apply below_alloc | apply pw_below_drewN | apply below_drew1) | exact HB.out))) : w.heap.size ≤ gb231));clear HB;have HB := n0_;have BK231 := n1_;have GW231 := n2_;have GE231 := n3_;clear n0_ n1_ n2_ n3_;clear hb hbox hg;have hcz12_0 : w11.cell? ⟨gb231,0,none⟩ = some (.slice none 0 0) := (blk_cell BK231.out 0).trans rfl;have hcz12_1 : w11.cell? ⟨gb231,1,none⟩ = some (.int .i64 0) := (blk_cell BK231.out 1).trans rfl;have hfz12_0 := blk_frozen BK231.out 0;have hfz12_1 := blk_frozen BK231.out 1;have p232 : 0 ≤ (x17_1 : Int) := of_decide_eq_true (by first | (with_reducible assumption) | assumption);have q232 : x17_1 < (l1.length : Int) := of_decide_eq_true (by first | (with_reducible assumption) | assumption);obtain ⟨ad232,A232_0,c232_0,e232,hx232_0,hx232_1,hl232_0,hi232_0⟩ := at_T34 HR1.out x17_1 p232 q232;cases e232;have hn232_0 : ad232.block ≠ gb231 := Nat.ne_of_lt (Nat.lt_of_lt_of_le (by have := World.block_lt_of_cell? _ _ hx232_0;first | rwa [add_block] at this | exact this) GW231.out);have hn232_1 : ad232.block ≠ gb231 := Nat.ne_of_lt (Nat.lt_of_lt_of_le (by have := World.block_lt_of_cell? _ _ hx232_0;first | rwa [add_block] at this | exact this) GW231.out);replace hx232_0 := (HB.out.cell (World.block_lt_of_cell? w _ hx232_0)).trans hx232_0;replace hx232_1 := (HB.out.cell (World.block_lt_of_cell? w _ hx232_1)).trans hx232_1;have HR232_0 := Aside0.mk hi232_0;have HC232_0 := Aside0.mk hl232_0;clear hi232_0 hl232_0;replace hx232_0 := (cell_far (p := ⟨gb231,0,none⟩) (by first | (rw [add_block];exact hn232_0) | (show (Addr.add _ _).block ≠ _;rw [add_block];exact hn232_0) | exact hn232_0) (.slice A230_0 ((rd_T34 l0 x17_1).f0).length c230_0)).trans hx232_0;replace hx232_1 := (cell_far (p := ⟨gb231,0,none⟩) (by first | (rw [add_block];exact hn232_0) | (show (Addr.add _ _).block ≠ _;rw [add_block];exact hn232_0) | exact hn232_0) (.slice A230_0 ((rd_T34 l0 x17_1).f0).length c230_0)).trans hx232_1;replace hx232_0 := (cell_far (p := ⟨gb231,1,none⟩) (by first | (rw [add_block];exact hn232_1) | (show (Addr.add _ _).block ≠ _;rw [add_block];exact hn232_1) | exact hn232_1) (.int .i64 ((rd_T34 l0 x17_1).f1))).trans hx232_0;replace hx232_1 := (cell_far (p := ⟨gb231,1,none⟩) (by first | (rw [add_block];exact hn232_1) | (show (Addr.add _ _).block ≠ _;rw [add_block];exact hn232_1) | exact hn232_1) (.int .i64 ((rd_T34 l0 x17_1).f1))).trans hx232_1;clear hn232_0;clear hn232_1;replace p232 := eq_true p232;replace q232 := eq_true q232) | ((with_reducible refine gate_dst (N := 9) rfl ?_);refine box_event ?hg (N := 9) ?hd (cs := #[.slice none 0 0,.int .i64 0]) (t := 34) ?hr ?_;(case hd => rfl);(case hg => rfl);(case hr => first | (go_simp;done) | (go_simp;rfl));intro gb233 hg w13 hbox hb;have n0_ := Aside0.mk (blk_below (g := gb231) (o := .cells #[.slice A230_0 ((rd_T34 l0 x17_1).f0).length c230_0,.int .i64 ((rd_T34 l0 x17_1).f1)] 34 (0,0)) (by (with_reducible repeat (first | refine blk_drewN ?_ _ | refine blk_drew ?_ | refine blk_alloc ?_ _));refine blk_put (cs := #[.slice A230_0 ((rd_T34 l0 x17_1).f0).length c230_0,.int .i64 0]) ?_ 1 _ rfl;(with_reducible repeat (first | refine blk_drewN ?_ _ | refine blk_drew ?_ | refine blk_alloc ?_ _));refine blk_put (cs := #[.slice none 0 0,.int .i64 0]) ?_ 0 _ rfl;(with_reducible repeat (first | refine blk_drewN ?_ _ | refine blk_drew ?_ | refine blk_alloc ?_ _));exact BK231.out) hb);have n1_ := Aside0.mk (below_step (by repeat (first | (with_reducible first | exact HB.out | apply below_alloc | apply pw_below_drewN | apply below_drew1 | refine below_set ?_ GE231.out) | exact HB.out)) hb);have n2_ := Aside0.mk (hbox);have n3_ := Aside0.mk ((by rw [hg];exact (below_size (by repeat (first | (with_reducible first | exact HB.out | apply below_alloc | apply pw_below_drewN | apply below_drew1 | refine below_set ?_ GE231.out) | exact HB.out))) : w.heap.size ≤ gb233));have n4_ := Aside0.mk ((by rw [hg];exact (below_size (by repeat (first | (with_reducible first | exact HB.out | apply below_alloc | apply pw_below_drewN | apply below_drew1 | refine below_set ?_ GE231.out) | exact HB.out))) : w.heap.size ≤ gb233));have n5_ := Aside0.mk ((by rw [hg];exact Nat.ne_of_lt (blk_lt (g := gb231) (o := .cells #[.slice A230_0 ((rd_T34 l0 x17_1).f0).length c230_0,.int .i64 ((rd_T34 l0 x17_1).f1)] 34 (0,0)) (by (with_reducible repeat (first | refine blk_drewN ?_ _ | refine blk_drew ?_ | refine blk_alloc ?_ _));refine blk_put (cs := #[.slice A230_0 ((rd_T34 l0 x17_1).f0).length c230_0,.int .i64 0]) ?_ 1 _ rfl;(with_reducible repeat (first | refine blk_drewN ?_ _ | refine blk_drew ?_ | refine blk_alloc ?_ _));refine blk_put (cs := #[.slice none 0 0,.int .i64 0]) ?_ 0 _ rfl;(with_reducible repeat (first | refine blk_drewN ?_ _ | refine blk_drew ?_ | refine blk_alloc ?_ _));exact BK231.out)) : gb231 ≠ gb233));have n6_ := Aside0.mk ((by rw [hg];exact Nat.ne_of_gt (blk_lt (g := gb231) (o := .cells #[.slice A230_0 ((rd_T34 l0 x17_1).f0).length c230_0,.int .i64 ((rd_T34 l0 x17_1).f1)] 34 (0,0)) (by (with_reducible repeat (first | refine blk_drewN ?_ _ | refine blk_drew ?_ | refine blk_alloc ?_ _));refine blk_put (cs := #[.slice A230_0 ((rd_T34 l0 x17_1).f0).length c230_0,.int .i64 0]) ?_ 1 _ rfl;(with_reducible repeat (first | refine blk_drewN ?_ _ | refine blk_drew ?_ | refine blk_alloc ?_ _));refine blk_put (cs := #[.slice none 0 0,.int .i64 0]) ?_ 0 _ rfl;(with_reducible repeat (first | refine blk_drewN ?_ _ | refine blk_drew ?_ | refine blk_alloc ?_ _));exact BK231.out)) : gb233 ≠ gb231));clear BK231;clear HB;have BK231 := n0_;have HB := n1_;have BK233 := n2_;have GW233 := n3_;have GE233 := n4_;have NB231_233 := n5_;have NB233_231 := n6_;clear n0_ n1_ n2_ n3_ n4_ n5_ n6_;clear hb hbox hg;have hnb14 := NB233_231.out;have hnc14 := NB231_233.out;have hcz15_0 : w13.cell? ⟨gb233,0,none⟩ = some (.slice none 0 0) := (blk_cell BK233.out 0).trans rfl;have hcz15_1 : w13.cell? ⟨gb233,1,none⟩ = some (.int .i64 0) := (blk_cell BK233.out 1).trans rfl;have hfz15_0 := blk_frozen BK233.out 0;have hfz15_1 := blk_frozen BK233.out 1;have hcz16_0 : w13.cell? ⟨gb231,0,none⟩ = some (.slice A230_0 ((rd_T34 l0 x17_1).f0).length c230_0) := (blk_cell BK231.out 0).trans rfl;have hcz16_1 : w13.cell? ⟨gb231,1,none⟩ = some (.int .i64 ((rd_T34 l0 x17_1).f1)) := (blk_cell BK231.out 1).trans rfl;have hfz16_0 := blk_frozen BK231.out 0;have hfz16_1 := blk_frozen BK231.out 1) | ((with_reducible refine gate_tmp (n := 26) rfl ?_);refine goesT_ (some 29) rfl rfl Try.func73 (by kernel_rfl) rfl #[.agg #[.slice A230_0 ((rd_T34 l0 x17_1).f0).length c230_0,.int .i64 ((rd_T34 l0 x17_1).f1)],.agg #[.slice A232_0 ((rd_T34 l1 x17_1).f0).length c232_0,.int .i64 ((rd_T34 l1 x17_1).f1)]] rfl rfl (by (try simp only [List.map_toArray,List.map_cons,List.map_nil]);first | done | rfl | (simp only [List.length_drop,List.length_take];rfl)) ?_;(with_reducible refine (bag_Same_1.calls k1 _ _ ((rd_T34 l0 x17_1).f0) ((rd_T34 l0 x17_1).f1) _ _ ((rd_T34 l1 x17_1).f0) ((rd_T34 l1 x17_1).f1) true _ ?side1 ?side2 ?side3 ?side4 A9.out).mono ?_);(case side1 => exact Kd.C_below HR230_0.out (by repeat (first | (with_reducible first | exact HB.out | apply below_alloc | apply pw_below_drewN | apply below_drew1 | refine below_set ?_ GE231.out | refine below_set ?_ GE233.out) | exact HB.out)));(case side2 => exact HC230_0.out);(case side3 => exact Kd.C_below HR232_0.out (by repeat (first | (with_reducible first | exact HB.out | apply below_alloc | apply pw_below_drewN | apply below_drew1 | refine below_set ?_ GE231.out | refine below_set ?_ GE233.out) | exact HB.out)));(case side4 => exact HC232_0.out);rintro e w17 ⟨rfl,hb⟩;refine ⟨_,rfl,?_⟩;have n0_ := Aside0.mk (blk_below (g := gb231) (o := .cells #[.slice A230_0 ((rd_T34 l0 x17_1).f0).length c230_0,.int .i64 ((rd_T34 l0 x17_1).f1)] 34 (0,0)) (by (with_reducible repeat (first | refine blk_drewN ?_ _ | refine blk_drew ?_ | refine blk_alloc ?_ _));refine blk_far ?_ NB231_233.out _;(with_reducible repeat (first | refine blk_drewN ?_ _ | refine blk_drew ?_ | refine blk_alloc ?_ _));refine blk_far ?_ NB231_233.out _;(with_reducible repeat (first | refine blk_drewN ?_ _ | refine blk_drew ?_ | refine blk_alloc ?_ _));exact BK231.out) hb);have n1_ := Aside0.mk (blk_below (g := gb233) (o := .cells #[.slice A232_0 ((rd_T34 l1 x17_1).f0).length c232_0,.int .i64 ((rd_T34 l1 x17_1).f1)] 34 (0,0)) (by (with_reducible repeat (first | refine blk_drewN ?_ _ | refine blk_drew ?_ | refine blk_alloc ?_ _));refine blk_put (cs := #[.slice A232_0 ((rd_T34 l1 x17_1).f0).length c232_0,.int .i64 0]) ?_ 1 _ rfl;(with_reducible repeat (first | refine blk_drewN ?_ _ | refine blk_drew ?_ | refine blk_alloc ?_ _));refine blk_put (cs := #[.slice none 0 0,.int .i64 0]) ?_ 0 _ rfl;(with_reducible repeat (first | refine blk_drewN ?_ _ | refine blk_drew ?_ | refine blk_alloc ?_ _));exact BK233.out) hb);have n2_ := Aside0.mk (below_step (by repeat (first | (with_reducible first | exact HB.out | apply below_alloc | apply pw_below_drewN | apply below_drew1 | refine below_set ?_ GE231.out | refine below_set ?_ GE233.out) | exact HB.out)) hb);clear BK231;clear BK233;clear HB;have BK231 := n0_;have BK233 := n1_;have HB := n2_;clear n0_ n1_ n2_;(try clear hb);(try clear hb2);(try clear hk);(try clear hi)))
                  go_roundg k1
                  case measure => have := HK1.out;omega
                  case rel => exact ⟨(wrap64 (x17_1 + 1)),(by first | rfl | (simp;done) | (simp [*];done)),H',⟨by have := HK1.out;omega⟩,⟨by repeat (first | (with_reducible first | exact HB.out | apply below_alloc | apply pw_below_drewN | apply below_drew1 | refine below_set ?_ GE231.out | refine below_set ?_ GE233.out) | exact HB.out)⟩⟩
                · replace c10 := Bool.eq_false_iff.mpr c10
                  subst c10
                  have H1 : (some false) = some r := by rw [if_neg (show ¬ (false = true) by decide)] at H;exact H
                  clear H
                  have H := H1
                  clear H1
                  obtain rfl := Option.some.inj H
                  have p230 : 0 ≤ (x17_1 : Int) := of_decide_eq_true (by first | (with_reducible assumption) | assumption)
                  have q230 : x17_1 < (l0.length : Int) := of_decide_eq_true (by first | (with_reducible assumption) | assumption)
                  obtain ⟨ad230,A230_0,c230_0,e230,hx230_0,hx230_1,hl230_0,hi230_0⟩ := at_T34 HR0.out x17_1 p230 q230
                  cases e230
                  replace hx230_0 := (HB.out.cell (World.block_lt_of_cell? w _ hx230_0)).trans hx230_0
                  replace hx230_1 := (HB.out.cell (World.block_lt_of_cell? w _ hx230_1)).trans hx230_1
                  have HR230_0 := Aside0.mk hi230_0
                  have HC230_0 := Aside0.mk hl230_0
                  clear hi230_0 hl230_0
                  replace p230 := eq_true p230
                  replace q230 := eq_true q230
                  go_wp2_with (first | ((with_reducible refine gate_dst (N := 8) rfl ?_);refine box_event ?hg (N := 8) ?hd (cs := #[.slice none 0 0,.int .i64 0]) (t := 34) ?hr ?_;(case hd => rfl);(case hg => rfl);(case hr => first | (go_simp;done) | (go_simp;rfl));intro gb231 hg w18 hbox hb;have n0_ := Aside0.mk (below_step (by repeat (first | (with_reducible first | exact HB.out | apply below_alloc | apply pw_below_drewN | apply below_drew1) | exact HB.out)) hb);have n1_ := Aside0.mk (hbox);have n2_ := Aside0.mk ((by rw [hg];exact (below_size (by repeat (first | (with_reducible first | exact HB.out | apply below_alloc | apply pw_below_drewN | apply below_drew1) | exact HB.out))) : w.heap.size ≤ gb231));have n3_ := Aside0.mk ((by rw [hg];exact (below_size (by repeat (first | (with_reducible first | exact HB.out | apply below_alloc | apply pw_below_drewN | apply below_drew1) | exact HB.out))) : w.heap.size ≤ gb231));clear HB;have HB := n0_;have BK231 := n1_;have GW231 := n2_;have GE231 := n3_;clear n0_ n1_ n2_ n3_;clear hb hbox hg;have hcz19_0 : w18.cell? ⟨gb231,0,none⟩ = some (.slice none 0 0) := (blk_cell BK231.out 0).trans rfl;have hcz19_1 : w18.cell? ⟨gb231,1,none⟩ = some (.int .i64 0) := (blk_cell BK231.out 1).trans rfl;have hfz19_0 := blk_frozen BK231.out 0;have hfz19_1 := blk_frozen BK231.out 1;have p232 : 0 ≤ (x17_1 : Int) := of_decide_eq_true (by first | (with_reducible assumption) | assumption);have q232 : x17_1 < (l1.length : Int) := of_decide_eq_true (by first | (with_reducible assumption) | assumption);obtain ⟨ad232,A232_0,c232_0,e232,hx232_0,hx232_1,hl232_0,hi232_0⟩ := at_T34 HR1.out x17_1 p232 q232;cases e232;have hn232_0 : ad232.block ≠ gb231 := Nat.ne_of_lt (Nat.lt_of_lt_of_le (by have := World.block_lt_of_cell? _ _ hx232_0;first | rwa [add_block] at this | exact this) GW231.out);have hn232_1 : ad232.block ≠ gb231 := Nat.ne_of_lt (Nat.lt_of_lt_of_le (by have := World.block_lt_of_cell? _ _ hx232_0;first | rwa [add_block] at this | exact this) GW231.out);replace hx232_0 := (HB.out.cell (World.block_lt_of_cell? w _ hx232_0)).trans hx232_0;replace hx232_1 := (HB.out.cell (World.block_lt_of_cell? w _ hx232_1)).trans hx232_1;have HR232_0 := Aside0.mk hi232_0;have HC232_0 := Aside0.mk hl232_0;clear hi232_0 hl232_0;replace hx232_0 := (cell_far (p := ⟨gb231,0,none⟩) (by first | (rw [add_block];exact hn232_0) | (show (Addr.add _ _).block ≠ _;rw [add_block];exact hn232_0) | exact hn232_0) (.slice A230_0 ((rd_T34 l0 x17_1).f0).length c230_0)).trans hx232_0;replace hx232_1 := (cell_far (p := ⟨gb231,0,none⟩) (by first | (rw [add_block];exact hn232_0) | (show (Addr.add _ _).block ≠ _;rw [add_block];exact hn232_0) | exact hn232_0) (.slice A230_0 ((rd_T34 l0 x17_1).f0).length c230_0)).trans hx232_1;replace hx232_0 := (cell_far (p := ⟨gb231,1,none⟩) (by first | (rw [add_block];exact hn232_1) | (show (Addr.add _ _).block ≠ _;rw [add_block];exact hn232_1) | exact hn232_1) (.int .i64 ((rd_T34 l0 x17_1).f1))).trans hx232_0;replace hx232_1 := (cell_far (p := ⟨gb231,1,none⟩) (by first | (rw [add_block];exact hn232_1) | (show (Addr.add _ _).block ≠ _;rw [add_block];exact hn232_1) | exact hn232_1) (.int .i64 ((rd_T34 l0 x17_1).f1))).trans hx232_1;clear hn232_0;clear hn232_1;replace p232 := eq_true p232;replace q232 := eq_true q232) | ((with_reducible refine gate_dst (N := 9) rfl ?_);refine box_event ?hg (N := 9) ?hd (cs := #[.slice none 0 0,.int .i64 0]) (t := 34) ?hr ?_;(case hd => rfl);(case hg => rfl);(case hr => first | (go_simp;done) | (go_simp;rfl));intro gb233 hg w20 hbox hb;have n0_ := Aside0.mk (blk_below (g := gb231) (o := .cells #[.slice A230_0 ((rd_T34 l0 x17_1).f0).length c230_0,.int .i64 ((rd_T34 l0 x17_1).f1)] 34 (0,0)) (by (with_reducible repeat (first | refine blk_drewN ?_ _ | refine blk_drew ?_ | refine blk_alloc ?_ _));refine blk_put (cs := #[.slice A230_0 ((rd_T34 l0 x17_1).f0).length c230_0,.int .i64 0]) ?_ 1 _ rfl;(with_reducible repeat (first | refine blk_drewN ?_ _ | refine blk_drew ?_ | refine blk_alloc ?_ _));refine blk_put (cs := #[.slice none 0 0,.int .i64 0]) ?_ 0 _ rfl;(with_reducible repeat (first | refine blk_drewN ?_ _ | refine blk_drew ?_ | refine blk_alloc ?_ _));exact BK231.out) hb);have n1_ := Aside0.mk (below_step (by repeat (first | (with_reducible first | exact HB.out | apply below_alloc | apply pw_below_drewN | apply below_drew1 | refine below_set ?_ GE231.out) | exact HB.out)) hb);have n2_ := Aside0.mk (hbox);have n3_ := Aside0.mk ((by rw [hg];exact (below_size (by repeat (first | (with_reducible first | exact HB.out | apply below_alloc | apply pw_below_drewN | apply below_drew1 | refine below_set ?_ GE231.out) | exact HB.out))) : w.heap.size ≤ gb233));have n4_ := Aside0.mk ((by rw [hg];exact (below_size (by repeat (first | (with_reducible first | exact HB.out | apply below_alloc | apply pw_below_drewN | apply below_drew1 | refine below_set ?_ GE231.out) | exact HB.out))) : w.heap.size ≤ gb233));have n5_ := Aside0.mk ((by rw [hg];exact Nat.ne_of_lt (blk_lt (g := gb231) (o := .cells #[.slice A230_0 ((rd_T34 l0 x17_1).f0).length c230_0,.int .i64 ((rd_T34 l0 x17_1).f1)] 34 (0,0)) (by (with_reducible repeat (first | refine blk_drewN ?_ _ | refine blk_drew ?_ | refine blk_alloc ?_ _));refine blk_put (cs := #[.slice A230_0 ((rd_T34 l0 x17_1).f0).length c230_0,.int .i64 0]) ?_ 1 _ rfl;(with_reducible repeat (first | refine blk_drewN ?_ _ | refine blk_drew ?_ | refine blk_alloc ?_ _));refine blk_put (cs := #[.slice none 0 0,.int .i64 0]) ?_ 0 _ rfl;(with_reducible repeat (first | refine blk_drewN ?_ _ | refine blk_drew ?_ | refine blk_alloc ?_ _));exact BK231.out)) : gb231 ≠ gb233));have n6_ := Aside0.mk ((by rw [hg];exact Nat.ne_of_gt (blk_lt (g := gb231) (o := .cells #[.slice A230_0 ((rd_T34 l0 x17_1).f0).length c230_0,.int .i64 ((rd_T34 l0 x17_1).f1)] 34 (0,0)) (by (with_reducible repeat (first | refine blk_drewN ?_ _ | refine blk_drew ?_ | refine blk_alloc ?_ _));refine blk_put (cs := #[.slice A230_0 ((rd_T34 l0 x17_1).f0).length c230_0,.int .i64 0]) ?_ 1 _ rfl;(with_reducible repeat (first | refine blk_drewN ?_ _ | refine blk_drew ?_ | refine blk_alloc ?_ _));refine blk_put (cs := #[.slice none 0 0,.int .i64 0]) ?_ 0 _ rfl;(with_reducible repeat (first | refine blk_drewN ?_ _ | refine blk_drew ?_ | refine blk_alloc ?_ _));exact BK231.out)) : gb233 ≠ gb231));clear BK231;clear HB;have BK231 := n0_;have HB := n1_;have BK233 := n2_;have GW233 := n3_;have GE233 := n4_;have NB231_233 := n5_;have NB233_231 := n6_;clear n0_ n1_ n2_ n3_ n4_ n5_ n6_;clear hb hbox hg;have hnb21 := NB233_231.out;have hnc21 := NB231_233.out;have hcz22_0 : w20.cell? ⟨gb233,0,none⟩ = some (.slice none 0 0) := (blk_cell BK233.out 0).trans rfl;have hcz22_1 : w20.cell? ⟨gb233,1,none⟩ = some (.int .i64 0) := (blk_cell BK233.out 1).trans rfl;have hfz22_0 := blk_frozen BK233.out 0;have hfz22_1 := blk_frozen BK233.out 1;have hcz23_0 : w20.cell? ⟨gb231,0,none⟩ = some (.slice A230_0 ((rd_T34 l0 x17_1).f0).length c230_0) := (blk_cell BK231.out 0).trans rfl;have hcz23_1 : w20.cell? ⟨gb231,1,none⟩ = some (.int .i64 ((rd_T34 l0 x17_1).f1)) := (blk_cell BK231.out 1).trans rfl;have hfz23_0 := blk_frozen BK231.out 0;have hfz23_1 := blk_frozen BK231.out 1) | ((with_reducible refine gate_tmp (n := 26) rfl ?_);refine goesT_ (some 29) rfl rfl Try.func73 (by kernel_rfl) rfl #[.agg #[.slice A230_0 ((rd_T34 l0 x17_1).f0).length c230_0,.int .i64 ((rd_T34 l0 x17_1).f1)],.agg #[.slice A232_0 ((rd_T34 l1 x17_1).f0).length c232_0,.int .i64 ((rd_T34 l1 x17_1).f1)]] rfl rfl (by (try simp only [List.map_toArray,List.map_cons,List.map_nil]);first | done | rfl | (simp only [List.length_drop,List.length_take];rfl)) ?_;(with_reducible refine (bag_Same_1.calls k1 _ _ ((rd_T34 l0 x17_1).f0) ((rd_T34 l0 x17_1).f1) _ _ ((rd_T34 l1 x17_1).f0) ((rd_T34 l1 x17_1).f1) false _ ?side1 ?side2 ?side3 ?side4 A9.out).mono ?_);(case side1 => exact Kd.C_below HR230_0.out (by repeat (first | (with_reducible first | exact HB.out | apply below_alloc | apply pw_below_drewN | apply below_drew1 | refine below_set ?_ GE231.out | refine below_set ?_ GE233.out) | exact HB.out)));(case side2 => exact HC230_0.out);(case side3 => exact Kd.C_below HR232_0.out (by repeat (first | (with_reducible first | exact HB.out | apply below_alloc | apply pw_below_drewN | apply below_drew1 | refine below_set ?_ GE231.out | refine below_set ?_ GE233.out) | exact HB.out)));(case side4 => exact HC232_0.out);rintro e w24 ⟨rfl,hb⟩;refine ⟨_,rfl,?_⟩;have n0_ := Aside0.mk (blk_below (g := gb231) (o := .cells #[.slice A230_0 ((rd_T34 l0 x17_1).f0).length c230_0,.int .i64 ((rd_T34 l0 x17_1).f1)] 34 (0,0)) (by (with_reducible repeat (first | refine blk_drewN ?_ _ | refine blk_drew ?_ | refine blk_alloc ?_ _));refine blk_far ?_ NB231_233.out _;(with_reducible repeat (first | refine blk_drewN ?_ _ | refine blk_drew ?_ | refine blk_alloc ?_ _));refine blk_far ?_ NB231_233.out _;(with_reducible repeat (first | refine blk_drewN ?_ _ | refine blk_drew ?_ | refine blk_alloc ?_ _));exact BK231.out) hb);have n1_ := Aside0.mk (blk_below (g := gb233) (o := .cells #[.slice A232_0 ((rd_T34 l1 x17_1).f0).length c232_0,.int .i64 ((rd_T34 l1 x17_1).f1)] 34 (0,0)) (by (with_reducible repeat (first | refine blk_drewN ?_ _ | refine blk_drew ?_ | refine blk_alloc ?_ _));refine blk_put (cs := #[.slice A232_0 ((rd_T34 l1 x17_1).f0).length c232_0,.int .i64 0]) ?_ 1 _ rfl;(with_reducible repeat (first | refine blk_drewN ?_ _ | refine blk_drew ?_ | refine blk_alloc ?_ _));refine blk_put (cs := #[.slice none 0 0,.int .i64 0]) ?_ 0 _ rfl;(with_reducible repeat (first | refine blk_drewN ?_ _ | refine blk_drew ?_ | refine blk_alloc ?_ _));exact BK233.out) hb);have n2_ := Aside0.mk (below_step (by repeat (first | (with_reducible first | exact HB.out | apply below_alloc | apply pw_below_drewN | apply below_drew1 | refine below_set ?_ GE231.out | refine below_set ?_ GE233.out) | exact HB.out)) hb);clear BK231;clear BK233;clear HB;have BK231 := n0_;have BK233 := n1_;have HB := n2_;clear n0_ n1_ n2_;(try clear hb);(try clear hb2);(try clear hk);(try clear hi)))
                  go_ret
                  exact ⟨by first | rfl | (simp [errW_none,errW_some] <;> rfl) | (simp [*,errW_none,errW_some] <;> rfl),by repeat (first | (with_reducible first | exact HB.out | apply below_alloc | apply pw_below_drewN | apply below_drew1 | refine below_set ?_ GE231.out | refine below_set ?_ GE233.out) | exact HB.out)⟩
              · rw [if_neg c8] at H
                exact absurd H (by simp)
            · rw [if_neg c7] at H
              exact absurd H (by simp)
          · rw [if_neg c6] at H
            exact absurd H (by simp)
        · rw [if_neg c5] at H
          have c5b0 : decide (x17_1 < (l0.length : Int)) = false := decide_eq_false c5
          clear c5
          obtain rfl := Option.some.inj H
          go_wp2
          go_ret
          exact ⟨by first | rfl | (simp [errW_none,errW_some] <;> rfl) | (simp [*,errW_none,errW_some] <;> rfl),by repeat (first | (with_reducible first | exact HB.out | apply below_alloc | apply pw_below_drewN | apply below_drew1) | exact HB.out)⟩
  · rw [if_neg c4] at H
    have c4b0 : ((l0.length : Int) == (l1.length : Int)) = false := beq_eq_false_iff_ne.mpr c4
    have c4b1 : ((l0.length : Int) != (l1.length : Int)) = true := bne_iff_ne.mpr c4
    have c4b2 : (l0.length == l1.length) = false := by first | simpa using c4 | (simp at c4 ⊢;omega)
    obtain rfl := Option.some.inj H
    go_enter Try.func72,Try.ntmps72
    go_wp2
    go_ret
    exact ⟨by first | rfl | (simp [errW_none,errW_some] <;> rfl) | (simp [*,errW_none,errW_some] <;> rfl),by repeat (first | (with_reducible first | exact HB.out | apply below_alloc | apply pw_below_drewN | apply below_drew1) | exact HB.out)⟩
end Go.Proofs.Ythmbfcfomcaaaaa.Z
end
section
namespace Go.Proofs.Ythmbfcfomcaaaaa.Z
set_option linter.unusedVariables false
set_option linter.unusedSimpArgs false
open Go.RowKit Go.Proofs.YthmbfcfomcaaaaaW.PrintWords Go.Proofs.YthmbfcfomcaaaaaW.PrintLast Go.Proofs.YthmbfcfomcaaaaaW.PrintMore Go.Proofs.Ythmbfcfomcaaaaa.Cmp
theorem rows_nil (w : World) : Calls Try.prog 34 #[.pointer none] w fun e w' => e = .returned (.slice none 0 0) ∧ w = w' := by
  go_enter Try.func34,Try.ntmps34
  go_wp2
  go_ret
  exact ⟨rfl,rfl⟩
end Go.Proofs.Ythmbfcfomcaaaaa.Z
end
section
namespace Go.Proofs.Ythmbfcfomcaaaaa.Z
set_option linter.unusedVariables false
set_option linter.unusedSimpArgs false
open Go.RowKit Go.Proofs.YthmbfcfomcaaaaaW.PrintWords Go.Proofs.YthmbfcfomcaaaaaW.PrintLast Go.Proofs.YthmbfcfomcaaaaaW.PrintMore Go.Proofs.Ythmbfcfomcaaaaa.Cmp
end Go.Proofs.Ythmbfcfomcaaaaa.Z
end
section
namespace Go.Proofs.Ythmbfcfomcaaaaa.Z
set_option linter.unusedVariables false
set_option linter.unusedSimpArgs false
open Go.RowKit Go.Proofs.YthmbfcfomcaaaaaW.PrintWords Go.Proofs.YthmbfcfomcaaaaaW.PrintLast Go.Proofs.YthmbfcfomcaaaaaW.PrintMore Go.Proofs.Ythmbfcfomcaaaaa.Cmp
theorem rdV_get {L : Rw} {i : Nat} (hi : i < L.length) : rd_T66 L (i : Int) = L[i] := by
  show L.getD i z66 = _
  simp [List.getD,List.getElem?_eq_getElem hi]
theorem bytes_inj {a b : ByteArray} (h : a.toList = b.toList) : a = b := bytes_ext (by rw [← ByteArray.toList_eq a,← ByteArray.toList_eq b];exact h)
end Go.Proofs.Ythmbfcfomcaaaaa.Z
end
section
namespace Go.Proofs.Ythmbfcfomcaaaaa.Z
open Go.RowKit Go.Proofs.YthmbfcfomcaaaaaW.PrintWords Go.Proofs.YthmbfcfomcaaaaaW.PrintLast Go.Proofs.YthmbfcfomcaaaaaW.PrintMore
attribute [local go_sem] max2_int min2_int max_two min_two max_three min_three max_four min_four
set_option linter.unusedVariables false
set_option linter.unusedSimpArgs false
mutual
def pack_Value.l0 : Nat → List Int → Int → Int → Bool → Int → ByteArray → Option (List Int)
  | 0,_,_,_,_,_,_ => none
  | k + 1,x3,x4,x242000,x242001,x242002,x242003 => if x4 ≥ 0 then (if 0 ≤ (wrap64 (8 * x4)) then (if x3.length < 140737488355328 then (pack_Value.l0 k (x3 ++ [(shr .u64 (Go.bits .xor .u64 (IntKind.u64.wrap (x242002)) 9223372036854775808) (wrap64 (8 * x4))) % 256]) (wrap64 (x4 - 1)) x242000 x242001 x242002 x242003) else (none)) else (none)) else (some x3)
def pack_Value.l1 : Nat → List Int → Int → Int → Int → Bool → Int → ByteArray → Option (List Int)
  | 0,_,_,_,_,_,_,_ => none
  | k + 1,x5,x42,x43,x242000,x242001,x242002,x242003 => if x43 < x42 then (if 0 ≤ x43 then (if x43 < (x242003.size : Int) then (if x5.length < 140737488355328 then ((some (x5 ++ [bt x242003 x43] : List Int)).bind fun y258 => (if (bt x242003 x43) = 0 then (if y258.length < 140737488355328 then (pack_Value.l1 k (y258 ++ [255]) x42 (wrap64 (x43 + 1)) x242000 x242001 x242002 x242003) else (none)) else (pack_Value.l1 k y258 x42 (wrap64 (x43 + 1)) x242000 x242001 x242002 x242003))) else (none)) else (none)) else (none)) else ((some (([0,1] : List Int) : List Int)).bind fun y264 => (if x5.length + y264.length < 140737488355328 then (some (x5 ++ y264)) else (none)))
end
def pack_Value.f (k : Nat) (a0_0 : Int) (a0_1 : Bool) (a0_2 : Int) (a0_3 : ByteArray) : Option (List Int) := (value_Right.f a0_0 a0_1 a0_2 a0_3).bind fun t242 => (if t242 = true then (if a0_0 = 1 then (if a0_1 = true then (some (([2,1] : List Int))) else (some (([2,0] : List Int)))) else (if a0_0 = 2 then (pack_Value.l0 k (([3] : List Int)) 7 a0_0 a0_1 a0_2 a0_3) else (if a0_0 = 3 then (pack_Value.l1 k (([4] : List Int)) (a0_3.size : Int) 0 a0_0 a0_1 a0_2 a0_3) else (some (([1] : List Int)))))) else (some ([] : List Int)))
theorem pack_Value.mono_l : ∀ k,(∀ y0 y1 y2 y3 y4 y5,LeO (pack_Value.l0 k y0 y1 y2 y3 y4 y5) (pack_Value.l0 (k + 1) y0 y1 y2 y3 y4 y5)) ∧ (∀ y0 y1 y2 y3 y4 y5 y6,LeO (pack_Value.l1 k y0 y1 y2 y3 y4 y5 y6) (pack_Value.l1 (k + 1) y0 y1 y2 y3 y4 y5 y6))
  | 0 => ⟨fun _ _ _ _ _ _ r h => by simp [pack_Value.l0] at h,fun _ _ _ _ _ _ _ r h => by simp [pack_Value.l1] at h⟩
  | k + 1 => by
    obtain ⟨ih0,ih1⟩ := pack_Value.mono_l k
    refine ⟨?_,?_⟩
    · intro y0 y1 y2 y3 y4 y5
      unfold pack_Value.l0
      repeat' first
      | (with_reducible exact ih0 _ _ _ _ _ _)
      | (with_reducible exact ih1 _ _ _ _ _ _ _)
      | (with_reducible exact LeO.refl _)
      | (with_reducible exact LeO.none _)
      | (with_reducible refine LeO.ite ?_ ?_)
      | (with_reducible refine LeO.bind ?_ (fun _ => ?_))
      | exact ih0 _ _ _ _ _ _
      | exact ih1 _ _ _ _ _ _ _
      | exact LeO.none _
      | refine LeO.ite ?_ ?_
      | refine LeO.bind ?_ (fun _ => ?_)
    · intro y0 y1 y2 y3 y4 y5 y6
      unfold pack_Value.l1
      repeat' first
      | (with_reducible exact ih0 _ _ _ _ _ _)
      | (with_reducible exact ih1 _ _ _ _ _ _ _)
      | (with_reducible exact LeO.refl _)
      | (with_reducible exact LeO.none _)
      | (with_reducible refine LeO.ite ?_ ?_)
      | (with_reducible refine LeO.bind ?_ (fun _ => ?_))
      | exact ih0 _ _ _ _ _ _
      | exact ih1 _ _ _ _ _ _ _
      | exact LeO.none _
      | refine LeO.ite ?_ ?_
      | refine LeO.bind ?_ (fun _ => ?_)
theorem pack_Value.mono : ∀ a0 a1 a2 a3 k,LeO (pack_Value.f k a0 a1 a2 a3) (pack_Value.f (k + 1) a0 a1 a2 a3) := by
  intro a0 a1 a2 a3 k
  obtain ⟨ih0,ih1⟩ := pack_Value.mono_l k
  unfold pack_Value.f
  repeat' first
      | (with_reducible exact ih0 _ _ _ _ _ _)
      | (with_reducible exact ih1 _ _ _ _ _ _ _)
      | (with_reducible exact LeO.refl _)
      | (with_reducible exact LeO.none _)
      | (with_reducible refine LeO.ite ?_ ?_)
      | (with_reducible refine LeO.bind ?_ (fun _ => ?_))
      | exact ih0 _ _ _ _ _ _
      | exact ih1 _ _ _ _ _ _ _
      | exact LeO.none _
      | refine LeO.ite ?_ ?_
      | refine LeO.bind ?_ (fun _ => ?_)
set_option maxHeartbeats 8000000 in
set_option maxRecDepth 100000 in
theorem pack_Value.calls (k : Nat) (a0_0 : Int) (a0_1 : Bool) (a0_2 : Int) (a0_3 : ByteArray) (r : List Int) (w : World) (h : pack_Value.f k a0_0 a0_1 a0_2 a0_3 = some r) :
    Calls Try.prog 100 #[.agg #[.int .i64 a0_0,.bool a0_1,.int .i64 a0_2,.string a0_3]] w fun e w' => ∃ v0_ : Value,e = .returned (v0_) ∧ Kd.R (Kd.int .u8) 5 w' w.heap.size (fun _ => True) v0_ r ∧ Below w.heap.size w w' := by
  have hu66 := Try.underlying66
  have HB := Aside0.mk (Below.refl w.heap.size w)
  have H : ((value_Right.f a0_0 a0_1 a0_2 a0_3).bind fun t242 => (if t242 = true then (if a0_0 = 1 then (if a0_1 = true then (some (([2,1] : List Int))) else (some (([2,0] : List Int)))) else (if a0_0 = 2 then (pack_Value.l0 k (([3] : List Int)) 7 a0_0 a0_1 a0_2 a0_3) else (if a0_0 = 3 then (pack_Value.l1 k (([4] : List Int)) (a0_3.size : Int) 0 a0_0 a0_1 a0_2 a0_3) else (some (([1] : List Int)))))) else (some ([] : List Int)))) = some r := h
  clear h
  replace H := Option.bind_eq_some_iff.mp H
  obtain ⟨t242,A20,H⟩ := H
  replace H : (if t242 = true then (if a0_0 = 1 then (if a0_1 = true then (some (([2,1] : List Int))) else (some (([2,0] : List Int)))) else (if a0_0 = 2 then (pack_Value.l0 k (([3] : List Int)) 7 a0_0 a0_1 a0_2 a0_3) else (if a0_0 = 3 then (pack_Value.l1 k (([4] : List Int)) (a0_3.size : Int) 0 a0_0 a0_1 a0_2 a0_3) else (some (([1] : List Int)))))) else (some ([] : List Int))) = some r := H
  have A2 := Aside0.mk A20
  clear A20
  by_cases c3 : t242 = true
  · subst c3
    have H1 : (if a0_0 = 1 then (if a0_1 = true then (some (([2,1] : List Int))) else (some (([2,0] : List Int)))) else (if a0_0 = 2 then (pack_Value.l0 k (([3] : List Int)) 7 a0_0 a0_1 a0_2 a0_3) else (if a0_0 = 3 then (pack_Value.l1 k (([4] : List Int)) (a0_3.size : Int) 0 a0_0 a0_1 a0_2 a0_3) else (some (([1] : List Int)))))) = some r := by rw [if_pos rfl] at H;exact H
    clear H
    have H := H1
    clear H1
    by_cases c4 : a0_0 = 1
    · rw [if_pos c4] at H
      have c4b0 : (a0_0 == 1) = true := beq_iff_eq.mpr c4
      have c4b1 : (a0_0 != 1) = false := bne_eq_false_iff_eq.mpr c4
      clear c4
      by_cases c5 : a0_1 = true
      · subst c5
        have H1 : (some (([2,1] : List Int))) = some r := by rw [if_pos rfl] at H;exact H
        clear H
        have H := H1
        clear H1
        obtain ⟨y243,hy243⟩ : ∃ y_ : List Int,y_ = (([2,1] : List Int)) := ⟨_,rfl⟩
        replace H : (some y243) = some r := by first | (rw [hy243];with_reducible exact H) | (have H2_ := (Option.bind_some _ _).symm.trans H;rw [hy243];with_reducible exact H2_) | (have H2_ := (Option.bind_some _ _).symm.trans H;with_reducible exact H2_) | with_reducible exact H | (rw [hy243];exact H) | exact H
        have Ny243 := Aside0.mk hy243
        clear hy243
        obtain rfl := Option.some.inj H
        go_enter Try.func100,Try.ntmps100
        go_wp2_with (first | ((with_reducible refine gate_dst (N := 1) rfl ?_);refine box_event ?hg (N := 1) ?hd (cs := #[.int .i64 a0_0,.bool true,.int .i64 a0_2,.string a0_3]) (t := 66) ?hr ?_;(case hd => rfl);(case hg => rfl);(case hr => first | (go_simp;done) | (go_simp;rfl));intro gb241 hg w6 hbox hb;have n0_ := Aside0.mk (below_step (by repeat (first | (with_reducible first | exact HB.out | apply below_alloc | apply pw_below_drewN | apply below_drew1) | exact HB.out)) hb);have n1_ := Aside0.mk (hbox);have n2_ := Aside0.mk ((by rw [hg];exact (below_size (by repeat (first | (with_reducible first | exact HB.out | apply below_alloc | apply pw_below_drewN | apply below_drew1) | exact HB.out))) : w.heap.size ≤ gb241));have n3_ := Aside0.mk ((by rw [hg];exact (below_size (by repeat (first | (with_reducible first | exact HB.out | apply below_alloc | apply pw_below_drewN | apply below_drew1) | exact HB.out))) : w.heap.size ≤ gb241));clear HB;have HB := n0_;have BK241 := n1_;have GW241 := n2_;have GE241 := n3_;clear n0_ n1_ n2_ n3_;clear hb hbox hg;have hcz7_0 : w6.cell? ⟨gb241,0,none⟩ = some (.int .i64 a0_0) := (blk_cell BK241.out 0).trans rfl;have hcz7_1 : w6.cell? ⟨gb241,1,none⟩ = some (.bool true) := (blk_cell BK241.out 1).trans rfl;have hcz7_2 : w6.cell? ⟨gb241,2,none⟩ = some (.int .i64 a0_2) := (blk_cell BK241.out 2).trans rfl;have hcz7_3 : w6.cell? ⟨gb241,3,none⟩ = some (.string a0_3) := (blk_cell BK241.out 3).trans rfl;have hfz7_0 := blk_frozen BK241.out 0;have hfz7_1 := blk_frozen BK241.out 1;have hfz7_2 := blk_frozen BK241.out 2;have hfz7_3 := blk_frozen BK241.out 3) | ((with_reducible refine gate_callee (f := 92) rfl ?_);refine goesL_ (some 8) rfl rfl Try.func92 (by kernel_rfl) rfl #[.agg #[.int .i64 a0_0,.bool true,.int .i64 a0_2,.string a0_3]] rfl (by (try simp only [List.map_toArray,List.map_cons,List.map_nil]);first | done | rfl | (simp only [List.length_drop,List.length_take];rfl)) ?_;(with_reducible refine (value_Right.calls a0_0 true a0_2 a0_3 true _ A2.out).mono ?_);rintro e w8 ⟨rfl,hb⟩;refine ⟨_,rfl,?_⟩;have n0_ := Aside0.mk (blk_below (g := gb241) (o := .cells #[.int .i64 a0_0,.bool true,.int .i64 a0_2,.string a0_3] 66 (0,0)) (by (with_reducible repeat (first | refine blk_drewN ?_ _ | refine blk_drew ?_ | refine blk_alloc ?_ _));exact BK241.out) hb);have n1_ := Aside0.mk (below_step (by repeat (first | (with_reducible first | exact HB.out | apply below_alloc | apply pw_below_drewN | apply below_drew1 | refine below_set ?_ GE241.out) | exact HB.out)) hb);clear BK241;clear HB;have BK241 := n0_;have HB := n1_;clear n0_ n1_;(try clear hb);(try clear hb2);(try clear hk);(try clear hi);have hcz9_0 : w8.cell? ⟨gb241,0,none⟩ = some (.int .i64 a0_0) := (blk_cell BK241.out 0).trans rfl;have hcz9_1 : w8.cell? ⟨gb241,1,none⟩ = some (.bool true) := (blk_cell BK241.out 1).trans rfl;have hcz9_2 : w8.cell? ⟨gb241,2,none⟩ = some (.int .i64 a0_2) := (blk_cell BK241.out 2).trans rfl;have hcz9_3 : w8.cell? ⟨gb241,3,none⟩ = some (.string a0_3) := (blk_cell BK241.out 3).trans rfl;have hfz9_0 := blk_frozen BK241.out 0;have hfz9_1 := blk_frozen BK241.out 1;have hfz9_2 := blk_frozen BK241.out 2;have hfz9_3 := blk_frozen BK241.out 3) | ((with_reducible refine gate_dst (N := 16) rfl ?_);refine Kd.R_lit (Kd.int .u8) _ 5 ?hg (N := 16) ?hd (xs := ([2,1] : List Int)) (inner := [.int .u8 2,.int .u8 1]) (ok := fun _ => True) (okp := fun _ => True) ?hr ?hp (fun _ hk => hk) trivial (Below.refl _ _) (Nat.le_refl _) (by simp) ?_;(case hd => rfl);(case hg => rfl);(case hr => first | (go_simp;done) | (go_simp;rfl));(case hp => exact (Reps.one (show Kd.M (Kd.int .u8) _ _ _ 2 [.int .u8 2] from rfl) (Reps.one (show Kd.M (Kd.int .u8) _ _ _ 1 [.int .u8 1] from rfl) (Reps.none _ _))));intro v244 w10 ho11 hb hg_ hnew_;clear hg_ hnew_;(first | rw [← Ny243.out] at ho11 | (simp only [Int.reduceToNat] at ho11;rw [← Ny243.out] at ho11));have n0_ := Aside0.mk (Kd.R_lower ho11 (below_size (by repeat (first | (with_reducible first | exact HB.out | apply below_alloc | apply pw_below_drewN | apply below_drew1 | refine below_set ?_ GE241.out) | exact HB.out))));have n1_ := Aside0.mk (blk_below (g := gb241) (o := .cells #[.int .i64 a0_0,.bool true,.int .i64 a0_2,.string a0_3] 66 (0,0)) (by (with_reducible repeat (first | refine blk_drewN ?_ _ | refine blk_drew ?_ | refine blk_alloc ?_ _));exact BK241.out) hb);have n2_ := Aside0.mk (below_step (by repeat (first | (with_reducible first | exact HB.out | apply below_alloc | apply pw_below_drewN | apply below_drew1 | refine below_set ?_ GE241.out) | exact HB.out)) hb);clear BK241;clear HB;have HO245 := n0_;have BK241 := n1_;have HB := n2_;clear n0_ n1_ n2_;clear hb ho11))
        go_ret
        exact ⟨_,by first | rfl | (simp [errW_none,errW_some] <;> rfl) | (simp [*,errW_none,errW_some] <;> rfl),by (with_reducible repeat (first | apply Kd.R_alloc | apply Kd.R_drewN | apply Kd.R_drew));exact HO245.out,by repeat (first | (with_reducible first | exact HB.out | apply below_alloc | apply pw_below_drewN | apply below_drew1 | refine below_set ?_ GE241.out) | exact HB.out)⟩
      · replace c5 := Bool.eq_false_iff.mpr c5
        subst c5
        have H1 : (some (([2,0] : List Int))) = some r := by rw [if_neg (show ¬ (false = true) by decide)] at H;exact H
        clear H
        have H := H1
        clear H1
        obtain ⟨y246,hy246⟩ : ∃ y_ : List Int,y_ = (([2,0] : List Int)) := ⟨_,rfl⟩
        replace H : (some y246) = some r := by first | (rw [hy246];with_reducible exact H) | (have H2_ := (Option.bind_some _ _).symm.trans H;rw [hy246];with_reducible exact H2_) | (have H2_ := (Option.bind_some _ _).symm.trans H;with_reducible exact H2_) | with_reducible exact H | (rw [hy246];exact H) | exact H
        have Ny246 := Aside0.mk hy246
        clear hy246
        obtain rfl := Option.some.inj H
        go_enter Try.func100,Try.ntmps100
        go_wp2_with (first | ((with_reducible refine gate_dst (N := 1) rfl ?_);refine box_event ?hg (N := 1) ?hd (cs := #[.int .i64 a0_0,.bool false,.int .i64 a0_2,.string a0_3]) (t := 66) ?hr ?_;(case hd => rfl);(case hg => rfl);(case hr => first | (go_simp;done) | (go_simp;rfl));intro gb241 hg w12 hbox hb;have n0_ := Aside0.mk (below_step (by repeat (first | (with_reducible first | exact HB.out | apply below_alloc | apply pw_below_drewN | apply below_drew1) | exact HB.out)) hb);have n1_ := Aside0.mk (hbox);have n2_ := Aside0.mk ((by rw [hg];exact (below_size (by repeat (first | (with_reducible first | exact HB.out | apply below_alloc | apply pw_below_drewN | apply below_drew1) | exact HB.out))) : w.heap.size ≤ gb241));have n3_ := Aside0.mk ((by rw [hg];exact (below_size (by repeat (first | (with_reducible first | exact HB.out | apply below_alloc | apply pw_below_drewN | apply below_drew1) | exact HB.out))) : w.heap.size ≤ gb241));clear HB;have HB := n0_;have BK241 := n1_;have GW241 := n2_;have GE241 := n3_;clear n0_ n1_ n2_ n3_;clear hb hbox hg;have hcz13_0 : w12.cell? ⟨gb241,0,none⟩ = some (.int .i64 a0_0) := (blk_cell BK241.out 0).trans rfl;have hcz13_1 : w12.cell? ⟨gb241,1,none⟩ = some (.bool false) := (blk_cell BK241.out 1).trans rfl;have hcz13_2 : w12.cell? ⟨gb241,2,none⟩ = some (.int .i64 a0_2) := (blk_cell BK241.out 2).trans rfl;have hcz13_3 : w12.cell? ⟨gb241,3,none⟩ = some (.string a0_3) := (blk_cell BK241.out 3).trans rfl;have hfz13_0 := blk_frozen BK241.out 0;have hfz13_1 := blk_frozen BK241.out 1;have hfz13_2 := blk_frozen BK241.out 2;have hfz13_3 := blk_frozen BK241.out 3) | ((with_reducible refine gate_callee (f := 92) rfl ?_);refine goesL_ (some 8) rfl rfl Try.func92 (by kernel_rfl) rfl #[.agg #[.int .i64 a0_0,.bool false,.int .i64 a0_2,.string a0_3]] rfl (by (try simp only [List.map_toArray,List.map_cons,List.map_nil]);first | done | rfl | (simp only [List.length_drop,List.length_take];rfl)) ?_;(with_reducible refine (value_Right.calls a0_0 false a0_2 a0_3 true _ A2.out).mono ?_);rintro e w14 ⟨rfl,hb⟩;refine ⟨_,rfl,?_⟩;have n0_ := Aside0.mk (blk_below (g := gb241) (o := .cells #[.int .i64 a0_0,.bool false,.int .i64 a0_2,.string a0_3] 66 (0,0)) (by (with_reducible repeat (first | refine blk_drewN ?_ _ | refine blk_drew ?_ | refine blk_alloc ?_ _));exact BK241.out) hb);have n1_ := Aside0.mk (below_step (by repeat (first | (with_reducible first | exact HB.out | apply below_alloc | apply pw_below_drewN | apply below_drew1 | refine below_set ?_ GE241.out) | exact HB.out)) hb);clear BK241;clear HB;have BK241 := n0_;have HB := n1_;clear n0_ n1_;(try clear hb);(try clear hb2);(try clear hk);(try clear hi);have hcz15_0 : w14.cell? ⟨gb241,0,none⟩ = some (.int .i64 a0_0) := (blk_cell BK241.out 0).trans rfl;have hcz15_1 : w14.cell? ⟨gb241,1,none⟩ = some (.bool false) := (blk_cell BK241.out 1).trans rfl;have hcz15_2 : w14.cell? ⟨gb241,2,none⟩ = some (.int .i64 a0_2) := (blk_cell BK241.out 2).trans rfl;have hcz15_3 : w14.cell? ⟨gb241,3,none⟩ = some (.string a0_3) := (blk_cell BK241.out 3).trans rfl;have hfz15_0 := blk_frozen BK241.out 0;have hfz15_1 := blk_frozen BK241.out 1;have hfz15_2 := blk_frozen BK241.out 2;have hfz15_3 := blk_frozen BK241.out 3) | ((with_reducible refine gate_dst (N := 17) rfl ?_);refine Kd.R_lit (Kd.int .u8) _ 5 ?hg (N := 17) ?hd (xs := ([2,0] : List Int)) (inner := [.int .u8 2,.int .u8 0]) (ok := fun _ => True) (okp := fun _ => True) ?hr ?hp (fun _ hk => hk) trivial (Below.refl _ _) (Nat.le_refl _) (by simp) ?_;(case hd => rfl);(case hg => rfl);(case hr => first | (go_simp;done) | (go_simp;rfl));(case hp => exact (Reps.one (show Kd.M (Kd.int .u8) _ _ _ 2 [.int .u8 2] from rfl) (Reps.one (show Kd.M (Kd.int .u8) _ _ _ 0 [.int .u8 0] from rfl) (Reps.none _ _))));intro v247 w16 ho17 hb hg_ hnew_;clear hg_ hnew_;(first | rw [← Ny246.out] at ho17 | (simp only [Int.reduceToNat] at ho17;rw [← Ny246.out] at ho17));have n0_ := Aside0.mk (Kd.R_lower ho17 (below_size (by repeat (first | (with_reducible first | exact HB.out | apply below_alloc | apply pw_below_drewN | apply below_drew1 | refine below_set ?_ GE241.out) | exact HB.out))));have n1_ := Aside0.mk (blk_below (g := gb241) (o := .cells #[.int .i64 a0_0,.bool false,.int .i64 a0_2,.string a0_3] 66 (0,0)) (by (with_reducible repeat (first | refine blk_drewN ?_ _ | refine blk_drew ?_ | refine blk_alloc ?_ _));exact BK241.out) hb);have n2_ := Aside0.mk (below_step (by repeat (first | (with_reducible first | exact HB.out | apply below_alloc | apply pw_below_drewN | apply below_drew1 | refine below_set ?_ GE241.out) | exact HB.out)) hb);clear BK241;clear HB;have HO248 := n0_;have BK241 := n1_;have HB := n2_;clear n0_ n1_ n2_;clear hb ho17))
        go_ret
        exact ⟨_,by first | rfl | (simp [errW_none,errW_some] <;> rfl) | (simp [*,errW_none,errW_some] <;> rfl),by (with_reducible repeat (first | apply Kd.R_alloc | apply Kd.R_drewN | apply Kd.R_drew));exact HO248.out,by repeat (first | (with_reducible first | exact HB.out | apply below_alloc | apply pw_below_drewN | apply below_drew1 | refine below_set ?_ GE241.out) | exact HB.out)⟩
    · rw [if_neg c4] at H
      have c4b0 : (a0_0 == 1) = false := beq_eq_false_iff_ne.mpr c4
      have c4b1 : (a0_0 != 1) = true := bne_iff_ne.mpr c4
      by_cases c18 : a0_0 = 2
      · rw [if_pos c18] at H
        have c18b0 : (a0_0 == 2) = true := beq_iff_eq.mpr c18
        have c18b1 : (a0_0 != 2) = false := bne_eq_false_iff_eq.mpr c18
        clear c18
        obtain ⟨y249,hy249⟩ : ∃ y_ : List Int,y_ = (([3] : List Int)) := ⟨_,rfl⟩
        replace H : (pack_Value.l0 k y249 7 a0_0 a0_1 a0_2 a0_3) = some r := by first | (rw [hy249];with_reducible exact H) | (have H2_ := (Option.bind_some _ _).symm.trans H;rw [hy249];with_reducible exact H2_) | (have H2_ := (Option.bind_some _ _).symm.trans H;with_reducible exact H2_) | with_reducible exact H | (rw [hy249];exact H) | exact H
        have Ny249 := Aside0.mk hy249
        clear hy249
        have H' := Aside0.mk H
        clear H
        go_enter Try.func100,Try.ntmps100
        go_wp2_with (first | ((with_reducible refine gate_dst (N := 1) rfl ?_);refine box_event ?hg (N := 1) ?hd (cs := #[.int .i64 a0_0,.bool a0_1,.int .i64 a0_2,.string a0_3]) (t := 66) ?hr ?_;(case hd => rfl);(case hg => rfl);(case hr => first | (go_simp;done) | (go_simp;rfl));intro gb241 hg w19 hbox hb;have n0_ := Aside0.mk (below_step (by repeat (first | (with_reducible first | exact HB.out | apply below_alloc | apply pw_below_drewN | apply below_drew1) | exact HB.out)) hb);have n1_ := Aside0.mk (hbox);have n2_ := Aside0.mk ((by rw [hg];exact (below_size (by repeat (first | (with_reducible first | exact HB.out | apply below_alloc | apply pw_below_drewN | apply below_drew1) | exact HB.out))) : w.heap.size ≤ gb241));have n3_ := Aside0.mk ((by rw [hg];exact (below_size (by repeat (first | (with_reducible first | exact HB.out | apply below_alloc | apply pw_below_drewN | apply below_drew1) | exact HB.out))) : w.heap.size ≤ gb241));clear HB;have HB := n0_;have BK241 := n1_;have GW241 := n2_;have GE241 := n3_;clear n0_ n1_ n2_ n3_;clear hb hbox hg;have hcz20_0 : w19.cell? ⟨gb241,0,none⟩ = some (.int .i64 a0_0) := (blk_cell BK241.out 0).trans rfl;have hcz20_1 : w19.cell? ⟨gb241,1,none⟩ = some (.bool a0_1) := (blk_cell BK241.out 1).trans rfl;have hcz20_2 : w19.cell? ⟨gb241,2,none⟩ = some (.int .i64 a0_2) := (blk_cell BK241.out 2).trans rfl;have hcz20_3 : w19.cell? ⟨gb241,3,none⟩ = some (.string a0_3) := (blk_cell BK241.out 3).trans rfl;have hfz20_0 := blk_frozen BK241.out 0;have hfz20_1 := blk_frozen BK241.out 1;have hfz20_2 := blk_frozen BK241.out 2;have hfz20_3 := blk_frozen BK241.out 3) | ((with_reducible refine gate_callee (f := 92) rfl ?_);refine goesL_ (some 8) rfl rfl Try.func92 (by kernel_rfl) rfl #[.agg #[.int .i64 a0_0,.bool a0_1,.int .i64 a0_2,.string a0_3]] rfl (by (try simp only [List.map_toArray,List.map_cons,List.map_nil]);first | done | rfl | (simp only [List.length_drop,List.length_take];rfl)) ?_;(with_reducible refine (value_Right.calls a0_0 a0_1 a0_2 a0_3 true _ A2.out).mono ?_);rintro e w21 ⟨rfl,hb⟩;refine ⟨_,rfl,?_⟩;have n0_ := Aside0.mk (blk_below (g := gb241) (o := .cells #[.int .i64 a0_0,.bool a0_1,.int .i64 a0_2,.string a0_3] 66 (0,0)) (by (with_reducible repeat (first | refine blk_drewN ?_ _ | refine blk_drew ?_ | refine blk_alloc ?_ _));exact BK241.out) hb);have n1_ := Aside0.mk (below_step (by repeat (first | (with_reducible first | exact HB.out | apply below_alloc | apply pw_below_drewN | apply below_drew1 | refine below_set ?_ GE241.out) | exact HB.out)) hb);clear BK241;clear HB;have BK241 := n0_;have HB := n1_;clear n0_ n1_;(try clear hb);(try clear hb2);(try clear hk);(try clear hi);have hcz22_0 : w21.cell? ⟨gb241,0,none⟩ = some (.int .i64 a0_0) := (blk_cell BK241.out 0).trans rfl;have hcz22_1 : w21.cell? ⟨gb241,1,none⟩ = some (.bool a0_1) := (blk_cell BK241.out 1).trans rfl;have hcz22_2 : w21.cell? ⟨gb241,2,none⟩ = some (.int .i64 a0_2) := (blk_cell BK241.out 2).trans rfl;have hcz22_3 : w21.cell? ⟨gb241,3,none⟩ = some (.string a0_3) := (blk_cell BK241.out 3).trans rfl;have hfz22_0 := blk_frozen BK241.out 0;have hfz22_1 := blk_frozen BK241.out 1;have hfz22_2 := blk_frozen BK241.out 2;have hfz22_3 := blk_frozen BK241.out 3) | ((with_reducible refine gate_dst (N := 20) rfl ?_);refine Kd.R_lit (Kd.int .u8) _ 5 ?hg (N := 20) ?hd (xs := ([3] : List Int)) (inner := [.int .u8 3]) (ok := fun _ => True) (okp := fun _ => True) ?hr ?hp (fun _ hk => hk) trivial (Below.refl _ _) (Nat.le_refl _) (by simp) ?_;(case hd => rfl);(case hg => rfl);(case hr => first | (go_simp;done) | (go_simp;rfl));(case hp => exact (Reps.one (show Kd.M (Kd.int .u8) _ _ _ 3 [.int .u8 3] from rfl) (Reps.none _ _)));intro v250 w23 ho24 hb hg_ hnew_;clear hg_ hnew_;(first | rw [← Ny249.out] at ho24 | (simp only [Int.reduceToNat] at ho24;rw [← Ny249.out] at ho24));have n0_ := Aside0.mk (Kd.R_lower ho24 (below_size (by repeat (first | (with_reducible first | exact HB.out | apply below_alloc | apply pw_below_drewN | apply below_drew1 | refine below_set ?_ GE241.out) | exact HB.out))));have n1_ := Aside0.mk (blk_below (g := gb241) (o := .cells #[.int .i64 a0_0,.bool a0_1,.int .i64 a0_2,.string a0_3] 66 (0,0)) (by (with_reducible repeat (first | refine blk_drewN ?_ _ | refine blk_drew ?_ | refine blk_alloc ?_ _));exact BK241.out) hb);have n2_ := Aside0.mk (below_step (by repeat (first | (with_reducible first | exact HB.out | apply below_alloc | apply pw_below_drewN | apply below_drew1 | refine below_set ?_ GE241.out) | exact HB.out)) hb);clear BK241;clear HB;have HO251 := n0_;have BK241 := n1_;have HB := n2_;clear n0_ n1_ n2_;clear hb ho24))
        go_loopg [3,4] k (fun kq v3 v4 w' => ∃ (x3_1 : List Int) (x4_1 : Int),v4 = .int .i64 x4_1 ∧ Aside0 (pack_Value.l0 kq x3_1 x4_1 a0_0 a0_1 a0_2 a0_3 = some r) ∧ Aside0 (kq ≤ k) ∧ Aside0 (Kd.R (Kd.int .u8) 5 w' w.heap.size (fun _ => True) v3 x3_1) ∧ Aside0 (w'.heap[gb241]? = some (.cells #[.int .i64 a0_0,.bool a0_1,.int .i64 a0_2,.string a0_3] 66 (0,0))) ∧ Aside0 (Below w.heap.size w w'))
        case atStart => exact ⟨(y249),(7),(by first | rfl | (simp;done) | (simp [*];done)),H',⟨Nat.le_refl _⟩,⟨by (with_reducible repeat (first | apply Kd.R_alloc | apply Kd.R_drewN | apply Kd.R_drew));exact HO251.out⟩,⟨by (with_reducible repeat (first | refine blk_drewN ?_ _ | refine blk_drew ?_ | refine blk_alloc ?_ _));exact BK241.out⟩,⟨by repeat (first | (with_reducible first | exact HB.out | apply below_alloc | apply pw_below_drewN | apply below_drew1 | refine below_set ?_ GE241.out) | exact HB.out)⟩⟩
        case round =>
          clear H'
          try clear c1
          try clear p2
          try clear c3
          try clear c4
          try clear c4b0
          try clear c4b1
          try clear c5
          try clear c9
          try clear c10
          try clear c18
          try clear c18b0
          try clear c18b1
          try clear hcz13_0
          try clear hcz13_1
          try clear hcz13_2
          try clear hcz13_3
          try clear hcz15_0
          try clear hcz15_1
          try clear hcz15_2
          try clear hcz15_3
          try clear hcz20_0
          try clear hcz20_1
          try clear hcz20_2
          try clear hcz20_3
          try clear hcz22_0
          try clear hcz22_1
          try clear hcz22_2
          try clear hcz22_3
          try clear hcz7_0
          try clear hcz7_1
          try clear hcz7_2
          try clear hcz7_3
          try clear hcz9_0
          try clear hcz9_1
          try clear hcz9_2
          try clear hcz9_3
          try clear hfz13_0
          try clear hfz13_1
          try clear hfz13_2
          try clear hfz13_3
          try clear hfz15_0
          try clear hfz15_1
          try clear hfz15_2
          try clear hfz15_3
          try clear hfz20_0
          try clear hfz20_1
          try clear hfz20_2
          try clear hfz20_3
          try clear hfz22_0
          try clear hfz22_1
          try clear hfz22_2
          try clear hfz22_3
          try clear hfz7_0
          try clear hfz7_1
          try clear hfz7_2
          try clear hfz7_3
          try clear hfz9_0
          try clear hfz9_1
          try clear hfz9_2
          try clear hfz9_3
          obtain ⟨x3_1,x4_1,rfl,HA,HK1,HO_3,BK241,HB⟩ := hrel
          cases gk with
          | zero => exact absurd HA.out (by simp [pack_Value.l0])
          | succ k1 =>
            have H := HA.out
            clear HA
            simp only [pack_Value.l0] at H
            by_cases c25 : x4_1 ≥ 0
            · rw [if_pos c25] at H
              have c25b0 : decide (0 ≤ x4_1) = true := decide_eq_true c25
              clear c25
              obtain ⟨ji26,hji26⟩ : ∃ j_ : Int,(wrap64 (8 * x4_1)) = j_ := ⟨_,rfl⟩
              replace H : (if 0 ≤ (ji26) then (if x3_1.length < 140737488355328 then (pack_Value.l0 k1 (x3_1 ++ [(shr .u64 (Go.bits .xor .u64 (IntKind.u64.wrap (a0_2)) 9223372036854775808) (ji26)) % 256]) (wrap64 (x4_1 - 1)) a0_0 a0_1 a0_2 a0_3) else (none)) else (none)) = some r := by first | (rw [hji26] at H;exact H) | (simp only [hji26] at H ⊢;exact H)
              have hji26w : (IntKind.i64.wrap (8 * x4_1)) = ji26 := (i64_w _).trans hji26
              by_cases c27 : 0 ≤ (ji26)
              · rw [if_pos c27] at H
                have c27b0 := eq_true c27
                have c27b1 : decide (0 ≤ (ji26)) = true := decide_eq_true c27
                clear c27
                obtain ⟨ji28,hji28⟩ : ∃ j_ : Int,(shr .u64 (Go.bits .xor .u64 (IntKind.u64.wrap (a0_2)) 9223372036854775808) (ji26)) = j_ := ⟨_,rfl⟩
                replace H : (if x3_1.length < 140737488355328 then (pack_Value.l0 k1 (x3_1 ++ [(ji28) % 256]) (wrap64 (x4_1 - 1)) a0_0 a0_1 a0_2 a0_3) else (none)) = some r := by first | (rw [hji28] at H;exact H) | (simp only [hji28] at H ⊢;exact H)
                have hji28_ : ((Go.bits .xor .u64 (IntKind.u64.wrap (a0_2)) 9223372036854775808) / 2 ^ min (ji26).toNat 64) = ji28 := hji28
                have hji28z : (ji26) ≤ 64 → ((Go.bits .xor .u64 (IntKind.u64.wrap (a0_2)) 9223372036854775808) / 2 ^ (ji26).toNat) = ji28 := shr_small hji28
                by_cases c29 : x3_1.length < 140737488355328
                · rw [if_pos c29] at H
                  have LMc29 := Aside0.mk c29
                  clear c29
                  obtain ⟨y252,hy252⟩ : ∃ y_ : List Int,y_ = (x3_1 ++ [(ji28) % 256]) := ⟨_,rfl⟩
                  replace H : (pack_Value.l0 k1 y252 (wrap64 (x4_1 - 1)) a0_0 a0_1 a0_2 a0_3) = some r := by first | (rw [hy252];with_reducible exact H) | (have H2_ := (Option.bind_some _ _).symm.trans H;rw [hy252];with_reducible exact H2_) | (have H2_ := (Option.bind_some _ _).symm.trans H;with_reducible exact H2_) | with_reducible exact H | (rw [hy252];exact H) | exact H
                  have Ny252 := Aside0.mk hy252
                  clear hy252
                  have H' := Aside0.mk H
                  clear H
                  have hcz30_0 : wr.cell? ⟨gb241,0,none⟩ = some (.int .i64 a0_0) := (blk_cell BK241.out 0).trans rfl
                  have hcz30_1 : wr.cell? ⟨gb241,1,none⟩ = some (.bool a0_1) := (blk_cell BK241.out 1).trans rfl
                  have hcz30_2 : wr.cell? ⟨gb241,2,none⟩ = some (.int .i64 a0_2) := (blk_cell BK241.out 2).trans rfl
                  have hcz30_3 : wr.cell? ⟨gb241,3,none⟩ = some (.string a0_3) := (blk_cell BK241.out 3).trans rfl
                  have hfz30_0 := blk_frozen BK241.out 0
                  have hfz30_1 := blk_frozen BK241.out 1
                  have hfz30_2 := blk_frozen BK241.out 2
                  have hfz30_3 := blk_frozen BK241.out 3
                  go_wp2_with (first | ((with_reducible refine gate_builtin (b := .append) (xs := #[.tmp 25,.tmp 34]) rfl ?_);at_builtin;refine Kd.R_append (Kd.int .u8) (w0 := w) w.heap.size rfl (.tmp 25) (.tmp 34) 108 5 (.int .u8 0) 1 rfl Try.underlying108 info5 rfl (by decide) (by omega) u3 x3_1 ((ji28) % 256) [.int .u8 ((ji28) % 256)] (fun _ => True) (fun _ => False) rfl rfl ?aP (fun _ hk => hk.elim) ?aF ?aO ?aB ?aS ?aL ?_;(case aP => exact rfl);(case aB => exact (by repeat (first | (with_reducible first | exact HB.out | apply below_alloc | apply pw_below_drewN | apply below_drew1 | refine below_set ?_ GE241.out) | exact HB.out)));(case aF => exact (fun _ _ => trivial));(case aO => exact (by (with_reducible repeat (first | apply Kd.R_alloc | apply Kd.R_drewN | apply Kd.R_drew));exact HO_3.out));(case aS => exact (below_size (by repeat (first | (with_reducible first | exact HB.out | apply below_alloc | apply pw_below_drewN | apply below_drew1 | refine below_set ?_ GE241.out) | exact HB.out))));(case aL => have := LMc29.out;omega);intro v253 w31 ho hb hg hat;rw [← Ny252.out] at ho;have n0_ := Aside0.mk (blk_grown (g := gb241) (o := .cells #[.int .i64 a0_0,.bool a0_1,.int .i64 a0_2,.string a0_3] 66 (0,0)) (by (with_reducible repeat (first | refine blk_drewN ?_ _ | refine blk_drew ?_ | refine blk_alloc ?_ _));exact BK241.out) hg (Kd.R_ne HO_3.out BK241.out (by decide)));have n1_ := Aside0.mk (hb);have n2_ := Aside0.mk (ho);clear BK241;clear HB;clear HO_3;have BK241 := n0_;have HB := n1_;have HO254 := n2_;clear n0_ n1_ n2_;clear ho hb hg hat))
                  go_roundg k1
                  case measure => have := HK1.out;omega
                  case rel => exact ⟨(y252),(wrap64 (x4_1 - 1)),(by first | rfl | (simp;done) | (simp [*];done)),H',⟨by have := HK1.out;omega⟩,⟨by (with_reducible repeat (first | apply Kd.R_alloc | apply Kd.R_drewN | apply Kd.R_drew));exact HO254.out⟩,⟨by (with_reducible repeat (first | refine blk_drewN ?_ _ | refine blk_drew ?_ | refine blk_alloc ?_ _));exact BK241.out⟩,⟨by repeat (first | (with_reducible first | exact HB.out | apply below_alloc | apply pw_below_drewN | apply below_drew1 | refine below_set ?_ GE241.out) | exact HB.out)⟩⟩
                · rw [if_neg c29] at H
                  exact absurd H (by simp)
              · rw [if_neg c27] at H
                exact absurd H (by simp)
            · rw [if_neg c25] at H
              have c25b0 : decide (0 ≤ x4_1) = false := decide_eq_false c25
              clear c25
              obtain rfl := Option.some.inj H
              go_wp2
              go_ret
              exact ⟨_,by first | rfl | (simp [errW_none,errW_some] <;> rfl) | (simp [*,errW_none,errW_some] <;> rfl),by (with_reducible repeat (first | apply Kd.R_alloc | apply Kd.R_drewN | apply Kd.R_drew));exact HO_3.out,by repeat (first | (with_reducible first | exact HB.out | apply below_alloc | apply pw_below_drewN | apply below_drew1 | refine below_set ?_ GE241.out) | exact HB.out)⟩
      · rw [if_neg c18] at H
        have c18b0 : (a0_0 == 2) = false := beq_eq_false_iff_ne.mpr c18
        have c18b1 : (a0_0 != 2) = true := bne_iff_ne.mpr c18
        by_cases c32 : a0_0 = 3
        · rw [if_pos c32] at H
          have c32b0 : (a0_0 == 3) = true := beq_iff_eq.mpr c32
          have c32b1 : (a0_0 != 3) = false := bne_eq_false_iff_eq.mpr c32
          clear c32
          obtain ⟨y255,hy255⟩ : ∃ y_ : List Int,y_ = (([4] : List Int)) := ⟨_,rfl⟩
          replace H : (pack_Value.l1 k y255 (a0_3.size : Int) 0 a0_0 a0_1 a0_2 a0_3) = some r := by first | (rw [hy255];with_reducible exact H) | (have H2_ := (Option.bind_some _ _).symm.trans H;rw [hy255];with_reducible exact H2_) | (have H2_ := (Option.bind_some _ _).symm.trans H;with_reducible exact H2_) | with_reducible exact H | (rw [hy255];exact H) | exact H
          have Ny255 := Aside0.mk hy255
          clear hy255
          have H' := Aside0.mk H
          clear H
          go_enter Try.func100,Try.ntmps100
          go_wp2_with (first | ((with_reducible refine gate_dst (N := 1) rfl ?_);refine box_event ?hg (N := 1) ?hd (cs := #[.int .i64 a0_0,.bool a0_1,.int .i64 a0_2,.string a0_3]) (t := 66) ?hr ?_;(case hd => rfl);(case hg => rfl);(case hr => first | (go_simp;done) | (go_simp;rfl));intro gb241 hg w33 hbox hb;have n0_ := Aside0.mk (below_step (by repeat (first | (with_reducible first | exact HB.out | apply below_alloc | apply pw_below_drewN | apply below_drew1) | exact HB.out)) hb);have n1_ := Aside0.mk (hbox);have n2_ := Aside0.mk ((by rw [hg];exact (below_size (by repeat (first | (with_reducible first | exact HB.out | apply below_alloc | apply pw_below_drewN | apply below_drew1) | exact HB.out))) : w.heap.size ≤ gb241));have n3_ := Aside0.mk ((by rw [hg];exact (below_size (by repeat (first | (with_reducible first | exact HB.out | apply below_alloc | apply pw_below_drewN | apply below_drew1) | exact HB.out))) : w.heap.size ≤ gb241));clear HB;have HB := n0_;have BK241 := n1_;have GW241 := n2_;have GE241 := n3_;clear n0_ n1_ n2_ n3_;clear hb hbox hg;have hcz34_0 : w33.cell? ⟨gb241,0,none⟩ = some (.int .i64 a0_0) := (blk_cell BK241.out 0).trans rfl;have hcz34_1 : w33.cell? ⟨gb241,1,none⟩ = some (.bool a0_1) := (blk_cell BK241.out 1).trans rfl;have hcz34_2 : w33.cell? ⟨gb241,2,none⟩ = some (.int .i64 a0_2) := (blk_cell BK241.out 2).trans rfl;have hcz34_3 : w33.cell? ⟨gb241,3,none⟩ = some (.string a0_3) := (blk_cell BK241.out 3).trans rfl;have hfz34_0 := blk_frozen BK241.out 0;have hfz34_1 := blk_frozen BK241.out 1;have hfz34_2 := blk_frozen BK241.out 2;have hfz34_3 := blk_frozen BK241.out 3) | ((with_reducible refine gate_callee (f := 92) rfl ?_);refine goesL_ (some 8) rfl rfl Try.func92 (by kernel_rfl) rfl #[.agg #[.int .i64 a0_0,.bool a0_1,.int .i64 a0_2,.string a0_3]] rfl (by (try simp only [List.map_toArray,List.map_cons,List.map_nil]);first | done | rfl | (simp only [List.length_drop,List.length_take];rfl)) ?_;(with_reducible refine (value_Right.calls a0_0 a0_1 a0_2 a0_3 true _ A2.out).mono ?_);rintro e w35 ⟨rfl,hb⟩;refine ⟨_,rfl,?_⟩;have n0_ := Aside0.mk (blk_below (g := gb241) (o := .cells #[.int .i64 a0_0,.bool a0_1,.int .i64 a0_2,.string a0_3] 66 (0,0)) (by (with_reducible repeat (first | refine blk_drewN ?_ _ | refine blk_drew ?_ | refine blk_alloc ?_ _));exact BK241.out) hb);have n1_ := Aside0.mk (below_step (by repeat (first | (with_reducible first | exact HB.out | apply below_alloc | apply pw_below_drewN | apply below_drew1 | refine below_set ?_ GE241.out) | exact HB.out)) hb);clear BK241;clear HB;have BK241 := n0_;have HB := n1_;clear n0_ n1_;(try clear hb);(try clear hb2);(try clear hk);(try clear hi);have hcz36_0 : w35.cell? ⟨gb241,0,none⟩ = some (.int .i64 a0_0) := (blk_cell BK241.out 0).trans rfl;have hcz36_1 : w35.cell? ⟨gb241,1,none⟩ = some (.bool a0_1) := (blk_cell BK241.out 1).trans rfl;have hcz36_2 : w35.cell? ⟨gb241,2,none⟩ = some (.int .i64 a0_2) := (blk_cell BK241.out 2).trans rfl;have hcz36_3 : w35.cell? ⟨gb241,3,none⟩ = some (.string a0_3) := (blk_cell BK241.out 3).trans rfl;have hfz36_0 := blk_frozen BK241.out 0;have hfz36_1 := blk_frozen BK241.out 1;have hfz36_2 := blk_frozen BK241.out 2;have hfz36_3 := blk_frozen BK241.out 3) | ((with_reducible refine gate_dst (N := 39) rfl ?_);refine Kd.R_lit (Kd.int .u8) _ 5 ?hg (N := 39) ?hd (xs := ([4] : List Int)) (inner := [.int .u8 4]) (ok := fun _ => True) (okp := fun _ => True) ?hr ?hp (fun _ hk => hk) trivial (Below.refl _ _) (Nat.le_refl _) (by simp) ?_;(case hd => rfl);(case hg => rfl);(case hr => first | (go_simp;done) | (go_simp;rfl));(case hp => exact (Reps.one (show Kd.M (Kd.int .u8) _ _ _ 4 [.int .u8 4] from rfl) (Reps.none _ _)));intro v256 w37 ho38 hb hg_ hnew_;clear hg_ hnew_;(first | rw [← Ny255.out] at ho38 | (simp only [Int.reduceToNat] at ho38;rw [← Ny255.out] at ho38));have n0_ := Aside0.mk (Kd.R_lower ho38 (below_size (by repeat (first | (with_reducible first | exact HB.out | apply below_alloc | apply pw_below_drewN | apply below_drew1 | refine below_set ?_ GE241.out) | exact HB.out))));have n1_ := Aside0.mk (blk_below (g := gb241) (o := .cells #[.int .i64 a0_0,.bool a0_1,.int .i64 a0_2,.string a0_3] 66 (0,0)) (by (with_reducible repeat (first | refine blk_drewN ?_ _ | refine blk_drew ?_ | refine blk_alloc ?_ _));exact BK241.out) hb);have n2_ := Aside0.mk (below_step (by repeat (first | (with_reducible first | exact HB.out | apply below_alloc | apply pw_below_drewN | apply below_drew1 | refine below_set ?_ GE241.out) | exact HB.out)) hb);clear BK241;clear HB;have HO257 := n0_;have BK241 := n1_;have HB := n2_;clear n0_ n1_ n2_;clear hb ho38;have hcz39_0 : w37.cell? ⟨gb241,0,none⟩ = some (.int .i64 a0_0) := (blk_cell BK241.out 0).trans rfl;have hcz39_1 : w37.cell? ⟨gb241,1,none⟩ = some (.bool a0_1) := (blk_cell BK241.out 1).trans rfl;have hcz39_2 : w37.cell? ⟨gb241,2,none⟩ = some (.int .i64 a0_2) := (blk_cell BK241.out 2).trans rfl;have hcz39_3 : w37.cell? ⟨gb241,3,none⟩ = some (.string a0_3) := (blk_cell BK241.out 3).trans rfl;have hfz39_0 := blk_frozen BK241.out 0;have hfz39_1 := blk_frozen BK241.out 1;have hfz39_2 := blk_frozen BK241.out 2;have hfz39_3 := blk_frozen BK241.out 3))
          go_loopg [5,43] k (fun kq v5 v43 w' => ∃ (x5_1 : List Int) (x43_1 : Int),v43 = .int .i64 x43_1 ∧ Aside0 (pack_Value.l1 kq x5_1 (a0_3.size : Int) x43_1 a0_0 a0_1 a0_2 a0_3 = some r) ∧ Aside0 (kq ≤ k) ∧ Aside0 (Kd.R (Kd.int .u8) 5 w' w.heap.size (fun _ => True) v5 x5_1) ∧ Aside0 (w'.heap[gb241]? = some (.cells #[.int .i64 a0_0,.bool a0_1,.int .i64 a0_2,.string a0_3] 66 (0,0))) ∧ Aside0 (Below w.heap.size w w'))
          case atStart => exact ⟨(y255),(0),(by first | rfl | (simp;done) | (simp [*];done)),H',⟨Nat.le_refl _⟩,⟨by (with_reducible repeat (first | apply Kd.R_alloc | apply Kd.R_drewN | apply Kd.R_drew));exact HO257.out⟩,⟨by (with_reducible repeat (first | refine blk_drewN ?_ _ | refine blk_drew ?_ | refine blk_alloc ?_ _));exact BK241.out⟩,⟨by repeat (first | (with_reducible first | exact HB.out | apply below_alloc | apply pw_below_drewN | apply below_drew1 | refine below_set ?_ GE241.out) | exact HB.out)⟩⟩
          case round =>
            clear H'
            try clear c1
            try clear c2
            try clear p2
            try clear c3
            try clear c4
            try clear c4b0
            try clear c4b1
            try clear c5
            try clear p6
            try clear c9
            try clear c10
            try clear c18
            try clear c18b0
            try clear c18b1
            try clear c25
            try clear c25b0
            try clear c27
            try clear c27b0
            try clear c27b1
            try clear c29
            try clear c32
            try clear c32b0
            try clear c32b1
            try clear hcz13_0
            try clear hcz13_1
            try clear hcz13_2
            try clear hcz13_3
            try clear hcz15_0
            try clear hcz15_1
            try clear hcz15_2
            try clear hcz15_3
            try clear hcz20_0
            try clear hcz20_1
            try clear hcz20_2
            try clear hcz20_3
            try clear hcz22_0
            try clear hcz22_1
            try clear hcz22_2
            try clear hcz22_3
            try clear hcz30_0
            try clear hcz30_1
            try clear hcz30_2
            try clear hcz30_3
            try clear hcz34_0
            try clear hcz34_1
            try clear hcz34_2
            try clear hcz34_3
            try clear hcz36_0
            try clear hcz36_1
            try clear hcz36_2
            try clear hcz36_3
            try clear hcz39_0
            try clear hcz39_1
            try clear hcz39_2
            try clear hcz39_3
            try clear hcz7_0
            try clear hcz7_1
            try clear hcz7_2
            try clear hcz7_3
            try clear hcz9_0
            try clear hcz9_1
            try clear hcz9_2
            try clear hcz9_3
            try clear hfz13_0
            try clear hfz13_1
            try clear hfz13_2
            try clear hfz13_3
            try clear hfz15_0
            try clear hfz15_1
            try clear hfz15_2
            try clear hfz15_3
            try clear hfz20_0
            try clear hfz20_1
            try clear hfz20_2
            try clear hfz20_3
            try clear hfz22_0
            try clear hfz22_1
            try clear hfz22_2
            try clear hfz22_3
            try clear hfz30_0
            try clear hfz30_1
            try clear hfz30_2
            try clear hfz30_3
            try clear hfz34_0
            try clear hfz34_1
            try clear hfz34_2
            try clear hfz34_3
            try clear hfz36_0
            try clear hfz36_1
            try clear hfz36_2
            try clear hfz36_3
            try clear hfz39_0
            try clear hfz39_1
            try clear hfz39_2
            try clear hfz39_3
            try clear hfz7_0
            try clear hfz7_1
            try clear hfz7_2
            try clear hfz7_3
            try clear hfz9_0
            try clear hfz9_1
            try clear hfz9_2
            try clear hfz9_3
            try clear p2
            obtain ⟨x5_1,x43_1,rfl,HA,HK1,HO_5,BK241,HB⟩ := hrel
            cases gk with
            | zero => exact absurd HA.out (by simp [pack_Value.l1])
            | succ k1 =>
              have H := HA.out
              clear HA
              simp only [pack_Value.l1] at H
              by_cases c40 : x43_1 < (a0_3.size : Int)
              · rw [if_pos c40] at H
                have c40b0 : decide (x43_1 < (a0_3.size : Int)) = true := decide_eq_true c40
                clear c40
                by_cases c41 : 0 ≤ x43_1
                · rw [if_pos c41] at H
                  have c41b0 : decide (0 ≤ x43_1) = true := decide_eq_true c41
                  clear c41
                  by_cases c42 : x43_1 < (a0_3.size : Int)
                  · rw [if_pos c42] at H
                    have c42b0 : decide (x43_1 < (a0_3.size : Int)) = true := decide_eq_true c42
                    clear c42
                    by_cases c44 : x5_1.length < 140737488355328
                    · rw [if_pos c44] at H
                      have LMc44 := Aside0.mk c44
                      clear c44
                      obtain ⟨y258,hy258⟩ : ∃ y_ : List Int,y_ = (x5_1 ++ [bt a0_3 x43_1]) := ⟨_,rfl⟩
                      replace H : (if (bt a0_3 x43_1) = 0 then (if y258.length < 140737488355328 then (pack_Value.l1 k1 (y258 ++ [255]) (a0_3.size : Int) (wrap64 (x43_1 + 1)) a0_0 a0_1 a0_2 a0_3) else (none)) else (pack_Value.l1 k1 y258 (a0_3.size : Int) (wrap64 (x43_1 + 1)) a0_0 a0_1 a0_2 a0_3)) = some r := by first | (rw [hy258];with_reducible exact H) | (have H2_ := (Option.bind_some _ _).symm.trans H;rw [hy258];with_reducible exact H2_) | (have H2_ := (Option.bind_some _ _).symm.trans H;with_reducible exact H2_) | with_reducible exact H | (rw [hy258];exact H) | exact H
                      have Ny258 := Aside0.mk hy258
                      clear hy258
                      by_cases c46 : (bt a0_3 x43_1) = 0
                      · rw [if_pos c46] at H
                        have c46b0 : ((bt a0_3 x43_1) == 0) = true := beq_iff_eq.mpr c46
                        have c46b1 : ((bt a0_3 x43_1) != 0) = false := bne_eq_false_iff_eq.mpr c46
                        clear c46
                        by_cases c47 : y258.length < 140737488355328
                        · rw [if_pos c47] at H
                          have LMc47 := Aside0.mk c47
                          clear c47
                          obtain ⟨y261,hy261⟩ : ∃ y_ : List Int,y_ = (y258 ++ [255]) := ⟨_,rfl⟩
                          replace H : (pack_Value.l1 k1 y261 (a0_3.size : Int) (wrap64 (x43_1 + 1)) a0_0 a0_1 a0_2 a0_3) = some r := by first | (rw [hy261];with_reducible exact H) | (have H2_ := (Option.bind_some _ _).symm.trans H;rw [hy261];with_reducible exact H2_) | (have H2_ := (Option.bind_some _ _).symm.trans H;with_reducible exact H2_) | with_reducible exact H | (rw [hy261];exact H) | exact H
                          have Ny261 := Aside0.mk hy261
                          clear hy261
                          have H' := Aside0.mk H
                          clear H
                          have hcz48_0 : wr.cell? ⟨gb241,0,none⟩ = some (.int .i64 a0_0) := (blk_cell BK241.out 0).trans rfl
                          have hcz48_1 : wr.cell? ⟨gb241,1,none⟩ = some (.bool a0_1) := (blk_cell BK241.out 1).trans rfl
                          have hcz48_2 : wr.cell? ⟨gb241,2,none⟩ = some (.int .i64 a0_2) := (blk_cell BK241.out 2).trans rfl
                          have hcz48_3 : wr.cell? ⟨gb241,3,none⟩ = some (.string a0_3) := (blk_cell BK241.out 3).trans rfl
                          have hfz48_0 := blk_frozen BK241.out 0
                          have hfz48_1 := blk_frozen BK241.out 1
                          have hfz48_2 := blk_frozen BK241.out 2
                          have hfz48_3 := blk_frozen BK241.out 3
                          have p43 : 0 ≤ (x43_1 : Int) := of_decide_eq_true (by first | (with_reducible assumption) | assumption)
                          have q43 : x43_1 < (a0_3.size : Int) := of_decide_eq_true (by first | (with_reducible assumption) | assumption)
                          have hx43 := bt_at a0_3 x43_1
                          replace p43 := eq_true p43
                          replace q43 := eq_true q43
                          go_wp2_with (first | ((with_reducible refine gate_builtin (b := .append) (xs := #[.tmp 46,.tmp 51]) rfl ?_);at_builtin;refine Kd.R_append (Kd.int .u8) (w0 := w) w.heap.size rfl (.tmp 46) (.tmp 51) 108 5 (.int .u8 0) 1 rfl Try.underlying108 info5 rfl (by decide) (by omega) u5 x5_1 (bt a0_3 x43_1) [.int .u8 (bt a0_3 x43_1)] (fun _ => True) (fun _ => False) rfl rfl ?aP (fun _ hk => hk.elim) ?aF ?aO ?aB ?aS ?aL ?_;(case aP => exact rfl);(case aB => exact (by repeat (first | (with_reducible first | exact HB.out | apply below_alloc | apply pw_below_drewN | apply below_drew1 | refine below_set ?_ GE241.out) | exact HB.out)));(case aF => exact (fun _ _ => trivial));(case aO => exact (by (with_reducible repeat (first | apply Kd.R_alloc | apply Kd.R_drewN | apply Kd.R_drew));exact HO_5.out));(case aS => exact (below_size (by repeat (first | (with_reducible first | exact HB.out | apply below_alloc | apply pw_below_drewN | apply below_drew1 | refine below_set ?_ GE241.out) | exact HB.out))));(case aL => have := LMc44.out;omega);intro v259 w49 ho hb hg hat;rw [← Ny258.out] at ho;have n0_ := Aside0.mk (blk_grown (g := gb241) (o := .cells #[.int .i64 a0_0,.bool a0_1,.int .i64 a0_2,.string a0_3] 66 (0,0)) (by (with_reducible repeat (first | refine blk_drewN ?_ _ | refine blk_drew ?_ | refine blk_alloc ?_ _));exact BK241.out) hg (Kd.R_ne HO_5.out BK241.out (by decide)));have n1_ := Aside0.mk (hb);have n2_ := Aside0.mk (ho);clear BK241;clear HB;clear HO_5;have BK241 := n0_;have HB := n1_;have HO260 := n2_;clear n0_ n1_ n2_;clear ho hb hg hat;have hcz50_0 : w49.cell? ⟨gb241,0,none⟩ = some (.int .i64 a0_0) := (blk_cell BK241.out 0).trans rfl;have hcz50_1 : w49.cell? ⟨gb241,1,none⟩ = some (.bool a0_1) := (blk_cell BK241.out 1).trans rfl;have hcz50_2 : w49.cell? ⟨gb241,2,none⟩ = some (.int .i64 a0_2) := (blk_cell BK241.out 2).trans rfl;have hcz50_3 : w49.cell? ⟨gb241,3,none⟩ = some (.string a0_3) := (blk_cell BK241.out 3).trans rfl;have hfz50_0 := blk_frozen BK241.out 0;have hfz50_1 := blk_frozen BK241.out 1;have hfz50_2 := blk_frozen BK241.out 2;have hfz50_3 := blk_frozen BK241.out 3;have p45 : 0 ≤ (x43_1 : Int) := of_decide_eq_true (by first | (with_reducible assumption) | assumption);have q45 : x43_1 < (a0_3.size : Int) := of_decide_eq_true (by first | (with_reducible assumption) | assumption);have hx45 := bt_at a0_3 x43_1;replace p45 := eq_true p45;replace q45 := eq_true q45) | ((with_reducible refine gate_builtin (b := .append) (xs := #[.tmp 58,.tmp 59]) rfl ?_);at_builtin;refine Kd.R_append (Kd.int .u8) (w0 := w) w.heap.size rfl (.tmp 58) (.tmp 59) 108 5 (.int .u8 0) 1 rfl Try.underlying108 info5 rfl (by decide) (by omega) v259 y258 255 [.int .u8 255] (fun _ => True) (fun _ => False) rfl rfl ?aP (fun _ hk => hk.elim) ?aF ?aO ?aB ?aS ?aL ?_;(case aP => exact rfl);(case aB => exact (by repeat (first | (with_reducible first | exact HB.out | apply below_alloc | apply pw_below_drewN | apply below_drew1 | refine below_set ?_ GE241.out) | exact HB.out)));(case aF => exact (fun _ _ => trivial));(case aO => exact (by (with_reducible repeat (first | apply Kd.R_alloc | apply Kd.R_drewN | apply Kd.R_drew));exact HO260.out));(case aS => exact (below_size (by repeat (first | (with_reducible first | exact HB.out | apply below_alloc | apply pw_below_drewN | apply below_drew1 | refine below_set ?_ GE241.out) | exact HB.out))));(case aL => have := LMc47.out;omega);intro v262 w51 ho hb hg hat;rw [← Ny261.out] at ho;have n0_ := Aside0.mk (blk_grown (g := gb241) (o := .cells #[.int .i64 a0_0,.bool a0_1,.int .i64 a0_2,.string a0_3] 66 (0,0)) (by (with_reducible repeat (first | refine blk_drewN ?_ _ | refine blk_drew ?_ | refine blk_alloc ?_ _));exact BK241.out) hg (Kd.R_ne HO260.out BK241.out (by decide)));have n1_ := Aside0.mk (hb);have n2_ := Aside0.mk (ho);clear BK241;clear HB;clear HO260;have BK241 := n0_;have HB := n1_;have HO263 := n2_;clear n0_ n1_ n2_;clear ho hb hg hat))
                          go_roundg k1
                          case measure => have := HK1.out;omega
                          case rel => exact ⟨(y261),(wrap64 (x43_1 + 1)),(by first | rfl | (simp;done) | (simp [*];done)),H',⟨by have := HK1.out;omega⟩,⟨by (with_reducible repeat (first | apply Kd.R_alloc | apply Kd.R_drewN | apply Kd.R_drew));exact HO263.out⟩,⟨by (with_reducible repeat (first | refine blk_drewN ?_ _ | refine blk_drew ?_ | refine blk_alloc ?_ _));exact BK241.out⟩,⟨by repeat (first | (with_reducible first | exact HB.out | apply below_alloc | apply pw_below_drewN | apply below_drew1 | refine below_set ?_ GE241.out) | exact HB.out)⟩⟩
                        · rw [if_neg c47] at H
                          exact absurd H (by simp)
                      · rw [if_neg c46] at H
                        have c46b0 : ((bt a0_3 x43_1) == 0) = false := beq_eq_false_iff_ne.mpr c46
                        have c46b1 : ((bt a0_3 x43_1) != 0) = true := bne_iff_ne.mpr c46
                        have H' := Aside0.mk H
                        clear H
                        have hcz52_0 : wr.cell? ⟨gb241,0,none⟩ = some (.int .i64 a0_0) := (blk_cell BK241.out 0).trans rfl
                        have hcz52_1 : wr.cell? ⟨gb241,1,none⟩ = some (.bool a0_1) := (blk_cell BK241.out 1).trans rfl
                        have hcz52_2 : wr.cell? ⟨gb241,2,none⟩ = some (.int .i64 a0_2) := (blk_cell BK241.out 2).trans rfl
                        have hcz52_3 : wr.cell? ⟨gb241,3,none⟩ = some (.string a0_3) := (blk_cell BK241.out 3).trans rfl
                        have hfz52_0 := blk_frozen BK241.out 0
                        have hfz52_1 := blk_frozen BK241.out 1
                        have hfz52_2 := blk_frozen BK241.out 2
                        have hfz52_3 := blk_frozen BK241.out 3
                        have p43 : 0 ≤ (x43_1 : Int) := of_decide_eq_true (by first | (with_reducible assumption) | assumption)
                        have q43 : x43_1 < (a0_3.size : Int) := of_decide_eq_true (by first | (with_reducible assumption) | assumption)
                        have hx43 := bt_at a0_3 x43_1
                        replace p43 := eq_true p43
                        replace q43 := eq_true q43
                        go_wp2_with (first | ((with_reducible refine gate_builtin (b := .append) (xs := #[.tmp 46,.tmp 51]) rfl ?_);at_builtin;refine Kd.R_append (Kd.int .u8) (w0 := w) w.heap.size rfl (.tmp 46) (.tmp 51) 108 5 (.int .u8 0) 1 rfl Try.underlying108 info5 rfl (by decide) (by omega) u5 x5_1 (bt a0_3 x43_1) [.int .u8 (bt a0_3 x43_1)] (fun _ => True) (fun _ => False) rfl rfl ?aP (fun _ hk => hk.elim) ?aF ?aO ?aB ?aS ?aL ?_;(case aP => exact rfl);(case aB => exact (by repeat (first | (with_reducible first | exact HB.out | apply below_alloc | apply pw_below_drewN | apply below_drew1 | refine below_set ?_ GE241.out) | exact HB.out)));(case aF => exact (fun _ _ => trivial));(case aO => exact (by (with_reducible repeat (first | apply Kd.R_alloc | apply Kd.R_drewN | apply Kd.R_drew));exact HO_5.out));(case aS => exact (below_size (by repeat (first | (with_reducible first | exact HB.out | apply below_alloc | apply pw_below_drewN | apply below_drew1 | refine below_set ?_ GE241.out) | exact HB.out))));(case aL => have := LMc44.out;omega);intro v259 w53 ho hb hg hat;rw [← Ny258.out] at ho;have n0_ := Aside0.mk (blk_grown (g := gb241) (o := .cells #[.int .i64 a0_0,.bool a0_1,.int .i64 a0_2,.string a0_3] 66 (0,0)) (by (with_reducible repeat (first | refine blk_drewN ?_ _ | refine blk_drew ?_ | refine blk_alloc ?_ _));exact BK241.out) hg (Kd.R_ne HO_5.out BK241.out (by decide)));have n1_ := Aside0.mk (hb);have n2_ := Aside0.mk (ho);clear BK241;clear HB;clear HO_5;have BK241 := n0_;have HB := n1_;have HO260 := n2_;clear n0_ n1_ n2_;clear ho hb hg hat;have hcz54_0 : w53.cell? ⟨gb241,0,none⟩ = some (.int .i64 a0_0) := (blk_cell BK241.out 0).trans rfl;have hcz54_1 : w53.cell? ⟨gb241,1,none⟩ = some (.bool a0_1) := (blk_cell BK241.out 1).trans rfl;have hcz54_2 : w53.cell? ⟨gb241,2,none⟩ = some (.int .i64 a0_2) := (blk_cell BK241.out 2).trans rfl;have hcz54_3 : w53.cell? ⟨gb241,3,none⟩ = some (.string a0_3) := (blk_cell BK241.out 3).trans rfl;have hfz54_0 := blk_frozen BK241.out 0;have hfz54_1 := blk_frozen BK241.out 1;have hfz54_2 := blk_frozen BK241.out 2;have hfz54_3 := blk_frozen BK241.out 3;have p45 : 0 ≤ (x43_1 : Int) := of_decide_eq_true (by first | (with_reducible assumption) | assumption);have q45 : x43_1 < (a0_3.size : Int) := of_decide_eq_true (by first | (with_reducible assumption) | assumption);have hx45 := bt_at a0_3 x43_1;replace p45 := eq_true p45;replace q45 := eq_true q45))
                        go_roundg k1
                        case measure => have := HK1.out;omega
                        case rel => exact ⟨(y258),(wrap64 (x43_1 + 1)),(by first | rfl | (simp;done) | (simp [*];done)),H',⟨by have := HK1.out;omega⟩,⟨by (with_reducible repeat (first | apply Kd.R_alloc | apply Kd.R_drewN | apply Kd.R_drew));exact HO260.out⟩,⟨by (with_reducible repeat (first | refine blk_drewN ?_ _ | refine blk_drew ?_ | refine blk_alloc ?_ _));exact BK241.out⟩,⟨by repeat (first | (with_reducible first | exact HB.out | apply below_alloc | apply pw_below_drewN | apply below_drew1 | refine below_set ?_ GE241.out) | exact HB.out)⟩⟩
                    · rw [if_neg c44] at H
                      exact absurd H (by simp)
                  · rw [if_neg c42] at H
                    exact absurd H (by simp)
                · rw [if_neg c41] at H
                  exact absurd H (by simp)
              · rw [if_neg c40] at H
                have c40b0 : decide (x43_1 < (a0_3.size : Int)) = false := decide_eq_false c40
                clear c40
                obtain ⟨y264,hy264⟩ : ∃ y_ : List Int,y_ = (([0,1] : List Int)) := ⟨_,rfl⟩
                replace H : (if x5_1.length + y264.length < 140737488355328 then (some (x5_1 ++ y264)) else (none)) = some r := by first | (rw [hy264];with_reducible exact H) | (have H2_ := (Option.bind_some _ _).symm.trans H;rw [hy264];with_reducible exact H2_) | (have H2_ := (Option.bind_some _ _).symm.trans H;with_reducible exact H2_) | with_reducible exact H | (rw [hy264];exact H) | exact H
                have Ny264 := Aside0.mk hy264
                clear hy264
                by_cases c55 : x5_1.length + y264.length < 140737488355328
                · rw [if_pos c55] at H
                  have LMc55 := Aside0.mk c55
                  clear c55
                  obtain ⟨y267,hy267⟩ : ∃ y_ : List Int,y_ = (x5_1 ++ y264) := ⟨_,rfl⟩
                  replace H : (some y267) = some r := by first | (rw [hy267];with_reducible exact H) | (have H2_ := (Option.bind_some _ _).symm.trans H;rw [hy267];with_reducible exact H2_) | (have H2_ := (Option.bind_some _ _).symm.trans H;with_reducible exact H2_) | with_reducible exact H | (rw [hy267];exact H) | exact H
                  have Ny267 := Aside0.mk hy267
                  clear hy267
                  obtain rfl := Option.some.inj H
                  go_wp2_with (first | ((with_reducible refine gate_dst (N := 63) rfl ?_);refine Kd.R_lit (Kd.int .u8) _ 5 ?hg (N := 63) ?hd (xs := ([0,1] : List Int)) (inner := [.int .u8 0,.int .u8 1]) (ok := fun _ => True) (okp := fun _ => True) ?hr ?hp (fun _ hk => hk) trivial (Below.refl _ _) (Nat.le_refl _) (by simp) ?_;(case hd => rfl);(case hg => rfl);(case hr => first | (go_simp;done) | (go_simp;rfl));(case hp => exact (Reps.one (show Kd.M (Kd.int .u8) _ _ _ 0 [.int .u8 0] from rfl) (Reps.one (show Kd.M (Kd.int .u8) _ _ _ 1 [.int .u8 1] from rfl) (Reps.none _ _))));intro v265 w56 ho57 hb hg_ hnew_;clear hg_ hnew_;(first | rw [← Ny264.out] at ho57 | (simp only [Int.reduceToNat] at ho57;rw [← Ny264.out] at ho57));have n0_ := Aside0.mk (Kd.R_elder' (by (with_reducible repeat (first | apply Kd.R_alloc | apply Kd.R_drewN | apply Kd.R_drew));exact HO_5.out) (Kd.R_base ho57) hb);have n1_ := Aside0.mk (Kd.R_lower (Kd.R_new' ho57 (Kd.R_lt (by (with_reducible repeat (first | apply Kd.R_alloc | apply Kd.R_drewN | apply Kd.R_drew));exact HO_5.out))) (below_size (by repeat (first | (with_reducible first | exact HB.out | apply below_alloc | apply pw_below_drewN | apply below_drew1 | refine below_set ?_ GE241.out) | exact HB.out))));have n2_ := Aside0.mk (blk_below (g := gb241) (o := .cells #[.int .i64 a0_0,.bool a0_1,.int .i64 a0_2,.string a0_3] 66 (0,0)) (by (with_reducible repeat (first | refine blk_drewN ?_ _ | refine blk_drew ?_ | refine blk_alloc ?_ _));exact BK241.out) hb);have n3_ := Aside0.mk (below_step (by repeat (first | (with_reducible first | exact HB.out | apply below_alloc | apply pw_below_drewN | apply below_drew1 | refine below_set ?_ GE241.out) | exact HB.out)) hb);clear HO_5;clear BK241;clear HB;have HO_5 := n0_;have HO266 := n1_;have BK241 := n2_;have HB := n3_;clear n0_ n1_ n2_ n3_;clear hb ho57;obtain ⟨Ao59,co59,eo59⟩ := Kd.R_slice HO266.out;subst eo59) | ((with_reducible refine gate_builtin (b := .append) (xs := #[.tmp 62,.tmp 63]) rfl ?_);at_builtin;refine Kd.R_append_rows (Kd.int .u8) (w0 := w) w.heap.size rfl (.tmp 62) (.tmp 63) 108 5 (.int .u8 0) 1 rfl Try.underlying108 info5 rfl (by decide) (by omega) u5 x5_1 y264 _ _ _ (fun k_ => some k_ ≠ (.slice Ao59 y264.length co59 : Value).ownBlock) (fun _ => False) rfl rfl ?aO ?aR (fun _ _ h => h) (fun _ h => h.elim) ?aF ?aB ?aS ?aL ?_;(case aR => repeat (first | exact (Kd.R_reads' HO266.out).2.2 | (with_reducible refine Kd.C_alloc ?_ _) | (with_reducible refine Kd.C_drewN ?_ _) | (with_reducible refine Kd.C_drew ?_)));(case aB => exact (by repeat (first | (with_reducible first | exact HB.out | apply below_alloc | apply pw_below_drewN | apply below_drew1 | refine below_set ?_ GE241.out) | exact HB.out)));(case aF => exact (fun k_ hk => Kd.fresh' (Kd.R_lt (by (with_reducible repeat (first | apply Kd.R_alloc | apply Kd.R_drewN | apply Kd.R_drew));exact HO266.out)) k_ hk));(case aO => exact (by (with_reducible repeat (first | apply Kd.R_alloc | apply Kd.R_drewN | apply Kd.R_drew));exact Kd.R_mono HO_5.out (fun _ hk => hk.2)));(case aS => exact (below_size (by repeat (first | (with_reducible first | exact HB.out | apply below_alloc | apply pw_below_drewN | apply below_drew1 | refine below_set ?_ GE241.out) | exact HB.out))));(case aL => have := LMc55.out;omega);intro v268 w58 ho hb hg hat;rw [← Ny267.out] at ho;have n0_ := Aside0.mk (blk_grown (g := gb241) (o := .cells #[.int .i64 a0_0,.bool a0_1,.int .i64 a0_2,.string a0_3] 66 (0,0)) (by (with_reducible repeat (first | refine blk_drewN ?_ _ | refine blk_drew ?_ | refine blk_alloc ?_ _));exact BK241.out) hg (Kd.R_ne HO_5.out BK241.out (by decide)));have n1_ := Aside0.mk (Kd.R_after (ok := (fun _ => True)) (by (with_reducible repeat (first | apply Kd.R_alloc | apply Kd.R_drewN | apply Kd.R_drew));exact HO266.out) hg hat);have n2_ := Aside0.mk (hb);have n3_ := Aside0.mk (ho);clear BK241;clear HO266;clear HB;clear HO_5;have BK241 := n0_;have HO266 := n1_;have HB := n2_;have HO269 := n3_;clear n0_ n1_ n2_ n3_;clear ho hb hg hat))
                  go_ret
                  exact ⟨_,by first | rfl | (simp [errW_none,errW_some] <;> rfl) | (simp [*,errW_none,errW_some] <;> rfl),by (with_reducible repeat (first | apply Kd.R_alloc | apply Kd.R_drewN | apply Kd.R_drew));exact Kd.R_mono HO269.out (fun _ hk => trivial),by repeat (first | (with_reducible first | exact HB.out | apply below_alloc | apply pw_below_drewN | apply below_drew1 | refine below_set ?_ GE241.out) | exact HB.out)⟩
                · rw [if_neg c55] at H
                  exact absurd H (by simp)
        · rw [if_neg c32] at H
          have c32b0 : (a0_0 == 3) = false := beq_eq_false_iff_ne.mpr c32
          have c32b1 : (a0_0 != 3) = true := bne_iff_ne.mpr c32
          obtain ⟨y270,hy270⟩ : ∃ y_ : List Int,y_ = (([1] : List Int)) := ⟨_,rfl⟩
          replace H : (some y270) = some r := by first | (rw [hy270];with_reducible exact H) | (have H2_ := (Option.bind_some _ _).symm.trans H;rw [hy270];with_reducible exact H2_) | (have H2_ := (Option.bind_some _ _).symm.trans H;with_reducible exact H2_) | with_reducible exact H | (rw [hy270];exact H) | exact H
          have Ny270 := Aside0.mk hy270
          clear hy270
          obtain rfl := Option.some.inj H
          go_enter Try.func100,Try.ntmps100
          go_wp2_with (first | ((with_reducible refine gate_dst (N := 1) rfl ?_);refine box_event ?hg (N := 1) ?hd (cs := #[.int .i64 a0_0,.bool a0_1,.int .i64 a0_2,.string a0_3]) (t := 66) ?hr ?_;(case hd => rfl);(case hg => rfl);(case hr => first | (go_simp;done) | (go_simp;rfl));intro gb241 hg w60 hbox hb;have n0_ := Aside0.mk (below_step (by repeat (first | (with_reducible first | exact HB.out | apply below_alloc | apply pw_below_drewN | apply below_drew1) | exact HB.out)) hb);have n1_ := Aside0.mk (hbox);have n2_ := Aside0.mk ((by rw [hg];exact (below_size (by repeat (first | (with_reducible first | exact HB.out | apply below_alloc | apply pw_below_drewN | apply below_drew1) | exact HB.out))) : w.heap.size ≤ gb241));have n3_ := Aside0.mk ((by rw [hg];exact (below_size (by repeat (first | (with_reducible first | exact HB.out | apply below_alloc | apply pw_below_drewN | apply below_drew1) | exact HB.out))) : w.heap.size ≤ gb241));clear HB;have HB := n0_;have BK241 := n1_;have GW241 := n2_;have GE241 := n3_;clear n0_ n1_ n2_ n3_;clear hb hbox hg;have hcz61_0 : w60.cell? ⟨gb241,0,none⟩ = some (.int .i64 a0_0) := (blk_cell BK241.out 0).trans rfl;have hcz61_1 : w60.cell? ⟨gb241,1,none⟩ = some (.bool a0_1) := (blk_cell BK241.out 1).trans rfl;have hcz61_2 : w60.cell? ⟨gb241,2,none⟩ = some (.int .i64 a0_2) := (blk_cell BK241.out 2).trans rfl;have hcz61_3 : w60.cell? ⟨gb241,3,none⟩ = some (.string a0_3) := (blk_cell BK241.out 3).trans rfl;have hfz61_0 := blk_frozen BK241.out 0;have hfz61_1 := blk_frozen BK241.out 1;have hfz61_2 := blk_frozen BK241.out 2;have hfz61_3 := blk_frozen BK241.out 3) | ((with_reducible refine gate_callee (f := 92) rfl ?_);refine goesL_ (some 8) rfl rfl Try.func92 (by kernel_rfl) rfl #[.agg #[.int .i64 a0_0,.bool a0_1,.int .i64 a0_2,.string a0_3]] rfl (by (try simp only [List.map_toArray,List.map_cons,List.map_nil]);first | done | rfl | (simp only [List.length_drop,List.length_take];rfl)) ?_;(with_reducible refine (value_Right.calls a0_0 a0_1 a0_2 a0_3 true _ A2.out).mono ?_);rintro e w62 ⟨rfl,hb⟩;refine ⟨_,rfl,?_⟩;have n0_ := Aside0.mk (blk_below (g := gb241) (o := .cells #[.int .i64 a0_0,.bool a0_1,.int .i64 a0_2,.string a0_3] 66 (0,0)) (by (with_reducible repeat (first | refine blk_drewN ?_ _ | refine blk_drew ?_ | refine blk_alloc ?_ _));exact BK241.out) hb);have n1_ := Aside0.mk (below_step (by repeat (first | (with_reducible first | exact HB.out | apply below_alloc | apply pw_below_drewN | apply below_drew1 | refine below_set ?_ GE241.out) | exact HB.out)) hb);clear BK241;clear HB;have BK241 := n0_;have HB := n1_;clear n0_ n1_;(try clear hb);(try clear hb2);(try clear hk);(try clear hi);have hcz63_0 : w62.cell? ⟨gb241,0,none⟩ = some (.int .i64 a0_0) := (blk_cell BK241.out 0).trans rfl;have hcz63_1 : w62.cell? ⟨gb241,1,none⟩ = some (.bool a0_1) := (blk_cell BK241.out 1).trans rfl;have hcz63_2 : w62.cell? ⟨gb241,2,none⟩ = some (.int .i64 a0_2) := (blk_cell BK241.out 2).trans rfl;have hcz63_3 : w62.cell? ⟨gb241,3,none⟩ = some (.string a0_3) := (blk_cell BK241.out 3).trans rfl;have hfz63_0 := blk_frozen BK241.out 0;have hfz63_1 := blk_frozen BK241.out 1;have hfz63_2 := blk_frozen BK241.out 2;have hfz63_3 := blk_frozen BK241.out 3) | ((with_reducible refine gate_dst (N := 65) rfl ?_);refine Kd.R_lit (Kd.int .u8) _ 5 ?hg (N := 65) ?hd (xs := ([1] : List Int)) (inner := [.int .u8 1]) (ok := fun _ => True) (okp := fun _ => True) ?hr ?hp (fun _ hk => hk) trivial (Below.refl _ _) (Nat.le_refl _) (by simp) ?_;(case hd => rfl);(case hg => rfl);(case hr => first | (go_simp;done) | (go_simp;rfl));(case hp => exact (Reps.one (show Kd.M (Kd.int .u8) _ _ _ 1 [.int .u8 1] from rfl) (Reps.none _ _)));intro v271 w64 ho65 hb hg_ hnew_;clear hg_ hnew_;(first | rw [← Ny270.out] at ho65 | (simp only [Int.reduceToNat] at ho65;rw [← Ny270.out] at ho65));have n0_ := Aside0.mk (Kd.R_lower ho65 (below_size (by repeat (first | (with_reducible first | exact HB.out | apply below_alloc | apply pw_below_drewN | apply below_drew1 | refine below_set ?_ GE241.out) | exact HB.out))));have n1_ := Aside0.mk (blk_below (g := gb241) (o := .cells #[.int .i64 a0_0,.bool a0_1,.int .i64 a0_2,.string a0_3] 66 (0,0)) (by (with_reducible repeat (first | refine blk_drewN ?_ _ | refine blk_drew ?_ | refine blk_alloc ?_ _));exact BK241.out) hb);have n2_ := Aside0.mk (below_step (by repeat (first | (with_reducible first | exact HB.out | apply below_alloc | apply pw_below_drewN | apply below_drew1 | refine below_set ?_ GE241.out) | exact HB.out)) hb);clear BK241;clear HB;have HO272 := n0_;have BK241 := n1_;have HB := n2_;clear n0_ n1_ n2_;clear hb ho65))
          go_ret
          exact ⟨_,by first | rfl | (simp [errW_none,errW_some] <;> rfl) | (simp [*,errW_none,errW_some] <;> rfl),by (with_reducible repeat (first | apply Kd.R_alloc | apply Kd.R_drewN | apply Kd.R_drew));exact HO272.out,by repeat (first | (with_reducible first | exact HB.out | apply below_alloc | apply pw_below_drewN | apply below_drew1 | refine below_set ?_ GE241.out) | exact HB.out)⟩
  · replace c3 := Bool.eq_false_iff.mpr c3
    subst c3
    have H1 : (some ([] : List Int)) = some r := by rw [if_neg (show ¬ (false = true) by decide)] at H;exact H
    clear H
    have H := H1
    clear H1
    obtain rfl := Option.some.inj H
    go_enter Try.func100,Try.ntmps100
    go_wp2_with (first | ((with_reducible refine gate_dst (N := 1) rfl ?_);refine box_event ?hg (N := 1) ?hd (cs := #[.int .i64 a0_0,.bool a0_1,.int .i64 a0_2,.string a0_3]) (t := 66) ?hr ?_;(case hd => rfl);(case hg => rfl);(case hr => first | (go_simp;done) | (go_simp;rfl));intro gb241 hg w66 hbox hb;have n0_ := Aside0.mk (below_step (by repeat (first | (with_reducible first | exact HB.out | apply below_alloc | apply pw_below_drewN | apply below_drew1) | exact HB.out)) hb);have n1_ := Aside0.mk (hbox);have n2_ := Aside0.mk ((by rw [hg];exact (below_size (by repeat (first | (with_reducible first | exact HB.out | apply below_alloc | apply pw_below_drewN | apply below_drew1) | exact HB.out))) : w.heap.size ≤ gb241));have n3_ := Aside0.mk ((by rw [hg];exact (below_size (by repeat (first | (with_reducible first | exact HB.out | apply below_alloc | apply pw_below_drewN | apply below_drew1) | exact HB.out))) : w.heap.size ≤ gb241));clear HB;have HB := n0_;have BK241 := n1_;have GW241 := n2_;have GE241 := n3_;clear n0_ n1_ n2_ n3_;clear hb hbox hg;have hcz67_0 : w66.cell? ⟨gb241,0,none⟩ = some (.int .i64 a0_0) := (blk_cell BK241.out 0).trans rfl;have hcz67_1 : w66.cell? ⟨gb241,1,none⟩ = some (.bool a0_1) := (blk_cell BK241.out 1).trans rfl;have hcz67_2 : w66.cell? ⟨gb241,2,none⟩ = some (.int .i64 a0_2) := (blk_cell BK241.out 2).trans rfl;have hcz67_3 : w66.cell? ⟨gb241,3,none⟩ = some (.string a0_3) := (blk_cell BK241.out 3).trans rfl;have hfz67_0 := blk_frozen BK241.out 0;have hfz67_1 := blk_frozen BK241.out 1;have hfz67_2 := blk_frozen BK241.out 2;have hfz67_3 := blk_frozen BK241.out 3) | ((with_reducible refine gate_callee (f := 92) rfl ?_);refine goesL_ (some 8) rfl rfl Try.func92 (by kernel_rfl) rfl #[.agg #[.int .i64 a0_0,.bool a0_1,.int .i64 a0_2,.string a0_3]] rfl (by (try simp only [List.map_toArray,List.map_cons,List.map_nil]);first | done | rfl | (simp only [List.length_drop,List.length_take];rfl)) ?_;(with_reducible refine (value_Right.calls a0_0 a0_1 a0_2 a0_3 false _ A2.out).mono ?_);rintro e w68 ⟨rfl,hb⟩;refine ⟨_,rfl,?_⟩;have n0_ := Aside0.mk (blk_below (g := gb241) (o := .cells #[.int .i64 a0_0,.bool a0_1,.int .i64 a0_2,.string a0_3] 66 (0,0)) (by (with_reducible repeat (first | refine blk_drewN ?_ _ | refine blk_drew ?_ | refine blk_alloc ?_ _));exact BK241.out) hb);have n1_ := Aside0.mk (below_step (by repeat (first | (with_reducible first | exact HB.out | apply below_alloc | apply pw_below_drewN | apply below_drew1 | refine below_set ?_ GE241.out) | exact HB.out)) hb);clear BK241;clear HB;have BK241 := n0_;have HB := n1_;clear n0_ n1_;(try clear hb);(try clear hb2);(try clear hk);(try clear hi)))
    go_ret
    exact ⟨_,by first | rfl | (simp [errW_none,errW_some] <;> rfl) | (simp [*,errW_none,errW_some] <;> rfl),by first | exact Kd.R_nil _ _ _ _ _ | exact Kd.N_nil _ _ _ _ _ | exact Kd.V_nil _ _ _ _ _ | exact Kd.Q_nil _ _ _ _ _ | exact Kd.S_nil _ _ _ _ _,by repeat (first | (with_reducible first | exact HB.out | apply below_alloc | apply pw_below_drewN | apply below_drew1 | refine below_set ?_ GE241.out) | exact HB.out)⟩
end Go.Proofs.Ythmbfcfomcaaaaa.Z
end
