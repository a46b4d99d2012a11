/-
  verdererlaw05.BagMerges: for every input the law returns true, and each argument reads behind the call as it read before. No condition.
-/
import Derived.Test.YthmbfcfomcaaaaaMBagMergesa
import Derived.Test.YthmbfcfomcaaaaaMBagMergesb
import Derived.Test.YthmbfcfomcaaaaaMBagMergesc
import Derived.Test.YthmbfcfomcaaaaaMBagMergesd
import Derived.Test.YthmbfcfomcaaaaaMBagMergese
import Derived.Test.YthmbfcfomcaaaaaRows
import Derived.WalkKit
import Derived.ProofKit
import Derived.OpenShut
import Derived.ShutString
import Derived.ChangeOld
import Derived.Below
import Derived.Laws.Cover2
section
namespace Go.Proofs.Ythmbfcfomcaaaaa.Z
set_option linter.unusedVariables false
set_option linter.unusedSimpArgs false
open Go.RowKit Go.Proofs.YthmbfcfomcaaaaaW.PrintWords Go.Proofs.YthmbfcfomcaaaaaW.PrintLast Go.Proofs.YthmbfcfomcaaaaaW.PrintMore Go.Proofs.Ythmbfcfomcaaaaa.Cmp
theorem okAdd_few {r : Rw} {x : Int} {L : List En} (h : OkD L) : okAdd r x L = few (manyD r L + x) := by
  have b := many_bd (r := r) h
  unfold okAdd
  cases hf : few (manyD r L + x) with
  | false => rw [Bool.and_false]
  | true =>
    have := few_iff.1 hf
    rw [decide_eq_true (show -2147483648 ≤ x by omega),decide_eq_true (show x ≤ 2147483648 by omega)]
    rfl
theorem RefCh.trans {w w1 w2 : World} {g : Nat} {E E1 E2 : Nat → Prop} (h : RefCh w w1 g E E1) (k : RefCh w1 w2 g E1 E2) : RefCh w w2 g E E2 :=
  ⟨h.ch.then_ k.ch (fun j s => .inl s),fun j hj => (k.dat j hj).elim (h.dat j) (fun q => .inr (Nat.le_trans h.ch.size q))⟩
theorem radd2 {E : Nat → Prop} {g : Nat} {A A1 : Option Addr} {c c1 : Nat} {r : Rw} (m : Int) {w W : World} {L : List En} (h : RefV w g A1 c1 L E) (e : SameW w W) (hr : RowC W A c r) (h1 : SrtD L) (h2 : OkD L) (hs : L.length ≤ 1000000) :
    Calls Try.prog 17 #[.pointer (some ⟨g,0,none⟩),.slice A r.length c,.int .i64 m] W fun e w' => ∃ q A' c' E',e = .returned (.int .i64 q) ∧ RefV w' g A' c' (addD r m L).2 E' ∧ RefCh w w' g E E' := by
  refine (ref_add g A1 c1 L A c r m W (h.below (e.below _)) h1 h2 hr hs).mono ?_
  rintro e' w1 ⟨A',c',E',rfl,h3,h4⟩
  exact ⟨_,A',c',E',rfl,h3,(RefCh.same (e.below _)).trans h4⟩
theorem rmany2 {E : Nat → Prop} {g : Nat} {A A1 : Option Addr} {c c1 : Nat} {r : Rw} {w W : World} {L : List En} {q : Int} (h : RefV w g A1 c1 L E) (hb : Below w.heap.size w W) (hr : RowC W A c r) (h1 : SrtD L) (h2 : OkD L) (hs : L.length ≤ 1000000) (hq : manyD r L = q) :
    Calls Try.prog 19 #[.pointer (some ⟨g,0,none⟩),.slice A r.length c] W fun e w' => e = .returned (.int .i64 q) ∧ Below W.heap.size W w' := by
  subst hq
  exact ref_many g A1 c1 L A c r W (h.below hb) h1 h2 hr hs
theorem cell_of {w w' : World} {a : Addr} (h : w'.heap[a.block]? = w.heap[a.block]?) : w'.cell? a = w.cell? a := by unfold World.cell?;rw [h]
theorem add_block (a : Addr) (n : Nat) : (a.add n).block = a.block := by unfold Addr.add;split <;> rfl
set_option maxHeartbeats 8000000 in
set_option maxRecDepth 100000 in
theorem ref_merge {E1 E2 : Nat → Prop} {g1 g2 : Nat} {A1 A2 : Option Addr} {c1 c2 : Nat} {L1 L2 : List En} (m : Int) {w : World} (h1 : RefV w g1 A1 c1 L1 E1) (h2 : RefV w g2 A2 c2 L2 E2) (s1 : SrtD L1) (k1 : OkD L1) (k2 : OkD L2) (l1 : L1.length ≤ 100000) (l2 : L2.length ≤ 100000) (hne : ¬ E2 g1) :
    Calls Try.prog 32 #[.pointer (some ⟨g1,0,none⟩),.pointer (some ⟨g2,0,none⟩),.int .i64 m] w fun e w' => ∃ A' c' E',e = .returned (.int .i64 (mergeD m L2 L1).1) ∧ RefV w' g1 A' c' (mergeD m L2 L1).2 E' ∧ RefCh w w' g1 E1 E' := by
  have H1 := Aside0.mk h1
  have H2 := Aside0.mk h2
  have S1 := Aside0.mk s1
  have K1 := Aside0.mk k1
  have K2 := Aside0.mk k2
  have LL1 := Aside0.mk l1
  have LL2 := Aside0.mk l2
  have NE := Aside0.mk hne
  have GL := Aside0.mk h1.g_lt
  have FC := Aside0.mk (fun x W => rfew_calls x W)
  obtain ⟨fm,hfm⟩ : ∃ fm,few m = fm := ⟨_,rfl⟩
  have FM := Aside0.mk hfm
  have FC0 := Aside0.mk (show Calls Try.prog 66 #[.int .i64 m] w fun e w' => e = .returned (.bool fm) ∧ Drawn0 w w' from hfm ▸ FC.out m w)
  have ME := Aside0.mk (show mergeD m L2 L1 = if fm = true then (if allD m L2 L1 = true then (0,mulD m L2 L1) else (10,L1)) else (2,L1) by unfold mergeD;rw [hfm])
  clear h1 h2 s1 k1 k2 l1 l2 hne hfm
  cases fm with
  | false =>
    rw [ME.out,if_neg (by simp)]
    go_enter Try.func32,Try.ntmps32
    go_wp2_with (fail)
    refine FC0.out.mono ?_
    rintro e w1 ⟨rfl,hd⟩
    have hb := hd.below
    go_wp2_with (fail)
    go_ret
    exact ⟨A1,c1,E1,rfl,H1.out.below hb,RefCh.same hb⟩
  | true =>
    rw [ME.out,if_pos rfl]
    clear ME
    obtain ⟨res,hres⟩ : ∃ res,(if allD m L2 L1 = true then ((0 : Int),mulD m L2 L1) else (10,L1)) = res := ⟨_,rfl⟩
    have RES := Aside0.mk hres
    rw [hres]
    obtain ⟨n,hn⟩ : ∃ n,L2.length = n := ⟨_,rfl⟩
    have LN := Aside0.mk hn
    clear hres hn
    go_enter Try.func32,Try.ntmps32
    go_wp2_with (fail)
    refine FC0.out.mono ?_
    rintro e w1 ⟨rfl,hd⟩
    have hb := hd.below
    have B1 := Aside0.mk hb
    have g0 := (blk_cell (H2.out.below hb).blk 0).trans rfl
    have V2 := Aside0.mk (H2.out.below hb)
    have nB : n ≤ 100000 := by have := LL2.out;have := LN.out;omega
    rw [LN.out] at g0
    clear hd hb FC0
    go_wp2_with (((with_reducible refine gate_builtin (b := .append) (xs := #[.tmp 13,.tmp 17]) rfl ?_);at_builtin;refine Kd.N_append_rows k34 (w0 := w) w.heap.size rfl (.tmp 13) (.tmp 17) 22 34 (.agg #[(.slice none 0 0),(.int .i64 0)]) 32 rfl Try.underlying22 info34 rfl (by decide) (by omega) (.slice none 0 0) [] L2 A2 n c2 (fun k => E2 k ∨ w.heap.size ≤ k) E2 rfl rfl (Kd.N_nil _ _ _ _ _) (LN.out ▸ V2.out.row) (fun k hk => ⟨.inl hk,by simp [Value.ownBlock]⟩) (fun k hk => .inr (Nat.le_trans B1.out.size hk)) B1.out B1.out.size (by rw [List.length_nil];omega) ?_;intro v1 w2 hv hb3 hg hat;rw [List.nil_append] at hv;have N2 := Aside0.mk hv;have B2 := Aside0.mk hb3;obtain ⟨Al,cl,el⟩ := Kd.N_slice hv;clear hv hb3 hg hat g0;rw [LN.out] at el;subst el))
    have RV := Aside0.mk (Kd.F_bound (Kd.N_F N2.out))
    have CAP := Aside0.mk (show n ≤ cl by have := (Kd.N_reads' N2.out).2.1;omega)
    clear N2
    go_wp2_with (fail)
    go_loopw [8] (fun iv wr => ∃ i : Nat,iv = .int .i64 (i : Int) ∧ i ≤ n ∧ Aside0 (allD m L2 L1 = allD m (L2.drop i) L1) ∧ Aside0 (NextW w2.heap.size w2 wr)) (fun iv _ => n - (intOf iv).toNat)
    case atStart => exact ⟨0,rfl,Nat.zero_le _,⟨rfl⟩,⟨NextW.refl _⟩⟩
    case round =>
      obtain ⟨i,rfl,hi,AL,IB⟩ := hrel
      by_cases hin : i < n
      · have k0 : decide ((i : Int) < (n : Int)) = true := decide_eq_true (by omega)
        have k0' : decide (i < n) = true := decide_eq_true hin
        have p0 : (0 : Int) ≤ (i : Int) := by omega
        have p1 : (i : Int) < (n : Int) := by omega
        obtain ⟨x,hx⟩ : ∃ x,L2[i]? = some x := ⟨L2[i]'(by have := LN.out;omega),List.getElem?_eq_getElem _⟩
        obtain ⟨ad,Ax,cx,e1,x0,x1,hxc⟩ := ent_get (Kd.F_now (Kd.F_below RV.out IB.out.below)) hin hx
        subst e1
        have XC := Aside0.mk hxc
        have XO := Aside0.mk (K2.out x (List.mem_of_getElem? hx))
        have LD := Aside0.mk (show L2.drop i = x :: L2.drop (i + 1) by
          have hil : i < L2.length := by have := LN.out;omega
          rw [List.drop_eq_getElem_cons hil]
          rw [List.getElem?_eq_getElem hil] at hx
          rw [Option.some.inj hx])
        clear hx hxc
        obtain ⟨xr,xm⟩ := x
        simp only at *
        have mb := mul_bd XO.out.2.2.1 XO.out.2.2.2 FM.out
        have mw : IntKind.i64.wrap (xm * m) = xm * m := by rw [IntKind.wrap_i64];omega
        have mn := many_bd (r := xr) K1.out
        obtain ⟨mm,hmm⟩ : ∃ mm,manyD xr L1 = mm := ⟨_,rfl⟩
        have MM := Aside0.mk hmm
        rw [hmm] at mn
        have sw : IntKind.i64.wrap (mm + xm * m) = mm + xm * m := by rw [IntKind.wrap_i64];omega
        have XB := Aside0.mk (fun W (hb : Below wr.heap.size wr W) => XC.out.below hb)
        have VB := Aside0.mk ((H1.out.below B2.out).below IB.out.below)
        have LB1 := Aside0.mk (show L1.length ≤ 1000000 by have := LL1.out;omega)
        have J0 := Aside0.mk (NextW.refl wr)
        obtain ⟨ok,hok⟩ : ∃ ok,few (mm + xm * m) = ok := ⟨_,rfl⟩
        have OK := Aside0.mk (show okAdd xr (xm * m) L1 = ok by rw [okAdd_few K1.out,MM.out,hok])
        have FC2 := Aside0.mk (fun W => FC.out (mm + xm * m) W)
        rw [hok] at FC2
        clear hmm hok
        go_wp2_with (fail)
        go_region_held3 (fun w' => w'.cell? (ad.add (i * 2)) = some (.slice Ax xr.length cx) ∧ w'.cell? ⟨(ad.add (i * 2)).block,(ad.add (i * 2)).off + 1,none⟩ = some (.int .i64 xm)) (first | go_keep | exact ⟨by assumption,by assumption⟩) (first
          | (go_at_call 19;(with_reducible refine (rmany2 VB.out ?_ (XB.out _ ?_) S1.out K1.out LB1.out MM.out).mono ?_);exact J0.out.at_;exact J0.out.at_;rintro e w5 ⟨rfl,hb⟩;replace x0 := (hb.cell (World.block_lt_of_cell? _ _ x0)).trans x0;replace x1 := (hb.cell (World.block_lt_of_cell? _ _ x1)).trans x1;have J5 := Aside0.mk (J0.out.next hb);clear hb)
          | (go_at_call 66;(with_reducible refine (FC2.out _).mono ?_);rintro e w6 ⟨rfl,hd⟩;have hb := hd.below;replace x0 := (hb.cell (World.block_lt_of_cell? _ _ x0)).trans x0;replace x1 := (hb.cell (World.block_lt_of_cell? _ _ x1)).trans x1;have J6 := Aside0.mk (J5.out.next hb);clear hb hd))
        all_goals (
          have IB6 := Aside0.mk (IB.out.next J6.out.below)
          have AL2 := Aside0.mk (show allD m L2 L1 = (ok && allD m (L2.drop (i + 1)) L1) by
            rw [AL.out,LD.out]
            show (okAdd xr (xm * m) L1 && allD m (L2.drop (i + 1)) L1) = _
            rw [OK.out])
          clear AL OK x0 x1 mw sw mb mn
          cases ok with
          | true =>
            go_wp2_with (fail)
            go_roundw
            case rel => exact ⟨i + 1,by go_num,hin,⟨by rw [AL2.out];rfl⟩,IB6⟩
            case measure => simp [intOf];omega
          | false =>
            go_wp2_with (fail)
            go_ret
            have hr := RES.out
            rw [AL2.out] at hr
            obtain rfl : ((10 : Int),L1) = res := hr
            exact ⟨A1,c1,E1,rfl,(H1.out.below B2.out).below IB6.out.below,RefCh.same (B2.out.trans (IB6.out.below.mono B2.out.size))⟩)
      · have k0 : decide ((i : Int) < (n : Int)) = false := decide_eq_false (by omega)
        have k0' : decide (i < n) = false := decide_eq_false hin
        have hr := RES.out
        have hal := AL.out
        rw [List.drop_of_length_le (by have := LN.out;omega)] at hal
        rw [hal] at hr
        obtain rfl : ((0 : Int),mulD m L2 L1) = res := hr
        clear hal RES AL
        go_wp2_with (fail)
        have H3 := Aside0.mk ((H1.out.below B2.out).below IB.out.below)
        have RV3 := Aside0.mk (Kd.F_below RV.out IB.out.below)
        have B3 := Aside0.mk (B2.out.trans (IB.out.below.mono B2.out.size))
        have BS2 := Aside0.mk B2.out.size
        have WS := Aside0.mk (show w2.heap.size ≤ wr.heap.size from IB.out.below.size)
        clear k0 k0' hi hin IB RV B2
        go_loopw [9] (fun iv wx => ∃ i : Nat,iv = .int .i64 (i : Int) ∧ i ≤ n ∧ Aside0 (∃ A c L E,L.length ≤ L1.length + i ∧ SrtD L ∧ OkD L ∧ RefV wx g1 A c L E ∧ RefCh wr wx g1 E1 E ∧ mulD m L2 L1 = mulD m (L2.drop i) L)) (fun iv _ => n - (intOf iv).toNat)
        case atStart => exact ⟨0,rfl,Nat.zero_le _,⟨⟨A1,c1,L1,E1,Nat.le_refl _,S1.out,K1.out,H3.out,RefCh.same (Below.refl _ _),rfl⟩⟩⟩
        case round =>
          clear H3
          rename World => wx
          obtain ⟨i,rfl,hi,TT⟩ := hrel
          obtain ⟨A4,c4,L,E,hlen,hs,hk,hT,hch,hmu⟩ := TT.out
          have LL := Aside0.mk hlen
          have SR := Aside0.mk hs
          have OK := Aside0.mk hk
          have T4 := Aside0.mk hT
          have CH := Aside0.mk hch
          have MU := Aside0.mk hmu
          clear TT hlen hs hk hT hch hmu
          by_cases hin : i < n
          · have k0 : decide ((i : Int) < (n : Int)) = true := decide_eq_true (by omega)
            have k0' : decide (i < n) = true := decide_eq_true hin
            have p0 : (0 : Int) ≤ (i : Int) := by omega
            have p1 : (i : Int) < (n : Int) := by omega
            obtain ⟨x,hx⟩ : ∃ x,L2[i]? = some x := ⟨L2[i]'(by have := LN.out;omega),List.getElem?_eq_getElem _⟩
            have RX := Aside0.mk (fun W (hc : Ch (fun k => k = g1) wr W) => Kd.F_step RV3.out (W1 := W) (fun k hk hlt => hc.block k hlt (fun s => by
              subst s
              rcases hk.1 with q | q
              · exact NE.out q
              · have := GL.out;omega)))
            obtain ⟨ad,Ax,cx,e1,x0,x1,hxc⟩ := ent_get (Kd.F_now (RX.out wx CH.out.ch)) hin hx
            subst e1
            have XC := Aside0.mk hxc
            have XO := Aside0.mk (K2.out x (List.mem_of_getElem? hx))
            have LD := Aside0.mk (show L2.drop i = x :: L2.drop (i + 1) by
              have hil : i < L2.length := by have := LN.out;omega
              rw [List.drop_eq_getElem_cons hil]
              rw [List.getElem?_eq_getElem hil] at hx
              rw [Option.some.inj hx])
            have HX := Aside0.mk hx
            clear hx hxc
            obtain ⟨xr,xm⟩ := x
            simp only at *
            have mb := mul_bd XO.out.2.2.1 XO.out.2.2.2 FM.out
            have mw : IntKind.i64.wrap (xm * m) = xm * m := by rw [IntKind.wrap_i64];omega
            have XB := Aside0.mk (fun W (e : SameW wx W) => XC.out.below (e.below _))
            have LB1 := Aside0.mk (show L.length ≤ 1000000 by have := LL.out;have := LL1.out;omega)
            have XN := Aside0.mk (show (ad.add (i * 2)).block ≠ g1 ∧ (ad.add (i * 2)).block < wx.heap.size by
              have h1 := Kd.F_in (RX.out wx CH.out.ch) rfl (by omega) (by decide)
              rw [add_block]
              refine ⟨fun s => ?_,Nat.lt_of_lt_of_le h1.2 (Nat.le_trans WS.out CH.out.ch.size)⟩
              rcases h1.1 with q | q
              · exact NE.out (s ▸ q)
              · have := GL.out;omega)
            have X0 := Aside0.mk (And.intro x0 x1)
            go_wp2_with (fail)
            go_region_held3 (fun w' => w'.cell? (ad.add (i * 2)) = some (.slice Ax xr.length cx) ∧ w'.cell? ⟨(ad.add (i * 2)).block,(ad.add (i * 2)).off + 1,none⟩ = some (.int .i64 xm)) (first | go_keep | exact ⟨by assumption,by assumption⟩) (first
              | (go_at_call 17;(with_reducible refine (radd2 (xm * m) T4.out ?_ (XB.out _ ?_) SR.out OK.out LB1.out).mono ?_);exact ⟨rfl,rfl,rfl,rfl⟩;exact ⟨rfl,rfl,rfl,rfl⟩;rintro e w5 ⟨q,A5,c5,E5,rfl,hv,hc⟩;replace x0 := (cell_of (hc.ch.block _ XN.out.2 XN.out.1)).trans X0.out.1;replace x1 := (cell_of (a := ⟨(ad.add (i * 2)).block,(ad.add (i * 2)).off + 1,none⟩) (hc.ch.block _ XN.out.2 XN.out.1)).trans X0.out.2;have T5 := Aside0.mk hv;have CH5 := Aside0.mk (CH.out.trans hc);clear hv hc))
            all_goals (
              have I5 := addD_inv (r := xr) (m := xm * m) SR.out OK.out
              have L5 := addD_len xr (xm * m) SR.out
              have I5' := Aside0.mk I5
              have L5' := Aside0.mk L5
              clear I5 L5 x0 x1 mb mw
              go_wp2_with (fail)
              go_roundw
              case rel => exact ⟨i + 1,by go_num,hin,⟨⟨A5,c5,(addD xr (xm * m) L).2,E5,by have := L5'.out;have := LL.out;omega,I5'.out.1,I5'.out.2,T5.out,CH5.out,by rw [MU.out,LD.out];rfl⟩⟩⟩
              case measure => simp [intOf];omega)
          · have k0 : decide ((i : Int) < (n : Int)) = false := decide_eq_false (by omega)
            have k0' : decide (i < n) = false := decide_eq_false hin
            go_wp2_with (fail)
            go_ret
            have hm := MU.out
            rw [List.drop_of_length_le (by have := LN.out;omega)] at hm
            have R1 : mulD m L2 L1 = L := hm
            rw [R1]
            first
              | exact ⟨A4,c4,E,rfl,T4.out,(RefCh.same B3.out).trans CH.out⟩
              | exact ⟨rfl,A4,c4,E,T4.out,(RefCh.same B3.out).trans CH.out⟩
              | exact ⟨rfl,A4,c4,T4.out,E,(RefCh.same B3.out).trans CH.out⟩
end Go.Proofs.Ythmbfcfomcaaaaa.Z
end
section
namespace Go.Proofs.Ythmbfcfomcaaaaa.Z
set_option linter.unusedVariables false
set_option linter.unusedSimpArgs false
open Go.RowKit Go.Proofs.YthmbfcfomcaaaaaW.PrintWords Go.Proofs.YthmbfcfomcaaaaaW.PrintLast Go.Proofs.YthmbfcfomcaaaaaW.PrintMore Go.Proofs.Ythmbfcfomcaaaaa.Cmp
theorem copy_step {pre : List En} {e : En} (hs : SrtD (pre ++ [e])) (hr : rright e.f0 = true) (h0 : e.f1 ≠ 0) (hf : few e.f1 = true) : addD e.f0 e.f1 pre = (0,pre ++ [e]) := by
  have hlt : ∀ y ∈ pre,rcmp y.f0 e.f0 < 0 := fun y hy => (List.pairwise_append.1 hs).2.2 y hy e (by simp)
  have hgt : ∀ y ∈ pre,0 < rcmp e.f0 y.f0 := fun y hy => by have := hlt y hy;have := rcmp_anti y.f0 e.f0;omega
  have hm : manyD e.f0 pre = 0 := by unfold manyD;rw [fnd_none (fun y hy => by have := hgt y hy;omega)]
  have ho : okAdd e.f0 e.f1 pre = true := by
    have := few_iff.1 hf
    unfold okAdd
    rw [hm,Int.zero_add,hf,decide_eq_true (by omega),decide_eq_true (by omega)]
    rfl
  rw [add_some hr ho,hm,Int.zero_add]
  unfold putD loD hiD
  rw [if_neg h0,filter_all (fun y hy => decide_eq_true (hlt y hy)),filter_none (fun y hy => decide_eq_false (by have := hgt y hy;omega)),List.append_nil]
def copyF (L0 : List En) (l : List En) : List En := l.foldl (fun L e => (addD e.f0 e.f1 L).2) L0
theorem copyF_len : ∀ (l L0 : List En),SrtD L0 → OkD L0 → (copyF L0 l).length ≤ L0.length + l.length
  | [],L0,_,_ => Nat.le_refl _
  | e :: l,L0,hs,hk => by
    obtain ⟨i1,i2⟩ := addD_inv (r := e.f0) (m := e.f1) hs hk
    have h1 := copyF_len l _ i1 i2
    have h2 := addD_len e.f0 e.f1 hs
    simp only [copyF,List.foldl_cons,List.length_cons] at *
    omega
theorem copyF_snoc (L0 l : List En) (e : En) : copyF L0 (l ++ [e]) = (addD e.f0 e.f1 (copyF L0 l)).2 := by unfold copyF;rw [List.foldl_append];rfl
theorem copyF_all : ∀ (l pre : List En),SrtD (pre ++ l) → OkD l → copyF pre l = pre ++ l
  | [],pre,_,_ => (List.append_nil pre).symm
  | e :: l,pre,hs,hk => by
    have h1 := hk e (by simp)
    have hs2 : SrtD ((pre ++ [e]) ++ l) := by rw [List.append_assoc];exact hs
    have h2 := copy_step (List.pairwise_append.1 hs2).1 h1.1 h1.2.1 (few_iff.2 h1.2.2)
    show copyF (addD e.f0 e.f1 pre).2 l = _
    rw [h2]
    show copyF (pre ++ [e]) l = _
    rw [copyF_all l (pre ++ [e]) hs2 (fun x hx => hk x (List.mem_cons_of_mem _ hx)),List.append_assoc]
    rfl
end Go.Proofs.Ythmbfcfomcaaaaa.Z
end
section
namespace Go.Proofs.Ythmbfcfomcaaaaa.Z
set_option linter.unusedVariables false
set_option linter.unusedSimpArgs false
open Go.RowKit Go.Shelf Go.Proofs.YthmbfcfomcaaaaaW.PrintWords Go.Proofs.YthmbfcfomcaaaaaW.PrintLast Go.Proofs.YthmbfcfomcaaaaaW.PrintMore Go.Proofs.Ythmbfcfomcaaaaa.Cmp
attribute [local go_sem] Oper.semAt_some
def CopyI (N c B : Nat) (L : List En) (W : World) : Prop := W.heap[B]? = some (.cells #[.pointer (some ⟨c,0,none⟩)] 26 (0,0)) ∧ ∃ t D,docT t = L ∧ One N W c t D ∧ ¬ BagOwn c t D B
theorem NdIn.node_cells {w : World} {D : Nat → Prop} {t : Tr} (h : t.In w D) : ∀ k ∈ t.ids,∃ cs q,w.heap[k]? = some (.cells cs q (0,0)) := fun k hk => by
  obtain ⟨x,hx,rfl⟩ := List.mem_map.1 hk
  obtain ⟨l,r,hh,hn,_⟩ := h.node_of x hx
  exact ⟨_,_,hn⟩
theorem own_copy (N c B0 : Nat) {α : Type} (f : List α → List En) (B : Nat) : OwnFrom B (fun pre W => CopyI N c B0 (f pre) W) := by
  rintro pre W W' row ⟨hb,t,D,hd,hO,hn⟩ hg hr
  have hne : ∀ {k : Nat} {cs : Array Value} {q : TypeId},W.heap[k]? = some (.cells cs q (0,0)) → row ≠ some k := fun {k cs q} hk e => by
    obtain ⟨_,o,ho,hc⟩ := hr k e
    rw [hk] at ho
    cases ho
    cases hc
  refine ⟨blk_grown hb hg (fun e => hne hb e.symm),t,D,hd,⟨hO.bag.keep (ch_grown (S := fun k => row = some k) hg (fun k e => e)) (fun k s ho => ?_),hO.own⟩,hn⟩
  rcases ho with q | q | q
  · subst q;exact hne hO.bag.blk s
  · obtain ⟨cs,q',hc⟩ := NdIn.node_cells hO.bag.tree.inn k q;exact hne hc s
  · obtain ⟨cs,q',hc⟩ := hO.bag.dcell k q;exact hne hc s
set_option maxRecDepth 100000 in
set_option maxHeartbeats 4000000 in
theorem bag_copy {D : Nat → Prop} (b : Nat) (t : Tr) (w : World) (h : BagAt w b t D) (hs : t.size ≤ 1000000) :
    Calls Try.prog 30 #[.pointer (some ⟨b,0,none⟩)] w fun e w' => ∃ c t' D',e = .returned (.pointer (some ⟨c,0,none⟩)) ∧ docT t' = docT t ∧ One w.heap.size w' c t' D' ∧ Below w.heap.size w w' := by
  have HA := Aside0.mk h
  have HS := Aside0.mk hs
  have c0 := blk_cell h.blk 0
  simp only [bcells,List.getElem?_toArray,List.getElem?_cons_zero] at c0
  have NALL := Aside0.mk (fun w' => nd_all t w')
  have STOPS := Aside0.mk (fun Bt w' N hBt hn hc hT => nd_all_stops (D := D) 2 Bt N t w' hBt hn hc hT)
  obtain ⟨q0,hq0⟩ := ptr_case t
  rw [hq0] at c0 NALL STOPS
  clear h hs hq0
  have hdd : ∀ k : Nat,(Fence.wide.depth.isSome = true → 1 ≤ k) := fun k h => by cases h
  have hwA : Fence.wide.fn 76 := trivial
  have hwN : Fence.wide.fn 15 := trivial
  have hwC : Fence.wide.fn 16 := trivial
  refine (callsIn_wide (n := 3)).1 ?_
  refine callsIn_of_wp_marks Try.func30 rfl trivial ?_ rfl
  simp only [Try.ntmps30,List.size_toArray,List.length_cons,List.length_nil,Nat.reduceAdd,Nat.reduceSub,Array.replicate_succ,Array.replicate_zero,List.push_toArray,List.append_toArray,List.nil_append,List.cons_append]
  gi_wp2_with (fail)
  try refine ⟨hdd _,?_⟩
  refine (callsIn_wide.2 (bag_new1 w)).mono ?_
  rintro e w1 ⟨c,rfl,hC,hb⟩
  have HC1 := Aside0.mk hC
  have B1 := Aside0.mk hb
  replace c0 := (hb.cell (World.block_lt_of_cell? w _ c0)).trans c0
  have c1 : (w1.alloc (.cells #[.pointer (some ⟨c,0,none⟩)] 26)).cell? ⟨b,0,none⟩ = some (.pointer q0) := ((below_alloc (Below.refl w1.heap.size w1) _).cell (World.block_lt_of_cell? w1 _ c0)).trans c0
  clear hC hb
  gi_wp2_with (fail)
  try refine ⟨hdd _,?_⟩
  refine (callsIn_wide.2 (NALL.out _)).mono ?_
  rintro e w' ⟨rfl,rfl⟩
  gi_wp2_with (fail)
  have W0 : Below w1.heap.size w1 ((w1.alloc (.cells #[.pointer (some ⟨c,0,none⟩)] 26)).alloc (.cells #[.pointer q0] 81)) := below_alloc (below_alloc (Below.refl _ _) _) _
  have hbx0 : ((w1.alloc (.cells #[.pointer (some ⟨c,0,none⟩)] 26)).alloc (.cells #[.pointer q0] 81)).heap[w1.heap.size]? = some (.cells #[.pointer (some ⟨c,0,none⟩)] 26 (0,0)) := blk_alloc (blk_new w1 _) _
  have hbn : ((w1.alloc (.cells #[.pointer (some ⟨c,0,none⟩)] 26)).alloc (.cells #[.pointer q0] 81)).cell? ⟨w1.heap.size + 1,0,none⟩ = some (.pointer q0) := by
    have := blk_new (w1.alloc (.cells #[.pointer (some ⟨c,0,none⟩)] 26)) (.cells #[.pointer q0] 81)
    rw [World.size_alloc] at this
    exact (blk_cell this 0).trans rfl
  have hB0 : Below w.heap.size w ((w1.alloc (.cells #[.pointer (some ⟨c,0,none⟩)] 26)).alloc (.cells #[.pointer q0] 81)) := B1.out.trans (W0.mono B1.out.size)
  have hT : InB w.heap.size ((w1.alloc (.cells #[.pointer (some ⟨c,0,none⟩)] 26)).alloc (.cells #[.pointer q0] 81)) D t := ⟨(HA.out.below hB0).tree.inn,HA.out.lt.2.1,HA.out.lt.2.2⟩
  have WLE := Aside0.mk (show w.heap.size ≤ w1.heap.size from B1.out.size)
  have CI0 : CopyI w.heap.size c w1.heap.size [] ((w1.alloc (.cells #[.pointer (some ⟨c,0,none⟩)] 26)).alloc (.cells #[.pointer q0] 81)) := ⟨hbx0,.nil,_,rfl,HC1.out.below W0,fun ho => absurd (HC1.out.bag.own_lt _ ho) (Nat.lt_irrefl _)⟩
  refine wpIn_rangeFunc_ownG (F := Fence.wide) (n := 3) rfl (by omega) (gf := 97) (lb := #[.pointer (some ⟨w1.heap.size + 1,0,none⟩)]) rfl trivial (enters_of Try.func97 (by kernel_rfl) rfl) (STOPS.out (w1.heap.size + 1) _ w.heap.size (by simp) (by simp;have := WLE.out;omega) hbn hT) belowK_t (belowK_b (by simp;have := WLE.out;omega)) (Below.refl _ _) (fun _ => rfl)
    (fun pre W => CopyI w.heap.size c w1.heap.size (copyF [] (pre.map (fun y => docI y.1))) W ∧ Below w.heap.size w W) (fun _ _ _ => False)
    (OwnFrom.and (own_copy w.heap.size c w1.heap.size (fun pre : List { x : Nat × Ent // x ∈ t.items } => copyF [] (pre.map (fun y => docI y.1))) _) (ownFrom_below (Nat.le_refl _) (by simp;have := WLE.out;omega))) (fun _ _ _ _ _ hs _ _ => hs)
    ⟨CI0,hB0⟩
    (fun x => { tmps := #[.pointer (some ⟨b,0,none⟩),undef,.pointer none,.pointer (some ⟨w1.heap.size,0,none⟩),.pointer (some ⟨x.1.1,0,none⟩),.pointer (some ⟨b,0,none⟩),.bool false,.pointer (some ⟨c,0,none⟩),.pointer (some ⟨b,0,none⟩),.pointer (some ⟨b,0,none⟩),.pointer (some ⟨b,0,none⟩),.pointer q0,.func (.func 97) #[] #[.pointer (some ⟨w1.heap.size + 1,0,none⟩)],.pointer (some ⟨x.1.1,0,none⟩),undef,undef,undef,undef,undef,undef,undef,undef,undef,undef,undef,undef,undef],defers := [] }) ?assign ?body ?done ?stop
  case assign =>
    intro l x W K hK
    simp only [ptrOf]
    gi_wp2
    exact hK
  case body =>
    rintro l pre ⟨x,hx⟩ W ⟨⟨hbx,tc,Dc,hdc,hOc,hnb⟩,hB⟩ hlt
    obtain ⟨bx,ex⟩ := x
    obtain ⟨tl,tr,k,hnx,hex⟩ := (HA.out.below hB).tree.inn.node_of _ hx
    obtain ⟨L,hL⟩ : ∃ L,copyF [] (pre.map (fun y => docI y.1)) = L := ⟨_,rfl⟩
    have HL := Aside0.mk hL
    change docT tc = copyF [] (pre.map (fun y => docI y.1)) at hdc
    rw [hL] at hdc
    have LPR := Aside0.mk (show L.length < 1000000 by have h1 := HS.out;unfold Tr.size at h1;have h2 := copyF_len (pre.map (fun y => docI y.1)) [] List.Pairwise.nil ok_nil;rw [hL,List.length_map,List.length_nil] at h2;omega)
    clear hL
    have BX1 := Aside0.mk (show W.drew.heap[w1.heap.size]? = some (.cells #[.pointer (some ⟨c,0,none⟩)] 26 (0,0)) from hbx)
    have NX1 := Aside0.mk (show W.drew.heap[bx]? = some (.cells (ncells ex tl tr k) 90 (0,0)) from hnx)
    have KO := Aside0.mk (KeepsOthers.drew W)
    have HDW := Aside0.mk (show Below w.heap.size W W.drew from below_drew1 (Below.refl _ _))
    have LTB := Aside0.mk (blk_lt BX1.out)
    have HO := Aside0.mk (hOc.below (below_drew1 (Below.refl _ _)))
    have HD := Aside0.mk hdc
    have HNB := Aside0.mk hnb
    have HBW := Aside0.mk (below_drew1 hB)
    have ADD := Aside0.mk (add1 (q := (addD ex.row ex.many L).1) (L' := (addD ex.row ex.many L).2) ex.many HO.out (show w.heap.size ≤ W.drew.heap.size from hB.size) (hex.c.below (below_drew1 (Below.refl _ _))) hdc (by have := LPR.out;omega) rfl)
    clear hbx hnx hB hex hOc hdc hnb
    gi_wp2
    refine startR_ (m := 12) (S := RowsS w1.heap.size bx (.pointer (some ⟨c,0,none⟩)) ex) (ds := [11]) #[false,false,false,false,false,false,false,false,false,false,false,false] (by kernel_rfl) (noDefer_at (by kernel_rfl)) (fun ⟨_,_,h⟩ => h) rfl rfl (heldS BX1.out NX1.out) (fun hHeld => ?_)
    generalize W.drew = W1 at *
    refine pure_ (i := 1) (N := some 15) (v := ?_) (a' := ?_) #[false,true,false,false,false,false,false,false,false,false,false,false] rfl rfl (by kernel_rfl) (fun _ _ _ h => h) (Or.inl ⟨by rfl,?_⟩) ?_ ?_
    rotate_left
    · intro w'
      go_simp
      with_reducible rfl
    rotate_left
    · simp only [Act.put,zA,zB,zC,i64_w,i32_w]
      rfl
    refine pure_ (i := 2) (N := some 16) (v := ?_) (a' := ?_) #[false,true,true,false,false,false,false,false,false,false,false,false] rfl rfl (by kernel_rfl) (fun _ _ _ h => h) (Or.inl ⟨by rfl,?_⟩) ?_ ?_
    rotate_left
    · intro w'
      go_simp
      with_reducible rfl
    rotate_left
    · simp only [Act.put,zA,zB,zC,i64_w,i32_w]
      rfl
    refine pure_ (i := 3) (N := some 17) (v := ?_) (a' := ?_) #[false,true,true,true,false,false,false,false,false,false,false,false] rfl rfl (by kernel_rfl) (fun _ _ _ h => h) (Or.inl ⟨by rfl,?_⟩) ?_ ?_
    rotate_left
    · intro w'
      go_simp
      with_reducible rfl
    rotate_left
    · simp only [Act.put,zA,zB,zC,i64_w,i32_w]
      rfl
    refine pure_ (i := 4) (N := some 18) (v := ?_) (a' := ?_) #[false,true,true,true,true,false,false,false,false,false,false,false] rfl rfl (by kernel_rfl) (fun _ _ _ h => h) (Or.inl ⟨by rfl,?_⟩) ?_ ?_
    rotate_left
    · intro w'
      go_simp
      with_reducible rfl
    rotate_left
    · simp only [Act.put,zA,zB,zC,i64_w,i32_w]
      rfl
    refine pure_ (i := 6) (N := some 20) (v := ?_) (a' := ?_) #[false,true,true,true,true,false,true,false,false,false,false,false] rfl rfl (by kernel_rfl) (fun _ _ _ h => h) (Or.inl ⟨by rfl,?_⟩) ?_ ?_
    rotate_left
    · intro w'
      go_simp
      with_reducible rfl
    rotate_left
    · simp only [Act.put,zA,zB,zC,i64_w,i32_w]
      rfl
    refine pure_ (i := 7) (N := some 21) (v := ?_) (a' := ?_) #[false,true,true,true,true,false,true,true,false,false,false,false] rfl rfl (by kernel_rfl) (fun _ _ _ h => h) (Or.inl ⟨by rfl,?_⟩) ?_ ?_
    rotate_left
    · intro w'
      go_simp
      with_reducible rfl
    rotate_left
    · simp only [Act.put,zA,zB,zC,i64_w,i32_w]
      rfl
    refine pure_ (i := 8) (N := some 22) (v := ?_) (a' := ?_) #[false,true,true,true,true,false,true,true,true,false,false,false] rfl rfl (by kernel_rfl) (fun _ _ _ h => h) (Or.inl ⟨by rfl,?_⟩) ?_ ?_
    rotate_left
    · intro w'
      go_simp
      with_reducible rfl
    rotate_left
    · simp only [Act.put,zA,zB,zC,i64_w,i32_w]
      rfl
    refine pure_ (i := 9) (N := some 23) (v := ?_) (a' := ?_) #[false,true,true,true,true,false,true,true,true,true,false,false] rfl rfl (by kernel_rfl) (fun _ _ _ h => h) (Or.inl ⟨by rfl,?_⟩) ?_ ?_
    rotate_left
    · intro w'
      go_simp
      with_reducible rfl
    rotate_left
    · simp only [Act.put,zA,zB,zC,i64_w,i32_w]
      rfl
    refine take_ (i := 0) (N := some 14) (v := ?_) (a' := ?_) #[true,true,true,true,true,false,true,true,true,true,false,false] rfl rfl (by kernel_rfl) (fun _ _ _ h => h) (Or.inl ⟨by rfl,?_⟩) hHeld ?_ ?_
    rotate_left
    · rintro w' ⟨s0,s1,s2⟩
      go_simp
      with_reducible rfl
    rotate_left
    · simp only [Act.put,zA,zB,zC,i64_w,i32_w]
      rfl
    refine take_ (i := 5) (N := some 19) (v := ?_) (a' := ?_) #[true,true,true,true,true,true,true,true,true,true,false,false] rfl rfl (by kernel_rfl) (fun _ _ _ h => h) (Or.inl ⟨by rfl,?_⟩) hHeld ?_ ?_
    rotate_left
    · rintro w' ⟨s0,s1,s2⟩
      go_simp
      with_reducible rfl
    rotate_left
    · simp only [Act.put,zA,zB,zC,i64_w,i32_w]
      rfl
    refine take_ (i := 10) (N := some 24) (v := ?_) (a' := ?_) #[true,true,true,true,true,true,true,true,true,true,true,false] rfl rfl (by kernel_rfl) (fun _ _ _ h => h) (Or.inl ⟨by rfl,?_⟩) hHeld ?_ ?_
    rotate_left
    · rintro w' ⟨s0,s1,s2⟩
      go_simp
      with_reducible rfl
    rotate_left
    · simp only [Act.put,zA,zB,zC,i64_w,i32_w]
      rfl
    refine last_ (i := 11) (N := some 25) #[true,true,true,true,true,true,true,true,true,true,true,true] rfl rfl (by kernel_rfl) (by decide) (fun K hK => ?_)
    refine goes_ Try.func16 (by kernel_rfl) rfl #[.pointer (some ⟨c,0,none⟩),.slice ex.A ex.row.length ex.c,.int .i64 ex.many] (by rfl) rfl rfl (by (try simp only [List.map_toArray,List.map_cons,List.map_nil]);first | done | rfl) ?_
    refine (ADD.out.mono ?_)
    rintro e w2 ⟨t2,D2,rfl,hd2,hO2,hb2,hoff⟩
    refine ⟨_,rfl,?_⟩
    refine hK.out _ _ ?_
    clear hK K
    refine done_ (by kernel_rfl) ?_
    have KO2 : KeepsOthers W1 w2 := ⟨hb2.size,fun k o hk hc => by
      have hlt := (Array.getElem?_eq_some_iff.1 hk).1
      by_cases ho : BagOwn c tc Dc k
      · exfalso
        rcases ho with q | q | q
        · rw [q,HO.out.bag.blk] at hk;cases hk;cases hc
        · obtain ⟨cs,q',hq⟩ := NdIn.node_cells HO.out.bag.tree.inn k q;rw [hq] at hk;cases hk;cases hc
        · obtain ⟨cs,q',hq⟩ := HO.out.bag.dcell k q;rw [hq] at hk;cases hk;cases hc
      · exact (hoff k hlt ho).1.trans hk⟩
    show KeepsFrom _ _ _ ∧ Below _ _ _ ∧ CopyI _ _ _ _ _ ∧ Below _ _ _
    refine ⟨(KO.out.trans KO2).from _,HDW.out.trans hb2,⟨(hoff _ LTB.out HNB.out).1.trans BX1.out,t2,D2,?_,hO2,(hoff _ LTB.out HNB.out).2⟩,HBW.out.trans hb2⟩
    rw [hd2,List.map_append,List.map_cons,List.map_nil,copyF_snoc,HL.out]
    rfl
  case done =>
    rintro D2 ys W hD2 hys ⟨⟨hbx,tc,Dc,hdc,hOc,hnb⟩,hB⟩ hK
    have hd : ys.map (fun y => docI y.1) = docT t := by
      have h1 := congrArg (List.map docI) hys
      rw [List.map_map] at h1
      exact h1.trans (docT_items t).symm
    change docT tc = copyF [] (ys.map (fun y => docI y.1)) at hdc
    rw [hd,copyF_all (docT t) [] HA.out.srtD HA.out.ok] at hdc
    have y0 := (blk_cell hbx 0).trans rfl
    have DC := Aside0.mk hdc
    have OC := Aside0.mk hOc
    have HK := Aside0.mk hK
    have HD2 := Aside0.mk hD2
    have HBW := Aside0.mk hB
    clear hd hdc hOc hK hD2 hB hbx hnb hys
    gi_wp2
    refine ⟨by simp,.inl ⟨_,_,rfl,run_takeDeferred HK.out,?_⟩⟩
    have hg := grownBy_putObj' W D2 (.deferred none)
    have hO : One w.heap.size (W.putObj D2 (.deferred none)) c tc Dc := ⟨OC.out.bag.keep (ch_grown (S := fun k => some D2 = some k) hg (fun k e => e)) (fun k s ho => by
      injection s with s
      have hkk := HK.out
      rw [s] at hkk
      rcases ho with q | q | q
      · rw [q,OC.out.bag.blk] at hkk;cases hkk
      · obtain ⟨cs,q',hq⟩ := NdIn.node_cells OC.out.bag.tree.inn k q;rw [hq] at hkk;cases hkk
      · obtain ⟨cs,q',hq⟩ := OC.out.bag.dcell k q;rw [hq] at hkk;cases hkk),OC.out.own⟩
    exact ⟨_,results_tmp rfl _ _ _,c,tc,Dc,rfl,by rw [DC.out];rfl,hO,HBW.out.trans (belowK_b (w := w) (Nat.le_refl _) W D2 _ _ (by have h1 := HD2.out;have h2 := WLE.out;have h3 := W0.size;exact Nat.le_trans (Nat.le_trans h2 h3) h1) HK.out rfl rfl)⟩
  case stop =>
    rintro D2 c pre W _ _ h _
    exact h.elim
end Go.Proofs.Ythmbfcfomcaaaaa.Z
end
section
namespace Go.Proofs.Ythmbfcfomcaaaaa.Z
set_option linter.unusedVariables false
set_option linter.unusedSimpArgs false
open Go.RowKit Go.Proofs.YthmbfcfomcaaaaaW.PrintWords Go.Proofs.YthmbfcfomcaaaaaW.PrintLast Go.Proofs.YthmbfcfomcaaaaaW.PrintMore Go.Proofs.Ythmbfcfomcaaaaa.Cmp
theorem bool_iff {p : Prop} {r s : Bool} (h : r = true ↔ p) (k : s = true ↔ p) : r = s := by
  cases r <;> cases s <;> simp_all
set_option maxHeartbeats 8000000 in
set_option maxRecDepth 100000 in
theorem bag_merges (A0 A1 : Option Addr) (n n1 c0 c1 : Nat) (l l1 : List En) (m : Int) (w : World) (hl : Kd.C k34 w A0 n l) (hc : n ≤ c0) (hl1 : Kd.C k34 w A1 n1 l1) (hc1 : n1 ≤ c1) :
    Calls Try.prog 5 #[.slice A0 n c0,.slice A1 n1 c1,.int .i64 m] w fun e w' => e = .returned (.bool true) ∧ Below w.heap.size w w' := by
  have HL := Aside0.mk hl
  have HL1 := Aside0.mk hl1
  have FW := Aside0.mk (lfew_at A0 n c0 l w hl hc)
  have FW1 := Aside0.mk (fun W (hb : Below w.heap.size w W) => lfew_at A1 n1 c1 l1 W (Kd.C_below hl1 hb) hc1)
  obtain ⟨N,hN⟩ : ∃ N,w.heap.size = N := ⟨_,rfl⟩
  have I0 := Aside0.mk (NextW.refl w)
  have HN := Aside0.mk hN
  rw [hN] at I0 FW1 ⊢
  have KE := Aside0.mk (fun W (h : NextW N w W) => known_end W N w h)
  clear hl hl1 hc hc1 hN
  go_enter Try.func5,Try.ntmps5
  go_wp2_with (fail)
  refine FW.out.mono ?_
  rintro e w1 ⟨fb,rfl,hfb,hb⟩
  have FB := Aside0.mk hfb
  have I1 := Aside0.mk (I0.out.next hb)
  clear hfb hb I0 FW
  cases fb with
  | false =>
    go_wp2_with (fail)
    refine (KE.out _ I1.out).mono ?_
    rintro e w2 ⟨rfl,hb⟩
    go_wp2_with (fail)
    go_ret
    exact ⟨rfl,hb⟩
  | true =>
  have hn := FB.out rfl
  clear FB
  go_wp2_with (fail)
  refine (FW1.out _ I1.out.at_).mono ?_
  rintro e w2 ⟨fb,rfl,hfb,hb⟩
  have FB := Aside0.mk hfb
  have I2 := Aside0.mk (I1.out.next hb)
  clear hfb hb I1 FW1
  cases fb with
  | false =>
    go_wp2_with (fail)
    refine (KE.out _ I2.out).mono ?_
    rintro e w2 ⟨rfl,hb⟩
    go_wp2_with (fail)
    go_ret
    exact ⟨rfl,hb⟩
  | true =>
  have hn1 := FB.out rfl
  clear FB
  go_wp2_with (fail)
  refine (bag_of A0 n c0 l w2 (Kd.C_below HL.out (HN.out ▸ I2.out.below)) (by omega)).mono ?_
  rintro e w3 ⟨pa,qa,La,ha,rfl,hb3,hpa,hpa0⟩
  have I3 := Aside0.mk (I2.out.next hb3)
  go_wp2_with (fail)
  refine (bag_of A1 n1 c1 l1 w3 (Kd.C_below HL1.out (HN.out ▸ I3.out.below)) (by omega)).mono ?_
  rintro e w4 ⟨pb,qb,Lb,hb,rfl,hb4,hpb,hpb0⟩
  have I4 := Aside0.mk (I3.out.next hb4)
  go_wp2_with (fail)
  refine (ref_of A0 n c0 l w4 (Kd.C_below HL.out (HN.out ▸ I4.out.below)) (by omega)).mono ?_
  rintro e w5 ⟨px,qx,Lx,hx,rfl,hb5,hpx,hpx0⟩
  obtain ⟨rfl,rfl⟩ : qa = qx ∧ La = Lx := by rw [ha] at hx;injection hx with h1 h2;exact ⟨h1,h2⟩
  have I5 := Aside0.mk (I4.out.next hb5)
  go_wp2_with (fail)
  refine (ref_of A1 n1 c1 l1 w5 (Kd.C_below HL1.out (HN.out ▸ I5.out.below)) (by omega)).mono ?_
  rintro e w6 ⟨py,qy,Ly,hy,rfl,hb6,hpy,hpy0⟩
  obtain ⟨rfl,rfl⟩ : qb = qy ∧ Lb = Ly := by rw [hb] at hy;injection hy with h1 h2;exact ⟨h1,h2⟩
  have I6 := Aside0.mk (I5.out.next hb6)
  have NW2 := Aside0.mk I2.out.le
  have NW4 := Aside0.mk I4.out.le
  have PA := Aside0.mk hpa
  have PB := Aside0.mk hpb
  have PX := Aside0.mk hpx
  have PY := Aside0.mk hpy
  have PA0 := Aside0.mk hpa0
  have PB0 := Aside0.mk hpb0
  have PX0 := Aside0.mk hpx0
  have PY0 := Aside0.mk hpy0
  have OA := Aside0.mk ha
  have OB := Aside0.mk hb
  have B4 := Aside0.mk hb4
  have B5 := Aside0.mk hb5
  have B6 := Aside0.mk hb6
  clear hpa hpb hpx hpy hpa0 hpb0 hpx0 hpy0 ha hb hx hy hb3 hb4 hb5 hb6 I2 I3 I4 I5
  by_cases hqa : qa = 0
  · subst hqa
    obtain ⟨a,ta,Da,rfl,hda,hla,hA⟩ := PA0.out rfl
    obtain ⟨gx,Ax,cx,Ex,rfl,_,hsx,hkx,hX⟩ := PX0.out rfl
    by_cases hqb : qb = 0
    · subst hqb
      obtain ⟨b,tb,Db,rfl,hdb,hlb,hB⟩ := PB0.out rfl
      obtain ⟨gy,Ay,cy,Ey,rfl,_,hsy,hky,hY⟩ := PY0.out rfl
      have DTA := Aside0.mk hda
      have DTB := Aside0.mk hdb
      have LA := Aside0.mk (show La.length ≤ 120 by omega)
      have LB := Aside0.mk (show Lb.length ≤ 120 by omega)
      have SX := Aside0.mk hsx
      have KX := Aside0.mk hkx
      have SY := Aside0.mk hsy
      have KY := Aside0.mk hky
      have HA6 := Aside0.mk (((hA.below B4.out).below B5.out).below B6.out)
      have HB6 := Aside0.mk ((hB.below B5.out).below B6.out)
      have HX6 := Aside0.mk (hX.below B6.out)
      have HY6 := Aside0.mk hY
      have LTA := Aside0.mk (show ∀ k,BagOwn a ta Da k → k < w3.heap.size from hA.bag.own_lt)
      have LTB := Aside0.mk (show ∀ k,BagOwn b tb Db k → k < w4.heap.size from hB.bag.own_lt)
      have GEB := Aside0.mk (show ∀ k,BagOwn b tb Db k → w3.heap.size ≤ k from hB.own)
      have GX := Aside0.mk (show w4.heap.size ≤ gx ∧ gx < w5.heap.size ∧ ∀ k,Ex k → w4.heap.size ≤ k from ⟨hX.g_le,hX.ref.g_lt,hX.e_le⟩)
      have GY := Aside0.mk (show w5.heap.size ≤ gy ∧ gy < w6.heap.size ∧ ∀ k,Ey k → w5.heap.size ≤ k from ⟨hY.g_le,hY.ref.g_lt,hY.e_le⟩)
      have SZ := Aside0.mk (show w3.heap.size ≤ w4.heap.size ∧ w4.heap.size ≤ w5.heap.size ∧ w5.heap.size ≤ w6.heap.size from ⟨B4.out.size,B5.out.size,B6.out.size⟩)
      have NA3 := Aside0.mk (show ∀ k,BagOwn a ta Da k → N ≤ k from fun k hk => Nat.le_trans NW2.out (hA.own k hk))
      have CX := Aside0.mk (show (mergeD m Lb La).2.length ≤ 1000 by have := merge_len m Lb La (by rw [← hda];exact hA.bag.srtD) (by rw [← hda];exact hA.bag.ok);omega)
      clear hda hdb hla hlb hA hB hX hY hsx hkx hsy hky PA PB PX PY PA0 PB0 PX0 PY0 B4 B5 B6
      go_wp2_with (fail)
      refine (bag_copy a ta w6 HA6.out.bag (by rw [← doc_len,DTA.out];have := LA.out;omega)).mono ?_
      rintro e w7 ⟨c,tc,Dc,rfl,hdc,hC,hb⟩
      have DTC := Aside0.mk (hdc.trans DTA.out)
      have HC7 := Aside0.mk hC
      have GEC := Aside0.mk (show ∀ k,BagOwn c tc Dc k → w6.heap.size ≤ k from hC.own)
      have HA7 := Aside0.mk (HA6.out.below hb)
      have HB7 := Aside0.mk (HB6.out.below hb)
      have HX7 := Aside0.mk (HX6.out.below hb)
      have HY7 := Aside0.mk (HY6.out.below hb)
      have I7 := Aside0.mk (I6.out.next hb)
      clear hdc hC hb HA6 HB6 HX6 HY6 I6
      obtain ⟨⟨h,Lm⟩,hm⟩ : ∃ x,mergeD m Lb La = x := ⟨_,rfl⟩
      obtain ⟨dd,hdd⟩ : ∃ dd : Bool,(dd = true ↔ La = Lb) := by
        by_cases q : La = Lb
        · exact ⟨true,by simp [q]⟩
        · exact ⟨false,by simp [q]⟩
      have gx0 := (blk_cell HX7.out.ref.blk 0).trans rfl
      have gy0 := (blk_cell HY7.out.ref.blk 0).trans rfl
      have SM := Aside0.mk (fun W (hb : Below w7.heap.size w7 W) => (bag_same (HA7.out.bag.below hb) (HB7.out.bag.below hb) (by rw [← doc_len,DTA.out];have := LA.out;omega) (by rw [← doc_len,DTB.out];have := LB.out;omega)).mono (fun e w' (q : ∃ r,e = .returned (.bool r) ∧ (r = true ↔ docT ta = docT tb) ∧ Below W.heap.size W w') => show e = .returned (.bool dd) ∧ Below W.heap.size W w' from by
        obtain ⟨r,h1,h2,h3⟩ := q
        rw [DTA.out,DTB.out] at h2
        rw [h1,bool_iff h2 hdd]
        exact ⟨rfl,h3⟩))
      have SC := Aside0.mk (fun W (hb : Below w7.heap.size w7 W) => (bag_same (HA7.out.bag.below hb) (HC7.out.bag.below hb) (by rw [← doc_len,DTA.out];have := LA.out;omega) (by rw [← doc_len,DTC.out];have := LA.out;omega)).mono (fun e w' (q : ∃ r,e = .returned (.bool r) ∧ (r = true ↔ docT ta = docT tc) ∧ Below W.heap.size W w') => show e = .returned (.bool true) ∧ Below W.heap.size W w' from by
        obtain ⟨r,h1,h2,h3⟩ := q
        rw [DTA.out,DTC.out] at h2
        rw [h1,h2.2 rfl]
        exact ⟨rfl,h3⟩))
      have AL := Aside0.mk (fun W (hb : Below w7.heap.size w7 W) => (alike2_at Ax Ay cx cy La Lb W (Kd.F_now (HX7.out.ref.below hb).row) (Kd.F_now (HY7.out.ref.below hb).row) HX7.out.ref.cap HY7.out.ref.cap KX.out (by have := LA.out;omega)).mono (fun e w' (q : ∃ r,e = .returned (.bool r) ∧ (r = true ↔ La = Lb) ∧ Below W.heap.size W w') => show e = .returned (.bool dd) ∧ Below W.heap.size W w' from by
        obtain ⟨r,h1,h2,h3⟩ := q
        rw [h1,bool_iff h2 hdd]
        exact ⟨rfl,h3⟩))
      have MG := Aside0.mk (fun W (hb : Below w7.heap.size w7 W) => bag_merge (N := 0) m ⟨HA7.out.bag.below hb,fun _ _ => Nat.zero_le _⟩ (HB7.out.bag.below hb) (Nat.zero_le _) DTA.out DTB.out (by have := LA.out;omega) (by have := LB.out;omega))
      have RM := Aside0.mk (fun W (h1 : RefV W gx Ax cx La Ex) (h2 : RefV W gy Ay cy Lb Ey) => ref_merge m h1 h2 SX.out KX.out KY.out (by have := LA.out;omega) (by have := LB.out;omega) (fun q => by have := GY.out.2.2 gx q;have := GX.out.2.1;omega))
      rw [hm] at MG RM
      have HM := Aside0.mk hm
      have LM := Aside0.mk (show Lm.length ≤ 1000 by have := CX.out;rw [hm] at this;exact this)
      have d0 : (dd != dd) = false := by simp
      have d1 : (h != h) = false := by simp
      have J7 := Aside0.mk (NextW.refl w7)
      have NW7 := Aside0.mk I7.out.le
      clear hm CX hdd
      go_wp2_with (fail)
      refine start_ (n := 30) (S := fun w' => w'.cell? ⟨gx,0,none⟩ = some (.slice Ax La.length cx) ∧ w'.cell? ⟨gy,0,none⟩ = some (.slice Ay Lb.length cy)) (ds := [11,16,23,27]) #[false,false,false,false,false,false,false,false,false,false,false,false,false,false,false,false,false,false,false,false,false,false,false,false,false,false,false,false,false,false] (by kernel_rfl) rfl rfl (⟨gx0,gy0⟩) (fun hHeld => ?_)
      refine pure_ (i := 0) (N := some 78) (v := ?_) (a' := ?_) #[true,false,false,false,false,false,false,false,false,false,false,false,false,false,false,false,false,false,false,false,false,false,false,false,false,false,false,false,false,false] rfl rfl (by kernel_rfl) (fun _ _ _ h => h) (Or.inl ⟨by rfl,?_⟩) ?_ ?_
      rotate_left
      · intro w'
        go_simp
        with_reducible rfl
      rotate_left
      · simp only [Act.put,zA,zB,zC,i64_w,i32_w]
        rfl
      refine pure_ (i := 1) (N := some 79) (v := ?_) (a' := ?_) #[true,true,false,false,false,false,false,false,false,false,false,false,false,false,false,false,false,false,false,false,false,false,false,false,false,false,false,false,false,false] rfl rfl (by kernel_rfl) (fun _ _ _ h => h) (Or.inl ⟨by rfl,?_⟩) ?_ ?_
      rotate_left
      · intro w'
        go_simp
        with_reducible rfl
      rotate_left
      · simp only [Act.put,zA,zB,zC,i64_w,i32_w]
        rfl
      refine pure_ (i := 3) (N := some 81) (v := ?_) (a' := ?_) #[true,true,false,true,false,false,false,false,false,false,false,false,false,false,false,false,false,false,false,false,false,false,false,false,false,false,false,false,false,false] rfl rfl (by kernel_rfl) (fun _ _ _ h => h) (Or.inl ⟨by rfl,?_⟩) ?_ ?_
      rotate_left
      · intro w'
        go_simp
        with_reducible rfl
      rotate_left
      · simp only [Act.put,zA,zB,zC,i64_w,i32_w]
        rfl
      refine pure_ (i := 4) (N := some 82) (v := ?_) (a' := ?_) #[true,true,false,true,true,false,false,false,false,false,false,false,false,false,false,false,false,false,false,false,false,false,false,false,false,false,false,false,false,false] rfl rfl (by kernel_rfl) (fun _ _ _ h => h) (Or.inl ⟨by rfl,?_⟩) ?_ ?_
      rotate_left
      · intro w'
        go_simp
        with_reducible rfl
      rotate_left
      · simp only [Act.put,zA,zB,zC,i64_w,i32_w]
        rfl
      refine pure_ (i := 5) (N := some 83) (v := ?_) (a' := ?_) #[true,true,false,true,true,true,false,false,false,false,false,false,false,false,false,false,false,false,false,false,false,false,false,false,false,false,false,false,false,false] rfl rfl (by kernel_rfl) (fun _ _ _ h => h) (Or.inl ⟨by rfl,?_⟩) ?_ ?_
      rotate_left
      · intro w'
        go_simp
        with_reducible rfl
      rotate_left
      · simp only [Act.put,zA,zB,zC,i64_w,i32_w]
        rfl
      refine pure_ (i := 7) (N := some 85) (v := ?_) (a' := ?_) #[true,true,false,true,true,true,false,true,false,false,false,false,false,false,false,false,false,false,false,false,false,false,false,false,false,false,false,false,false,false] rfl rfl (by kernel_rfl) (fun _ _ _ h => h) (Or.inl ⟨by rfl,?_⟩) ?_ ?_
      rotate_left
      · intro w'
        go_simp
        with_reducible rfl
      rotate_left
      · simp only [Act.put,zA,zB,zC,i64_w,i32_w]
        rfl
      refine pure_ (i := 8) (N := some 86) (v := ?_) (a' := ?_) #[true,true,false,true,true,true,false,true,true,false,false,false,false,false,false,false,false,false,false,false,false,false,false,false,false,false,false,false,false,false] rfl rfl (by kernel_rfl) (fun _ _ _ h => h) (Or.inl ⟨by rfl,?_⟩) ?_ ?_
      rotate_left
      · intro w'
        go_simp
        with_reducible rfl
      rotate_left
      · simp only [Act.put,zA,zB,zC,i64_w,i32_w]
        rfl
      refine pure_ (i := 9) (N := some 87) (v := ?_) (a' := ?_) #[true,true,false,true,true,true,false,true,true,true,false,false,false,false,false,false,false,false,false,false,false,false,false,false,false,false,false,false,false,false] rfl rfl (by kernel_rfl) (fun _ _ _ h => h) (Or.inl ⟨by rfl,?_⟩) ?_ ?_
      rotate_left
      · intro w'
        go_simp
        with_reducible rfl
      rotate_left
      · simp only [Act.put,zA,zB,zC,i64_w,i32_w]
        rfl
      refine take_ (i := 6) (N := some 84) (v := ?_) (a' := ?_) #[true,true,false,true,true,true,true,true,true,true,false,false,false,false,false,false,false,false,false,false,false,false,false,false,false,false,false,false,false,false] rfl rfl (by kernel_rfl) (fun _ _ _ h => h) (Or.inl ⟨by rfl,?_⟩) hHeld ?_ ?_
      rotate_left
      · rintro w' ⟨s0,s1⟩
        go_simp
        with_reducible rfl
      rotate_left
      · simp only [Act.put,zA,zB,zC,i64_w,i32_w]
        rfl
      refine take_ (i := 10) (N := some 88) (v := ?_) (a' := ?_) #[true,true,false,true,true,true,true,true,true,true,true,false,false,false,false,false,false,false,false,false,false,false,false,false,false,false,false,false,false,false] rfl rfl (by kernel_rfl) (fun _ _ _ h => h) (Or.inl ⟨by rfl,?_⟩) hHeld ?_ ?_
      rotate_left
      · rintro w' ⟨s0,s1⟩
        go_simp
        with_reducible rfl
      rotate_left
      · simp only [Act.put,zA,zB,zC,i64_w,i32_w]
        rfl
      refine one_ (i := 2) (N := some 80) #[true,true,true,true,true,true,true,true,true,true,true,false,false,false,false,false,false,false,false,false,false,false,false,false,false,false,false,false,false,false] rfl rfl (by kernel_rfl) (by decide) (fun K hK => ?_)
      refine goes_ Try.func27 (by kernel_rfl) rfl #[.pointer (some ⟨a,0,none⟩),.pointer (some ⟨b,0,none⟩)] (by rfl) rfl rfl (by (try simp only [List.map_toArray,List.map_cons,List.map_nil]);first | done | rfl) ?_
      refine (SM.out _ J7.out.at_).mono ?_
      rintro e w8 ⟨rfl,hb⟩
      refine ⟨_,rfl,?_⟩
      have J8 := Aside0.mk (J7.out.next hb)
      replace gx0 := (hb.cell (World.block_lt_of_cell? _ _ gx0)).trans gx0
      replace gy0 := (hb.cell (World.block_lt_of_cell? _ _ gy0)).trans gy0
      clear hb
      refine hK.out _ _ (⟨gx0,gy0⟩) (fun hHeld => ?_)
      clear hK K
      refine norm_ (a' := ?_) ?_ ?_
      rotate_left
      · show Act.put _ (some 80) _ = _
        simp only [Act.put,zA,zB,zC,i64_w,i32_w]
        rfl
      clear gx0 gy0 hHeld
      refine last_ (i := 11) (N := some 89) #[true,true,true,true,true,true,true,true,true,true,true,true,false,false,false,false,false,false,false,false,false,false,false,false,false,false,false,false,false,false] rfl rfl (by kernel_rfl) (by decide) (fun K hK => ?_)
      refine goes_ Try.func31 (by kernel_rfl) rfl #[.slice Ax La.length cx,.slice Ay Lb.length cy] (by rfl) rfl rfl (by (try simp only [List.map_toArray,List.map_cons,List.map_nil]);first | done | rfl) ?_
      refine (AL.out _ J8.out.at_).mono ?_
      rintro e w9 ⟨rfl,hb⟩
      refine ⟨_,rfl,?_⟩
      have J9 := Aside0.mk (J8.out.next hb)
      clear hb
      refine hK.out _ _ ?_
      clear hK K
      refine norm_ (a' := ?_) ?_ ?_
      rotate_left
      · show Act.put _ (some 89) _ = _
        simp only [Act.put,zA,zB,zC,i64_w,i32_w]
        rfl
      refine pure_ (i := 12) (N := some 90) (v := ?_) (a' := ?_) #[true,true,true,true,true,true,true,true,true,true,true,true,true,false,false,false,false,false,false,false,false,false,false,false,false,false,false,false,false,false] rfl rfl (by kernel_rfl) (fun _ _ _ h => h) (Or.inl ⟨by rfl,?_⟩) ?_ ?_
      rotate_left
      · intro w'
        go_simp
        with_reducible rfl
      rotate_left
      · simp only [Act.put,zA,zB,zC,i64_w,i32_w]
        rfl
      refine pure_ (i := 13) (N := some 91) (v := ?_) (a' := ?_) #[true,true,true,true,true,true,true,true,true,true,true,true,true,true,false,false,false,false,false,false,false,false,false,false,false,false,false,false,false,false] rfl rfl (by kernel_rfl) (fun _ _ _ h => h) (Or.inl ⟨by rfl,?_⟩) ?_ ?_
      rotate_left
      · intro w'
        go_simp
        with_reducible rfl
      rotate_left
      · simp only [Act.put,zA,zB,zC,i64_w,i32_w]
        rfl
      refine pure_ (i := 14) (N := some 92) (v := ?_) (a' := ?_) #[true,true,true,true,true,true,true,true,true,true,true,true,true,true,true,false,false,false,false,false,false,false,false,false,false,false,false,false,false,false] rfl rfl (by kernel_rfl) (fun _ _ _ h => h) (Or.inl ⟨by rfl,?_⟩) ?_ ?_
      rotate_left
      · intro w'
        go_simp
        with_reducible rfl
      rotate_left
      · simp only [Act.put,zA,zB,zC,i64_w,i32_w]
        rfl
      refine pure_ (i := 15) (N := some 93) (v := ?_) (a' := ?_) #[true,true,true,true,true,true,true,true,true,true,true,true,true,true,true,true,false,false,false,false,false,false,false,false,false,false,false,false,false,false] rfl rfl (by kernel_rfl) (fun _ _ _ h => h) (Or.inl ⟨by rfl,?_⟩) ?_ ?_
      rotate_left
      · intro w'
        go_simp
        with_reducible rfl
      rotate_left
      · simp only [Act.put,zA,zB,zC,i64_w,i32_w]
        rfl
      refine last_ (i := 16) (N := some 94) #[true,true,true,true,true,true,true,true,true,true,true,true,true,true,true,true,true,false,false,false,false,false,false,false,false,false,false,false,false,false] rfl rfl (by kernel_rfl) (by decide) (fun K hK => ?_)
      refine goes_ Try.func27 (by kernel_rfl) rfl #[.pointer (some ⟨a,0,none⟩),.pointer (some ⟨c,0,none⟩)] (by rfl) rfl rfl (by (try simp only [List.map_toArray,List.map_cons,List.map_nil]);first | done | rfl) ?_
      refine (SC.out _ J9.out.at_).mono ?_
      rintro e w10 ⟨rfl,hb⟩
      refine ⟨_,rfl,?_⟩
      have J10 := Aside0.mk (J9.out.next hb)
      clear hb
      refine hK.out _ _ ?_
      clear hK K
      refine norm_ (a' := ?_) ?_ ?_
      rotate_left
      · show Act.put _ (some 94) _ = _
        simp only [Act.put,zA,zB,zC,i64_w,i32_w]
        rfl
      refine pure_ (i := 17) (N := some 95) (v := ?_) (a' := ?_) #[true,true,true,true,true,true,true,true,true,true,true,true,true,true,true,true,true,true,false,false,false,false,false,false,false,false,false,false,false,false] rfl rfl (by kernel_rfl) (fun _ _ _ h => h) (Or.inl ⟨by rfl,?_⟩) ?_ ?_
      rotate_left
      · intro w'
        go_simp
        with_reducible rfl
      rotate_left
      · simp only [Act.put,zA,zB,zC,i64_w,i32_w]
        rfl
      refine pure_ (i := 18) (N := some 96) (v := ?_) (a' := ?_) #[true,true,true,true,true,true,true,true,true,true,true,true,true,true,true,true,true,true,true,false,false,false,false,false,false,false,false,false,false,false] rfl rfl (by kernel_rfl) (fun _ _ _ h => h) (Or.inl ⟨by rfl,?_⟩) ?_ ?_
      rotate_left
      · intro w'
        go_simp
        with_reducible rfl
      rotate_left
      · simp only [Act.put,zA,zB,zC,i64_w,i32_w]
        rfl
      refine pure_ (i := 19) (N := some 97) (v := ?_) (a' := ?_) #[true,true,true,true,true,true,true,true,true,true,true,true,true,true,true,true,true,true,true,true,false,false,false,false,false,false,false,false,false,false] rfl rfl (by kernel_rfl) (fun _ _ _ h => h) (Or.inl ⟨by rfl,?_⟩) ?_ ?_
      rotate_left
      · intro w'
        go_simp
        with_reducible rfl
      rotate_left
      · simp only [Act.put,zA,zB,zC,i64_w,i32_w]
        rfl
      refine pure_ (i := 20) (N := some 98) (v := ?_) (a' := ?_) #[true,true,true,true,true,true,true,true,true,true,true,true,true,true,true,true,true,true,true,true,true,false,false,false,false,false,false,false,false,false] rfl rfl (by kernel_rfl) (fun _ _ _ h => h) (Or.inl ⟨by rfl,?_⟩) ?_ ?_
      rotate_left
      · intro w'
        go_simp
        with_reducible rfl
      rotate_left
      · simp only [Act.put,zA,zB,zC,i64_w,i32_w]
        rfl
      refine pure_ (i := 21) (N := some 99) (v := ?_) (a' := ?_) #[true,true,true,true,true,true,true,true,true,true,true,true,true,true,true,true,true,true,true,true,true,true,false,false,false,false,false,false,false,false] rfl rfl (by kernel_rfl) (fun _ _ _ h => h) (Or.inl ⟨by rfl,?_⟩) ?_ ?_
      rotate_left
      · intro w'
        go_simp
        with_reducible rfl
      rotate_left
      · simp only [Act.put,zA,zB,zC,i64_w,i32_w]
        rfl
      refine pure_ (i := 22) (N := some 100) (v := ?_) (a' := ?_) #[true,true,true,true,true,true,true,true,true,true,true,true,true,true,true,true,true,true,true,true,true,true,true,false,false,false,false,false,false,false] rfl rfl (by kernel_rfl) (fun _ _ _ h => h) (Or.inl ⟨by rfl,?_⟩) ?_ ?_
      rotate_left
      · intro w'
        go_simp
        with_reducible rfl
      rotate_left
      · simp only [Act.put,zA,zB,zC,i64_w,i32_w]
        rfl
      refine pure_ (i := 24) (N := some 102) (v := ?_) (a' := ?_) #[true,true,true,true,true,true,true,true,true,true,true,true,true,true,true,true,true,true,true,true,true,true,true,false,true,false,false,false,false,false] rfl rfl (by kernel_rfl) (fun _ _ _ h => h) (Or.inl ⟨by rfl,?_⟩) ?_ ?_
      rotate_left
      · intro w'
        go_simp
        with_reducible rfl
      rotate_left
      · simp only [Act.put,zA,zB,zC,i64_w,i32_w]
        rfl
      refine pure_ (i := 25) (N := some 103) (v := ?_) (a' := ?_) #[true,true,true,true,true,true,true,true,true,true,true,true,true,true,true,true,true,true,true,true,true,true,true,false,true,true,false,false,false,false] rfl rfl (by kernel_rfl) (fun _ _ _ h => h) (Or.inl ⟨by rfl,?_⟩) ?_ ?_
      rotate_left
      · intro w'
        go_simp
        with_reducible rfl
      rotate_left
      · simp only [Act.put,zA,zB,zC,i64_w,i32_w]
        rfl
      refine pure_ (i := 26) (N := some 104) (v := ?_) (a' := ?_) #[true,true,true,true,true,true,true,true,true,true,true,true,true,true,true,true,true,true,true,true,true,true,true,false,true,true,true,false,false,false] rfl rfl (by kernel_rfl) (fun _ _ _ h => h) (Or.inl ⟨by rfl,?_⟩) ?_ ?_
      rotate_left
      · intro w'
        go_simp
        with_reducible rfl
      rotate_left
      · simp only [Act.put,zA,zB,zC,i64_w,i32_w]
        rfl
      refine last_ (i := 23) (N := some 101) #[true,true,true,true,true,true,true,true,true,true,true,true,true,true,true,true,true,true,true,true,true,true,true,true,true,true,true,false,false,false] rfl rfl (by kernel_rfl) (by decide) (fun K hK => ?_)
      refine goes_ Try.func28 (by kernel_rfl) rfl #[.pointer (some ⟨a,0,none⟩),.pointer (some ⟨b,0,none⟩),.int .i64 m] (by rfl) rfl rfl (by (try simp only [List.map_toArray,List.map_cons,List.map_nil]);first | done | rfl) ?_
      refine (MG.out _ J10.out.at_).mono ?_
      rintro e w11 ⟨t',D',rfl,hd,hT,hc⟩
      refine ⟨_,rfl,?_⟩
      have DT11 := Aside0.mk hd
      have T11 := Aside0.mk hT
      have S10 := Aside0.mk J10.out.le
      have gxa := Aside0.mk (show ¬ BagOwn a ta Da gx from fun q => by have := LTA.out gx q;have := GX.out.1;have := SZ.out.1;omega)
      have gya := Aside0.mk (show ¬ BagOwn a ta Da gy from fun q => by have := LTA.out gy q;have := GY.out.1;have := SZ.out;omega)
      have LW7 := Aside0.mk (show gx < w7.heap.size ∧ gy < w7.heap.size from ⟨HX7.out.ref.g_lt,HY7.out.ref.g_lt⟩)
      have X11 := Aside0.mk ((HX7.out.ref.below J10.out.at_).keep hc.ch (fun s => gxa.out (s.elim .inl (fun q => .inr (.inl q)))) (fun k hk s => by have := LTA.out k (s.elim .inl (fun q => .inr (.inl q)));have := GX.out.2.2 k hk;have := SZ.out.1;omega))
      have Y11 := Aside0.mk ((HY7.out.ref.below J10.out.at_).keep hc.ch (fun s => gya.out (s.elim .inl (fun q => .inr (.inl q)))) (fun k hk s => by have := LTA.out k (s.elim .inl (fun q => .inr (.inl q)));have := GY.out.2.2 k hk;have := SZ.out;omega))
      have B11 := Aside0.mk (hc.other (HB7.out.bag.below J10.out.at_) (fun k h1 h2 => by have := LTA.out k h2;have := GEB.out k h1;omega)).1
      have Z11 := Aside0.mk (hc.other (HC7.out.bag.below J10.out.at_) (fun k h1 h2 => by have := LTA.out k h2;have := GEC.out k h1;have := SZ.out;omega)).1
      have OW11 := Aside0.mk (show ∀ k,BagOwn a t' D' k → k ≠ gx from fun k hk e => by subst e;rcases hc.own _ hk with q | q;exact gxa.out q;have := LW7.out.1;have := Nat.le_trans J10.out.le q;omega)
      have C11 := Aside0.mk (hc.ch.toBelow (Nat.le_trans NW7.out J10.out.le) (fun k s => NA3.out k (s.elim .inl (fun q => .inr (.inl q)))))
      clear hd hT hc
      refine hK.out _ _ ?_
      clear hK K
      refine norm_ (a' := ?_) ?_ ?_
      rotate_left
      · show Act.put _ (some 101) _ = _
        simp only [Act.put,zA,zB,zC,i64_w,i32_w]
        rfl
      refine last_ (i := 27) (N := some 105) #[true,true,true,true,true,true,true,true,true,true,true,true,true,true,true,true,true,true,true,true,true,true,true,true,true,true,true,true,false,false] rfl rfl (by kernel_rfl) (by decide) (fun K hK => ?_)
      refine goes_ Try.func32 (by kernel_rfl) rfl #[.pointer (some ⟨gx,0,none⟩),.pointer (some ⟨gy,0,none⟩),.int .i64 m] (by rfl) rfl rfl (by (try simp only [List.map_toArray,List.map_cons,List.map_nil]);first | done | rfl) ?_
      refine (RM.out _ X11.out Y11.out).mono ?_
      rintro e w12 ⟨A',c',E',rfl,hR,hc⟩
      refine ⟨_,rfl,?_⟩
      have R12 := Aside0.mk hR
      have A12 := Aside0.mk (T11.out.keep hc.ch (fun k s hk => OW11.out k hk s))
      have Y12 := Aside0.mk (Y11.out.keep hc.ch (fun s => by have := GX.out;have := GY.out;omega) (fun k hk s => by have := GX.out;have := GY.out.2.2 k hk;omega))
      have B12 := Aside0.mk (B11.out.keep hc.ch (fun k s hk => by have := LTB.out k hk;have := GX.out;omega))
      have Z12 := Aside0.mk (Z11.out.keep hc.ch (fun k s hk => by have := GEC.out k hk;have := GX.out;have := SZ.out;omega))
      have I12 := Aside0.mk (((I7.out.next J10.out.below).nextN C11.out).nextN (hc.ch.toBelow (Nat.le_trans (Nat.le_trans NW7.out J10.out.le) C11.out.size) (fun k s => by subst s;exact Nat.le_trans NW4.out GX.out.1)))
      clear hR hc
      refine hK.out _ _ ?_
      clear hK K
      refine norm_ (a' := ?_) ?_ ?_
      rotate_left
      · show Act.put _ (some 105) _ = _
        simp only [Act.put,zA,zB,zC,i64_w,i32_w]
        rfl
      refine pure_ (i := 28) (N := some 106) (v := ?_) (a' := ?_) #[true,true,true,true,true,true,true,true,true,true,true,true,true,true,true,true,true,true,true,true,true,true,true,true,true,true,true,true,true,false] rfl rfl (by kernel_rfl) (fun _ _ _ h => h) (Or.inl ⟨by rfl,?_⟩) ?_ ?_
      rotate_left
      · intro w'
        go_simp
        with_reducible rfl
      rotate_left
      · simp only [Act.put,zA,zB,zC,i64_w,i32_w]
        rfl
      refine pure_ (i := 29) (N := some 107) (v := ?_) (a' := ?_) #[true,true,true,true,true,true,true,true,true,true,true,true,true,true,true,true,true,true,true,true,true,true,true,true,true,true,true,true,true,true] rfl rfl (by kernel_rfl) (fun _ _ _ h => h) (Or.inl ⟨by rfl,?_⟩) ?_ ?_
      rotate_left
      · intro w'
        go_simp
        with_reducible rfl
      rotate_left
      · simp only [Act.put,zA,zB,zC,i64_w,i32_w]
        rfl
      refine done_ (by kernel_rfl) ?_
      clear SM SC AL MG RM HA7 HB7 HX7 HY7 HC7 X11 Y11 B11 Z11 T11 OW11 C11 J7 J8 J9 J10 I7
      go_wp2_with (fail)
      refine (ref_of A0 n c0 l w12 (Kd.C_below HL.out (HN.out ▸ I12.out.below)) (by omega)).mono ?_
      rintro e w13 ⟨pz,qz,Lz,hz,rfl,hb13,hpz,hpz0⟩
      obtain ⟨rfl,rfl⟩ : 0 = qz ∧ La = Lz := by rw [OA.out] at hz;injection hz with h1 h2;exact ⟨h1,h2⟩
      obtain ⟨gz,Az,cz,Ez,rfl,_,hsz,hkz,hZ⟩ := hpz0 rfl
      have I13 := Aside0.mk (I12.out.next hb13)
      have A13 := Aside0.mk (A12.out.below hb13)
      have R13 := Aside0.mk (R12.out.below hb13)
      have B13 := Aside0.mk (B12.out.below hb13)
      have Y13 := Aside0.mk (Y12.out.below hb13)
      have Z13 := Aside0.mk (Z12.out.below hb13)
      have V13 := Aside0.mk hZ
      clear hz hb13 hpz hpz0 hsz hkz hZ A12 R12 B12 Y12 Z12 I12
      go_wp2_with (fail)
      refine (same_at a t' gx A' c' Lm w13 A13.out R13.out DT11.out (by have := LM.out;omega)).mono ?_
      rintro e w14 ⟨rfl,hb⟩
      have I14 := Aside0.mk (I13.out.next hb)
      have B14 := Aside0.mk (B13.out.below hb)
      have Y14 := Aside0.mk (Y13.out.below hb)
      have Z14 := Aside0.mk (Z13.out.below hb)
      have V14 := Aside0.mk (V13.out.below hb)
      clear hb A13 R13 B13 Y13 Z13 V13 I13
      go_wp2_with (fail)
      refine (same_at b tb gy Ay cy Lb w14 B14.out Y14.out DTB.out (by have := LB.out;omega)).mono ?_
      rintro e w15 ⟨rfl,hb⟩
      have I15 := Aside0.mk (I14.out.next hb)
      have Z15 := Aside0.mk (Z14.out.below hb)
      have V15 := Aside0.mk (V14.out.below hb)
      clear hb B14 Y14 Z14 V14 I14
      go_wp2_with (fail)
      refine (same_at c tc gz Az cz La w15 Z15.out V15.out.ref DTC.out (by have := LA.out;omega)).mono ?_
      rintro e w16 ⟨rfl,hb⟩
      have I16 := Aside0.mk (I15.out.next hb)
      clear hb Z15 V15 I15
      go_wp2_with (fail)
      refine (KE.out _ I16.out).mono ?_
      rintro e w17 ⟨rfl,hb⟩
      go_wp2_with (fail)
      go_ret
      exact ⟨rfl,hb⟩
    · obtain rfl := PB.out hqb
      obtain rfl := PY.out hqb
      have c1 : (qb != 0) = true := by simp [hqb]
      go_wp2_with (fail)
      refine (KE.out _ I6.out).mono ?_
      rintro e w7 ⟨rfl,hb⟩
      go_wp2_with (fail)
      go_ret
      exact ⟨rfl,hb⟩
  · obtain rfl := PA.out hqa
    obtain rfl := PX.out hqa
    have c1 : (qa != 0) = true := by simp [hqa]
    by_cases hqb : qb = 0
    · subst hqb
      obtain ⟨b,tb,Db,rfl,hdb,hlb,hB⟩ := PB0.out rfl
      obtain ⟨gy,Ay,cy,Ey,rfl,_,hsy,hky,hY⟩ := PY0.out rfl
      go_wp2_with (fail)
      refine (KE.out _ I6.out).mono ?_
      rintro e w7 ⟨rfl,hb⟩
      go_wp2_with (fail)
      go_ret
      exact ⟨rfl,hb⟩
    · obtain rfl := PB.out hqb
      obtain rfl := PY.out hqb
      go_wp2_with (fail)
      refine (KE.out _ I6.out).mono ?_
      rintro e w7 ⟨rfl,hb⟩
      go_wp2_with (fail)
      go_ret
      exact ⟨rfl,hb⟩
end Go.Proofs.Ythmbfcfomcaaaaa.Z
end
section
namespace Go.Proofs.Ythmbfcfomcaaaaa.Z
set_option linter.unusedVariables false
open Go.RowKit Go.Proofs.YthmbfcfomcaaaaaW.PrintWords Go.Proofs.YthmbfcfomcaaaaaW.PrintLast Go.Proofs.YthmbfcfomcaaaaaW.PrintMore
def verdererlaw05_BagMerges.f (l0 : List (S34)) (l1 : List (S34)) (a2 : Int) : Option (Bool) := some true
theorem verdererlaw05_BagMerges.calls (A0 : Option Addr) (c0 : Nat) (l0 : List (S34)) (A1 : Option Addr) (c1 : Nat) (l1 : List (S34)) (a2 : Int) (r : Bool) (w : World) (hr0 : Kd.C k34 w A0 l0.length l0) (hc0 : l0.length ≤ c0) (hr1 : Kd.C k34 w A1 l1.length l1) (hc1 : l1.length ≤ c1) (h : verdererlaw05_BagMerges.f l0 l1 a2 = some r) :
    Calls Try.prog 5 #[.slice A0 l0.length c0,.slice A1 l1.length c1,.int .i64 a2] w fun e w' => e = .returned (.bool r) ∧ Below w.heap.size w w' := by
  obtain rfl := Option.some.inj h
  exact bag_merges A0 A1 l0.length l1.length c0 c1 l0 l1 a2 w hr0 hc0 hr1 hc1
end Go.Proofs.Ythmbfcfomcaaaaa.Z
end
section
namespace Go.Proofs.Ythmbfcfomcaaaaa.Z
open Go.RowKit Go.Proofs.YthmbfcfomcaaaaaW.PrintWords Go.Proofs.YthmbfcfomcaaaaaW.PrintLast Go.Proofs.YthmbfcfomcaaaaaW.PrintMore
theorem bagMerges_pure : ∀ (l0 : (List S34)) (l1 : (List S34)) (a2 : Int),(l0.length ≤ maxLen ∧ ∀ x ∈ l0,G34 x) → (l1.length ≤ maxLen ∧ ∀ x ∈ l1,G34 x) → (Lit.int .i64 a2).wf = true → verdererlaw05_BagMerges.f l0 l1 a2 = some true := by
  intros
  rfl
end Go.Proofs.Ythmbfcfomcaaaaa.Z
end
namespace Go.Proofs.Ythmbfcfomcaaaaa.bagMerges
open Go.ChangeShapes Go.WideShapes Go.ChangeAt Go.RowKit Go.Proofs.YthmbfcfomcaaaaaW.PrintWords
open Go.ChangeMaps (open_string shut_string)
set_option linter.unusedVariables false
theorem own : ownKnob Try.prog.godebug = none := by kernel_rfl
theorem laidOut : laidOutB Try.prog = true := by kernel_rfl
set_option maxRecDepth 100000 in
theorem lifted (os : Os) (started : os.Started) (H : Type) (enc : TypeId × Value → H) :
    ReturnsInHanded {} Try.checked os 5 .any (Rows.bagMergesSpec.pre6 enc Try.prog Try.f5 Rows.bagMergesRow.domain false) (Rows.bagMergesSpec.post enc Try.prog Try.f5 false true false false) := by
  refine returnsInHanded_of_change (C := Try.checked) own started (by kernel_rfl) Try.func5
    (ChangeSpec.witness6 (enc := enc) (C := Try.checked) false ⟨#[],#[.slice none 0 0,.slice none 0 0,.int .i64 0],[]⟩ 8 (by kernel_rfl) (by kernel_rfl) (by kernel_rfl) (by kernel_rfl)) ?_
  intro W base args ds gs before hval0 hW hcnd _
  have hval : ∀ (j : Nat) t v,Try.f5.params[j]? = some t → args[j]? = some v → Value.okWide Try.prog W .any base t v := hval0
  have hW' := hW
  obtain ⟨p,q,hA0,hV,rfl,hfz,hnd⟩ := hW
  have hA : DataW.TrodAll enc Try.prog W 0 (fun _ => true) true Try.f5.params.toList args.toList ds p := hA0
  rw [Try.params5] at hA hval
  obtain ⟨v0,vs0,d0,ds0,p0,q0,hargs,rfl,rfl,h0,r0⟩ := trodAll_cons hA
  obtain ⟨v1,vs1,d1,ds1,p1,q1,rfl,rfl,rfl,h1,r1⟩ := trodAll_cons r0
  obtain ⟨v2,vs2,d2,ds2,p2,q2,rfl,rfl,rfl,h2,r2⟩ := trodAll_cons r1
  obtain ⟨rfl,rfl,rfl⟩ := trodAll_nil r2
  obtain rfl : args = #[v0,v1,v2] := by cases args;simp_all
  obtain ⟨rfl,rfl⟩ := trodVars_none hV
  obtain ⟨a0,len0,cap0,rfl⟩ := okWide_slice Try.underlying22 (hval 0 22 v0 rfl rfl)
  have k0 := h0
  have lt0 : ∀ x ∈ p0,x.block < W.heap.size := by obtain ⟨m,hm⟩ := k0;exact DataW.trod_lt m _ _ _ hm
  obtain ⟨l0,hK0,hG0⟩ : ∃ l,((Kd.slice 34 Z.k34) : Kd (List Z.S34)).K W l [.slice a0 len0 cap0] ∧ (l.length ≤ maxLen ∧ ∀ x ∈ l,Z.G34 x) := by obtain ⟨fuel,hf⟩ := h0;exact (show OfTrod Try.prog 22 (Kd.slice 34 Z.k34) _ from (ofTrod_slice Try.underlying22 (by kernel_rfl) Z.of34)) _ _ _ _ _ _ _ _ _ hf
  obtain ⟨A0,c0,he0,hl0,hC0⟩ := hK0
  simp only [List.cons.injEq,Value.slice.injEq,and_true] at he0
  obtain ⟨rfl,rfl,rfl⟩ := he0
  obtain ⟨a1,len1,cap1,rfl⟩ := okWide_slice Try.underlying22 (hval 1 22 v1 rfl rfl)
  have k1 := h1
  have lt1 : ∀ x ∈ p1,x.block < W.heap.size := by obtain ⟨m,hm⟩ := k1;exact DataW.trod_lt m _ _ _ hm
  obtain ⟨l1,hK1,hG1⟩ : ∃ l,((Kd.slice 34 Z.k34) : Kd (List Z.S34)).K W l [.slice a1 len1 cap1] ∧ (l.length ≤ maxLen ∧ ∀ x ∈ l,Z.G34 x) := by obtain ⟨fuel,hf⟩ := h1;exact (show OfTrod Try.prog 22 (Kd.slice 34 Z.k34) _ from (ofTrod_slice Try.underlying22 (by kernel_rfl) Z.of34)) _ _ _ _ _ _ _ _ _ hf
  obtain ⟨A1,c1,he1,hl1,hC1⟩ := hK1
  simp only [List.cons.injEq,Value.slice.injEq,and_true] at he1
  obtain ⟨rfl,rfl,rfl⟩ := he1
  obtain ⟨a2,rfl,rfl,rfl,w2⟩ := open_int Try.underlying2 (hval 2 2 v2 rfl rfl) h2
  clear hA0 hval0
  have h := Z.bagMerges_pure l0 l1 a2 hG0 hG1 w2
  refine (Z.verdererlaw05_BagMerges.calls _ _ l0 _ _ l1 a2 true W hC0 hl0 hC1 hl1 h).mono fun e W' ⟨he,bel⟩ => ?_
  subst he
  exact ⟨_,rfl,_,_,_,[],_,[],hW',trodAll_mk1 (shut_bool Try.underlying4 _),(trodAll_cons_mk (Below.trod laidOut (by kernel_rfl) (of_decide_eq_true (by kernel_rfl)) k0 bel lt0) (trodAll_cons_mk (Below.trod laidOut (by kernel_rfl) (of_decide_eq_true (by kernel_rfl)) k1 bel lt1) (trodAll_cons_mk (shut_int Try.underlying2 w2) trodAll_mk0))),rfl,bel.frame _,fun h => by cases h⟩
theorem over : Rows.bagMergesRow.holds Try.pinned (OpenSpec.ofChange Rows.bagMergesSpec) :=
  OpenClaim.holds_of_wide 5 Try.f5 rfl rfl rfl rfl rfl rfl rfl ⟨rfl,rfl,rfl,rfl,rfl⟩ rfl rfl rfl rfl rfl (by kernel_rfl) Try.func5 (by kernel_rfl)
    (of_decide_eq_true (by kernel_rfl)) (by unfold Func.isWrapper;first | (rw [if_pos (by decide +kernel)];kernel_rfl) | (rw [if_neg (by decide +kernel)];exact ⟨rfl,rfl⟩))
    (fun os started H enc _ => lifted os started H enc)
theorem proved : Rows.BagMergesSaid := over
#print axioms proved
end Go.Proofs.Ythmbfcfomcaaaaa.bagMerges
namespace Go.Proofs.Ythmbfcfomcaaaaa
theorem bagMerges_holds : Rows.BagMergesSaid := bagMerges.proved
end Go.Proofs.Ythmbfcfomcaaaaa
