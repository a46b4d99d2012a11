/-
  verdererlaw20.PickSums: for every input the law returns true, and each argument reads behind the call as it read before. No condition.
-/
import Derived.Test.YthmbfcfomcaaaaaMPickSumsa
import Derived.Test.YthmbfcfomcaaaaaMPickSumsb
import Derived.Test.YthmbfcfomcaaaaaMPickSumsc
import Derived.Test.YthmbfcfomcaaaaaMPickSumsd
import Derived.Test.YthmbfcfomcaaaaaMPickSumse
import Derived.Test.YthmbfcfomcaaaaaRows
import Derived.WalkKit
import Derived.ProofKit
import Derived.OpenShut
import Derived.ShutString
import Derived.ChangeOld
import Derived.Below
import Derived.Laws.Cover2
section
namespace Go.Proofs.Ythmbfcfomcaaaaa.Z
set_option linter.unusedVariables false
set_option linter.unusedSimpArgs false
open Go.RowKit Go.Proofs.YthmbfcfomcaaaaaW.PrintWords Go.Proofs.YthmbfcfomcaaaaaW.PrintLast Go.Proofs.YthmbfcfomcaaaaaW.PrintMore Go.Proofs.Ythmbfcfomcaaaaa.Cmp
theorem ent_getF {w : World} {ok : Nat → Prop} {A : Option Addr} {n : Nat} {L : List En} (h : Kd.F k34 w ok A n L) {i : Nat} (hi : i < n) {x : En} (hx : L[i]? = some x) :
    ∃ ad A0 c0,A = some ad ∧ w.cell? (ad.add (i * 2)) = some (.slice A0 x.f0.length c0) ∧ w.cell? ⟨(ad.add (i * 2)).block,(ad.add (i * 2)).off + 1,none⟩ = some (.int .i64 x.f1) ∧ x.f0.length ≤ c0 ∧ Kd.F k66 w ok A0 x.f0.length x.f0 := by
  obtain ⟨ad,cs,e1,hcl,hK,hcc,_⟩ := Kd.F_get h z34 (i : Int) (by omega) (by omega)
  simp only [Int.toNat_natCast] at hK hcc
  rw [List.getD_eq_getElem?_getD,hx] at hK
  obtain ⟨A0,c0,e2,hl,hF⟩ := k34_openF hK
  subst e2
  have hc : ∀ j u,[Value.slice A0 x.f0.length c0,Value.int .i64 x.f1][j]? = some u → w.cell? (ad.add (i * 2 + j)) = some u := hcc
  exact ⟨ad,A0,c0,e1,hc 0 _ rfl,by rw [← add_field _ _ 1 (by omega)];exact hc 1 _ rfl,hl,hF⟩
theorem BagCh.more {w w1 w2 : World} {b : Nat} {t t' : Tr} {D D' S : Nat → Prop} (h : BagCh w w1 b t t' D D') (k : Ch S w1 w2) (hs : ∀ k,S k → w.heap.size ≤ k) : BagCh w w2 b t t' D D' := ⟨h.ch.then_ k (fun k s => .inr (hs k s)),h.ids,h.dat⟩
structure AppI (N M NN : Nat) (w3 wr : World) (o b : Nat) (t : Tr) (D : Nat → Prop) (v : Value) (L T : List En) : Prop where
  ex : ∃ ti Di,docT ti = L ∧ OnceAt N wr o b ti Di ∧ BagCh w3 wr b t ti D Di ∧ Kd.N k34 34 wr M (fun k => M ≤ k ∧ ¬ BagOwn b ti Di k) v T ∧ ∀ k,v.ownBlock = some k → NN ≤ k
theorem N_bagged {w w1 : World} {b M : Nat} {t t' : Tr} {D D' : Nat → Prop} {v : Value} {T : List En} (h : Kd.N k34 34 w M (fun k => M ≤ k ∧ ¬ BagOwn b t D k) v T) (hc : BagCh w w1 b t t' D D') : Kd.N k34 34 w1 M (fun k => M ≤ k ∧ ¬ BagOwn b t' D' k) v T :=
  Kd.N_mono (Kd.N_step (Kd.N_bound h) (fun k hk hlt => hc.ch.block k hlt (fun s => hk.1.2 (s.elim .inl (fun q => .inr (.inl q)))))) (fun k hk => ⟨hk.1.1,fun ho => (hc.own k ho).elim hk.1.2 (fun q => by have := hk.2;omega)⟩)
theorem tell_snoc {L net : List En} {i : Nat} {x : En} (hx : net[i]? = some x) : tellD L (net.take (i + 1)) = tellD L (net.take i) ++ tell1 L x := by
  rw [List.take_add_one,hx]
  unfold tellD
  rw [List.flatMap_append]
  simp
theorem keep_cell {S : Nat → Prop} {w w1 : World} {a : Addr} {v : Value} (hc : Ch S w w1) (h : w.cell? a = some v) (hn : ¬ S a.block) : w1.cell? a = some v :=
  (cell_of (hc.block a.block (World.block_lt_of_cell? _ _ h) hn)).trans h
theorem of_inv0 (l : List En) : SrtD (ofD l []).2 ∧ OkD (ofD l []).2 ∧ (ofD l []).2.length ≤ l.length := by
  obtain ⟨h1,h2,h3⟩ := of_inv l [] List.Pairwise.nil (fun x hx => (by cases hx))
  exact ⟨h1,h2,by rw [List.length_nil,Nat.zero_add] at h3;exact h3⟩
theorem tell_len (L : List En) : ∀ net : List En,(tellD L net).length ≤ net.length
  | [] => Nat.le_refl _
  | e :: es => by
    have h := tell_len L es
    have h1 : (tell1 L e).length ≤ 1 := by unfold tell1;split;exact Nat.le_refl 1;split;exact Nat.le_refl 1;exact Nat.zero_le 1
    rw [tell_cons,List.length_append,List.length_cons]
    omega
theorem mul_take {L net : List En} (ho : SrtD net) (ko : OkD net) (hs : SrtD L) (hk : OkD L) (ha : allD 1 net L = true) {i : Nat} {x : En} (hx : net[i]? = some x) :
    addD x.f0 x.f1 (mulD 1 (net.take i) L) = (0,mulD 1 (net.take (i + 1)) L) ∧ manyD x.f0 (mulD 1 (net.take i) L) = manyD x.f0 L := by
  have hi : i < net.length := (List.getElem?_eq_some_iff.1 hx).1
  have e : net = net.take i ++ x :: net.drop (i + 1) := by
    have h1 := (List.take_append_drop i net).symm
    rw [List.drop_eq_getElem_cons hi] at h1
    rw [List.getElem?_eq_getElem hi] at hx
    rw [Option.some.inj hx] at h1
    exact h1
  have e2 : net.take (i + 1) = net.take i ++ [x] := by rw [List.take_add_one,hx];rfl
  generalize net.take i = T1 at e e2 ⊢
  generalize net.drop (i + 1) = T2 at e
  rw [e] at ho ko ha
  rw [e2]
  exact ⟨mul_step ho ko hs hk ha,many_mul ho ko hs hk ha⟩
set_option maxHeartbeats 8000000 in
set_option maxRecDepth 100000 in
theorem once_apply {N : Nat} {o b : Nat} {t : Tr} {D : Nat → Prop} (A : Option Addr) (n c : Nat) (l L : List En) (w : World) (h : OnceAt N w o b t D) (hd : docT t = L) (hL : OnceD L) (hl : Kd.C k34 w A n l) (hn : n ≤ 1000) (hNM : N ≤ w.heap.size) :
    Calls Try.prog 50 #[.pointer (some ⟨o,0,none⟩),.slice A n c] w fun e w' => ∃ v t' D',e = .returned (.tuple #[v,.int .i64 (appD l L).1]) ∧ docT t' = (appD l L).2.2 ∧ OnceAt N w' o b t' D' ∧ BagCh w w' b t t' D D' ∧ Kd.N k34 34 w' w.heap.size (fun k => w.heap.size ≤ k ∧ ¬ BagOwn b t' D' k) v (appD l L).2.1 := by
  have LN := Aside0.mk (show l.length = n from hl.1)
  have NT := Aside0.mk (net_at A n c l w hl hn)
  have HA := Aside0.mk h
  have DT := Aside0.mk hd
  have HL := Aside0.mk hL
  have OI := Aside0.mk (of_inv0 l)
  unfold appD
  unfold netD at NT
  obtain ⟨⟨q,nt⟩,hq⟩ : ∃ x,ofD l [] = x := ⟨_,rfl⟩
  rw [hq] at NT OI ⊢
  simp only at NT OI ⊢
  obtain ⟨M,hM⟩ : ∃ M,w.heap.size = M := ⟨_,rfl⟩
  have HM := Aside0.mk hM
  have NM := Aside0.mk (show N ≤ M from hM ▸ hNM)
  rw [hM] at NT
  have LTO := Aside0.mk (show ∀ k,OnceOwn o b t D k → k < M from fun k hk => by rw [← hM];exact h.lt k hk)
  by_cases h0 : q = 0
  case neg =>
    rw [if_neg h0]
    rw [if_neg h0] at NT
    have c0 : (q != 0) = true := by simp [h0]
    clear h hd hL hl hq h0 OI
    rw [hM]
    clear hM
    go_enter Try.func50,Try.ntmps50
    go_wp2_with (fail)
    refine NT.out.mono ?_
    rintro e w1 ⟨v,rfl,_,hb⟩
    have B1 := Aside0.mk hb
    clear hb
    go_wp2_with (fail)
    go_ret2
    have B0 : Below w.heap.size w w1 := HM.out ▸ B1.out
    exact ⟨_,t,D,rfl,DT.out,HA.out.below B0,BagCh.same B0,Kd.N_nil _ _ _ _ _⟩
  case pos =>
  subst h0
  rw [if_pos rfl]
  rw [if_pos rfl] at NT
  have hL2 := hL
  clear h hl hq
  by_cases hm : mayD L nt L.length = 0
  case neg =>
    rw [if_neg hm]
    obtain ⟨mc,hmc⟩ : ∃ mc,mayD L nt L.length = mc := ⟨_,rfl⟩
    have HMC := Aside0.mk hmc
    have c0 : (mc != 0) = true := by rw [← hmc];simp [hm]
    rw [hmc]
    clear hmc hm hd hL hL2
    rw [hM]
    clear hM
    go_enter Try.func50,Try.ntmps50
    go_wp2_with (fail)
    refine NT.out.mono ?_
    rintro e w1 ⟨v,rfl,hv,hb⟩
    have B1 := Aside0.mk (show Below w.heap.size w w1 from HM.out ▸ hb)
    obtain ⟨A1,c1,rfl⟩ := Kd.R_slice hv
    have CV := Aside0.mk (Kd.R_reads' hv).2.2
    clear hb hv NT
    go_wp2_with (fail)
    refine (once_may A1 nt.length c1 nt L w1 (HA.out.below B1.out) DT.out (by have := HL.out.few;omega) CV.out OI.out.2.1 (by have := OI.out.2.2;have := LN.out;omega)).mono ?_
    rintro e w2 ⟨rfl,hb⟩
    have B2 := Aside0.mk (B1.out.trans (hb.mono B1.out.size))
    rw [HMC.out]
    clear hb CV
    go_wp2_with (fail)
    go_ret2
    exact ⟨_,t,D,rfl,DT.out,HA.out.below B2.out,BagCh.same B2.out,Kd.N_nil _ _ _ _ _⟩
  case pos =>
  rw [if_pos hm]
  have HMC := Aside0.mk hm
  have AD := Aside0.mk (inB_all OI.out.2.1 ((may_iff _ _ _).1 hm).1)
  clear hm hd hL hL2
  rw [hM]
  clear hM
  go_enter Try.func50,Try.ntmps50
  go_wp2_with (fail)
  refine NT.out.mono ?_
  rintro e w1 ⟨v,rfl,hv,hb⟩
  have B1 := Aside0.mk (show Below w.heap.size w w1 from HM.out ▸ hb)
  obtain ⟨A1,c1,rfl⟩ := Kd.R_slice hv
  have CV := Aside0.mk (Kd.R_reads' hv).2.2
  have FV := Aside0.mk (show Kd.F k34 w1 (fun k => M ≤ k ∧ k < w1.heap.size) A1 nt.length nt from Kd.F_mono (Kd.R_F (Kd.R_bound hv)) (fun k hk => ⟨hk.2.1,hk.2.2.1⟩))
  clear hb hv NT
  go_wp2_with (fail)
  refine (once_may A1 nt.length c1 nt L w1 (HA.out.below B1.out) DT.out (by have := HL.out.few;omega) CV.out OI.out.2.1 (by have := OI.out.2.2;have := LN.out;omega)).mono ?_
  rintro e w3 ⟨rfl,hb⟩
  have B3 := Aside0.mk (B1.out.trans (hb.mono B1.out.size))
  have FV3 := Aside0.mk (show Kd.F k34 w3 (fun k => M ≤ k ∧ k < w3.heap.size) A1 nt.length nt from Kd.F_mono (Kd.F_below FV.out hb) (fun k hk => ⟨hk.1,Nat.lt_of_lt_of_le hk.2 hb.size⟩))
  have HA3 := Aside0.mk (HA.out.below B3.out)
  rw [HMC.out]
  have NB := Aside0.mk (show nt.length ≤ 1000 by have := OI.out.2.2;have := LN.out;omega)
  have MN := Aside0.mk (show M ≤ w3.heap.size from HM.out ▸ B3.out.size)
  clear hb CV FV B1
  obtain ⟨m,hm⟩ : ∃ m,nt.length = m := ⟨_,rfl⟩
  have LM := Aside0.mk hm
  rw [hm]
  rw [hm] at FV3 NB
  have m0 : m ≤ 1000 := NB.out
  clear hm
  go_wp2_with (fail)
  go_loopw [9,31] (fun v iv wr => ∃ i : Nat,iv = .int .i64 (i : Int) ∧ i ≤ m ∧ Aside0 (AppI N M w3.heap.size w3 wr o b t D v (mulD 1 (nt.take i) L) (tellD L (nt.take i)))) (fun _ iv _ => m - (intOf iv).toNat)
  case atStart => exact ⟨0,rfl,Nat.zero_le _,⟨⟨t,D,DT.out,HA3.out,BagCh.same (Below.refl _ _),Kd.N_nil _ _ _ _ _,fun k hk => by simp [Value.ownBlock] at hk⟩⟩⟩
  case round =>
    rename World => wr
    rename Value => vb
    obtain ⟨i,rfl,hi,AI⟩ := hrel
    obtain ⟨ti,Di,hdi,hoi,hci,hni,hvi⟩ := AI.out.ex
    have DTI := Aside0.mk hdi
    have OAI := Aside0.mk hoi
    have CHI := Aside0.mk hci
    have NVI := Aside0.mk hni
    have OVI := Aside0.mk hvi
    obtain ⟨Ab,cb,eb⟩ := Kd.N_slice hni
    obtain ⟨Lb,hLb⟩ : ∃ Lb,tellD L (nt.take i) = Lb := ⟨_,rfl⟩
    have HLB := Aside0.mk hLb
    rw [hLb] at NVI eb
    have LBL := Aside0.mk (show Lb.length ≤ 100000 by have := tell_len L (nt.take i);rw [hLb,List.length_take] at this;omega)
    subst eb
    clear AI hdi hoi hci hni hvi hLb
    by_cases hin : i < m
    · have k0 : decide ((i : Int) < (m : Int)) = true := decide_eq_true (by omega)
      have k0' : decide (i < m) = true := decide_eq_true hin
      have p0 : (0 : Int) ≤ (i : Int) := by omega
      have p1 : (i : Int) < (m : Int) := by omega
      obtain ⟨x,hx⟩ : ∃ x,nt[i]? = some x := ⟨nt[i]'(by have := LM.out;omega),List.getElem?_eq_getElem _⟩
      have FVR := Aside0.mk (show Kd.F k34 wr (fun k => M ≤ k ∧ k < w3.heap.size) A1 m nt from Kd.F_step FV3.out (fun k hk hlt => CHI.out.ch.block k hk.2 (fun s => by have := LTO.out k (.inr (s.elim .inl (fun q => .inr (.inl q))));have := hk.1;omega)))
      obtain ⟨ad,Ax,cx,e1,x0,x1,hxk,hxf⟩ := ent_getF FVR.out hin hx
      subst e1
      have XK := Aside0.mk hxk
      have XF := Aside0.mk hxf
      have XO := Aside0.mk (OI.out.2.1 x (List.mem_of_getElem? hx))
      have MT := Aside0.mk (mul_take OI.out.1 OI.out.2.1 HL.out.srt HL.out.ok AD.out hx)
      have TS := Aside0.mk (tell_snoc (L := L) hx)
      rw [HLB.out] at TS
      clear hx hxk hxf
      obtain ⟨xr,xm⟩ := x
      simp only at *
      obtain ⟨q,hq⟩ : ∃ q,manyD xr L = q := ⟨_,rfl⟩
      rw [hq] at MT
      have QB := Aside0.mk (many_bd (r := xr) HL.out.ok)
      rw [hq] at QB
      have TE := Aside0.mk (show tell1 L ⟨xr,xm⟩ = if q = 0 then [⟨xr,1⟩] else if q + xm = 0 then [⟨xr,-1⟩] else [] by unfold tell1;simp only;rw [hq])
      have q0 := QB.out.1
      have q1 := QB.out.2
      have m1 := XO.out.2.2.1
      have m2 := XO.out.2.2.2
      clear hq
      go_wp2_with (fail)
      have BA := below_alloc (Below.refl wr.heap.size wr) (Obj.cells #[.slice Ax xr.length cx,.int .i64 xm] 34)
      have XF5 := Aside0.mk (Kd.F_below XF.out BA)
      have OA5 := Aside0.mk (OAI.out.below BA)
      have BC5 := Aside0.mk (CHI.out.trans (BagCh.same BA))
      have NV5 := Aside0.mk (N_bagged NVI.out (BagCh.same BA))
      have e0 := (blk_cell (blk_new wr (Obj.cells #[.slice Ax xr.length cx,.int .i64 xm] 34)) 0).trans rfl
      have e1 := (blk_cell (blk_new wr (Obj.cells #[.slice Ax xr.length cx,.int .i64 xm] 34)) 1).trans rfl
      have GW := Aside0.mk (fun k (hk : BagOwn b ti Di k) => Nat.ne_of_lt (OAI.out.bag.bag.own_lt k hk))
      obtain ⟨g,hg⟩ : ∃ g,wr.heap.size = g := ⟨_,rfl⟩
      rw [hg] at e0 e1 GW ⊢
      clear BA x0 x1 XF OAI CHI NVI FVR hg
      generalize wr.alloc (Obj.cells #[.slice Ax xr.length cx,.int .i64 xm] 34) = w5 at *
      have o5 := (blk_cell OA5.out.blk 0).trans rfl
      have BM := Aside0.mk (bag_many b ti Ax cx xr w5.drew (OA5.out.bag.bag.below ((SameW.drew w5).below _)) ⟨XK.out,Kd.F_now (Kd.F_below XF5.out ((SameW.drew w5).below _))⟩)
      rw [DTI.out,MT.out.2] at BM
      go_region_held3 (fun w' => w'.cell? ⟨o,0,none⟩ = some (.pointer (some ⟨b,0,none⟩)) ∧ w'.cell? ⟨g,0,none⟩ = some (.slice Ax xr.length cx)) (first | go_keep | exact ⟨by assumption,by assumption⟩) (first
        | (go_at_call 18;(with_reducible refine BM.out.mono ?_);rintro e w6 ⟨rfl,hb⟩;replace o5 := (hb.cell (World.block_lt_of_cell? _ _ o5)).trans o5;replace e0 := (hb.cell (World.block_lt_of_cell? _ _ e0)).trans e0;replace e1 := (hb.cell (World.block_lt_of_cell? _ _ e1)).trans e1;have B6 := Aside0.mk (show Below w5.heap.size w5 w6 from ((SameW.drew w5).below _).trans hb);clear hb))
      have XF6 := Aside0.mk (Kd.F_below XF5.out B6.out)
      have OA6 := Aside0.mk (OA5.out.below B6.out)
      have BC6 := Aside0.mk (BC5.out.trans (BagCh.same B6.out))
      have NV6 := Aside0.mk (N_bagged NV5.out (BagCh.same B6.out))
      clear XF5 OA5 BC5 NV5 B6 BM
      go_wp2_with (fail)
      have BAD := Aside0.mk (bag_add b ti Ax cx xr xm w6.drew (OA6.out.bag.bag.below ((SameW.drew w6).below _)) ⟨XK.out,Kd.F_now (Kd.F_below XF6.out ((SameW.drew w6).below _))⟩ (by rw [← doc_len,DTI.out];have := mul_len 1 (nt.take i) L HL.out.srt HL.out.ok;have := HL.out.few;rw [List.length_take] at *;omega))
      rw [DTI.out,MT.out.1] at BAD
      simp only at BAD
      go_region_held3 (fun w' => w'.cell? ⟨o,0,none⟩ = some (.pointer (some ⟨b,0,none⟩)) ∧ w'.cell? ⟨g,0,none⟩ = some (.slice Ax xr.length cx) ∧ w'.cell? ⟨g,1,none⟩ = some (.int .i64 xm)) (first | go_keep | exact ⟨by assumption,by assumption,by assumption⟩) (first
        | (go_at_call 16;(with_reducible refine BAD.out.mono ?_);rintro e w7 ⟨t7,D7,rfl,hd7,hb7,hc7⟩;have HC7 := Aside0.mk hc7.ch;replace o5 := keep_cell HC7.out (show w6.drew.cell? ⟨o,0,none⟩ = _ from o5) (fun s => OA6.out.o_not (s.elim .inl (fun q => .inr (.inl q))));replace e0 := keep_cell HC7.out (show w6.drew.cell? ⟨g,0,none⟩ = _ from e0) (fun s => GW.out g (s.elim .inl (fun q => .inr (.inl q))) rfl);replace e1 := keep_cell HC7.out (show w6.drew.cell? ⟨g,1,none⟩ = _ from e1) (fun s => GW.out g (s.elim .inl (fun q => .inr (.inl q))) rfl);have DT7 := Aside0.mk hd7;have BB7 := Aside0.mk hb7;have BCC := Aside0.mk (show BagCh w6 w7 b ti t7 Di D7 from (BagCh.same ((SameW.drew w6).below _)).trans hc7);clear hd7 hb7 hc7))
      have OA7 := Aside0.mk (show OnceAt N w7 o b t7 D7 from ⟨BCC.out.ch.blk OA6.out.blk (fun s => OA6.out.o_not (s.elim .inl (fun q => .inr (.inl q)))),⟨BB7.out,fun k hk => (BCC.out.own k hk).elim (OA6.out.bag.own k) (fun q => Nat.le_trans (Nat.le_trans (Nat.le_trans NM.out MN.out) BC6.out.ch.size) q)⟩,OA6.out.o_le,fun ho => (BCC.out.own o ho).elim OA6.out.o_not (fun q => by have := blk_lt OA6.out.blk;omega)⟩)
      have BC7 := Aside0.mk (BC6.out.trans BCC.out)
      have NV7 := Aside0.mk (N_bagged NV6.out BCC.out)
      have XF7 := Aside0.mk (show Kd.F k66 w7 (fun k => M ≤ k ∧ k < w3.heap.size) Ax xr.length xr from Kd.F_step XF6.out (fun k hk hlt => BCC.out.ch.block k hlt (fun s => (BC6.out.own k (s.elim .inl (fun q => .inr (.inl q)))).elim (fun q => by have := LTO.out k (.inr q);have := hk.1;omega) (fun q => by have := hk.2;omega))))
      have MW7 := Aside0.mk (show M ≤ w7.heap.size from Nat.le_trans MN.out BC7.out.ch.size)
      have HOK := Aside0.mk (show ∀ k,(M ≤ k ∧ k < w3.heap.size) → (M ≤ k ∧ ¬ BagOwn b t7 D7 k) ∧ some k ≠ (Value.slice Ab Lb.length cb).ownBlock from fun k hk => ⟨⟨hk.1,fun ho => (BC7.out.own k ho).elim (fun q => by have := LTO.out k (.inr q);have := hk.1;omega) (fun q => by have := hk.2;omega)⟩,fun e => by have := OVI.out k e.symm;have := hk.2;omega⟩)
      have HFR := Aside0.mk (show ∀ k,w7.heap.size ≤ k → M ≤ k ∧ ¬ BagOwn b t7 D7 k from fun k hk => ⟨Nat.le_trans MW7.out hk,fun ho => by have := OA7.out.bag.bag.own_lt k ho;omega⟩)
      clear BAD OA6 BC6 NV6 XF6 BCC BB7
      by_cases c2 : q = 0
      · have d2 : (q == 0) = true := by simp [c2]
        have TE2 := Aside0.mk (show tellD L (nt.take (i + 1)) = Lb ++ [⟨xr,1⟩] by rw [TS.out,TE.out,if_pos c2])
        clear c2
        go_wp2_with (((with_reducible refine gate_builtin (b := .append) (xs := #[.tmp 54,.tmp 58]) rfl ?_);at_builtin;refine Kd.N_append k34 (w0 := w7) M rfl (.tmp 54) (.tmp 58) 22 34 (.agg #[(.slice none 0 0),(.int .i64 0)]) 32 rfl Try.underlying22 info34 rfl (by decide) (by omega) (.slice Ab Lb.length cb) Lb (⟨xr,1⟩ : En) [.slice Ax xr.length cx,.int .i64 1] (fun k => M ≤ k ∧ ¬ BagOwn b t7 D7 k) (fun k => M ≤ k ∧ k < w3.heap.size) rfl rfl (k34_mkF _ _ (⟨xr,1⟩ : En) XK.out XF7.out) HOK.out HFR.out NV7.out (Below.refl _ _) MW7.out (by have := LBL.out;omega) ?_;intro v8 w8 hv _ hg hat;have NV8 := Aside0.mk hv;have GR8 := Aside0.mk hg;have AT8 := Aside0.mk hat;clear hv hg hat))
        have CH8 := Aside0.mk (ch_grown (S := fun k => some k = (Value.slice Ab Lb.length cb).ownBlock) GR8.out (fun k e => e.symm))
        have OA8 := Aside0.mk (OA7.out.keep CH8.out (fun k s ho => by
          have h1 := NV7.out.1 k s.symm
          rcases ho with rfl | q2
          · have := LTO.out _ (.inl rfl);have := h1.1;omega
          · exact h1.2 q2))
        have BC8 := Aside0.mk (BC7.out.more CH8.out (fun k s => OVI.out k s.symm))
        have OV8 := Aside0.mk (own_new2 OVI.out (Nat.le_trans BC7.out.ch.size (Nat.le_refl _)) AT8.out)
        go_roundw
        case rel => exact ⟨i + 1,by go_num,hin,⟨⟨t7,D7,DT7.out,OA8.out,BC8.out,by rw [TE2.out];exact NV8.out,OV8.out⟩⟩⟩
        case measure => simp [intOf];omega
      · have d2 : (q == 0) = false := by simp [c2]
        by_cases c3 : q + xm = 0
        · have d3 : (q + xm == 0) = true := by simp [c3]
          have TE2 := Aside0.mk (show tellD L (nt.take (i + 1)) = Lb ++ [⟨xr,-1⟩] by rw [TS.out,TE.out,if_neg c2,if_pos c3])
          clear c2 c3
          go_wp2_with (((with_reducible refine gate_builtin (b := .append) (xs := #[.tmp 66,.tmp 70]) rfl ?_);at_builtin;refine Kd.N_append k34 (w0 := w7) M rfl (.tmp 66) (.tmp 70) 22 34 (.agg #[(.slice none 0 0),(.int .i64 0)]) 32 rfl Try.underlying22 info34 rfl (by decide) (by omega) (.slice Ab Lb.length cb) Lb (⟨xr,(-1)⟩ : En) [.slice Ax xr.length cx,.int .i64 (-1)] (fun k => M ≤ k ∧ ¬ BagOwn b t7 D7 k) (fun k => M ≤ k ∧ k < w3.heap.size) rfl rfl (k34_mkF _ _ (⟨xr,(-1)⟩ : En) XK.out XF7.out) HOK.out HFR.out NV7.out (Below.refl _ _) MW7.out (by have := LBL.out;omega) ?_;intro v8 w8 hv _ hg hat;have NV8 := Aside0.mk hv;have GR8 := Aside0.mk hg;have AT8 := Aside0.mk hat;clear hv hg hat))
          have CH8 := Aside0.mk (ch_grown (S := fun k => some k = (Value.slice Ab Lb.length cb).ownBlock) GR8.out (fun k e => e.symm))
          have OA8 := Aside0.mk (OA7.out.keep CH8.out (fun k s ho => by
            have h1 := NV7.out.1 k s.symm
            rcases ho with rfl | q2
            · have := LTO.out _ (.inl rfl);have := h1.1;omega
            · exact h1.2 q2))
          have BC8 := Aside0.mk (BC7.out.more CH8.out (fun k s => OVI.out k s.symm))
          have OV8 := Aside0.mk (own_new2 OVI.out (Nat.le_trans BC7.out.ch.size (Nat.le_refl _)) AT8.out)
          go_roundw
          case rel => exact ⟨i + 1,by go_num,hin,⟨⟨t7,D7,DT7.out,OA8.out,BC8.out,by rw [TE2.out];exact NV8.out,OV8.out⟩⟩⟩
          case measure => simp [intOf];omega
        · have d3 : (q + xm == 0) = false := by simp [c3]
          have TE2 := Aside0.mk (show tellD L (nt.take (i + 1)) = Lb by rw [TS.out,TE.out,if_neg c2,if_neg c3,List.append_nil])
          clear c2 c3
          go_wp2_with (fail)
          go_roundw
          case rel => exact ⟨i + 1,by go_num,hin,⟨⟨t7,D7,DT7.out,OA7.out,BC7.out,by rw [TE2.out];exact NV7.out,OVI.out⟩⟩⟩
          case measure => simp [intOf];omega
    · have k0 : decide ((i : Int) < (m : Int)) = false := decide_eq_false (by omega)
      have k0' : decide (i < m) = false := decide_eq_false hin
      have TK := Aside0.mk (show nt.take i = nt from List.take_of_length_le (by have := LM.out;omega))
      rw [TK.out] at DTI HLB
      go_wp2_with (fail)
      go_ret2
      exact ⟨_,ti,Di,rfl,DTI.out,OAI.out,(BagCh.same B3.out).trans CHI.out,by rw [HLB.out];exact NVI.out⟩
end Go.Proofs.Ythmbfcfomcaaaaa.Z
end
section
namespace Go.Proofs.Ythmbfcfomcaaaaa.Z
set_option linter.unusedVariables false
set_option linter.unusedSimpArgs false
open Go.RowKit Go.Proofs.YthmbfcfomcaaaaaW.PrintWords Go.Proofs.YthmbfcfomcaaaaaW.PrintLast Go.Proofs.YthmbfcfomcaaaaaW.PrintMore Go.Proofs.Ythmbfcfomcaaaaa.Cmp
theorem ones_set {L : List En} {i : Nat} {x : En} (hx : L[i]? = some x) : (onesD (L.take i) ++ L.drop i).set i ⟨x.f0,1⟩ = onesD (L.take (i + 1)) ++ L.drop (i + 1) := by
  have hi : i < L.length := (List.getElem?_eq_some_iff.1 hx).1
  have e2 : L.take (i + 1) = L.take i ++ [x] := by rw [List.take_add_one,hx];rfl
  have hlen : (onesD (L.take i)).length = i := by unfold onesD;rw [List.length_map,List.length_take];omega
  rw [List.drop_eq_getElem_cons hi,e2,List.set_append_right _ _ (by omega),hlen,Nat.sub_self,List.set_cons_zero]
  unfold onesD
  rw [List.map_append,List.append_assoc]
  rfl
theorem ones_get {L : List En} {i : Nat} {x : En} (hx : L[i]? = some x) : (onesD (L.take i) ++ L.drop i)[i]? = some x := by
  have hi : i < L.length := (List.getElem?_eq_some_iff.1 hx).1
  have hlen : (onesD (L.take i)).length = i := by unfold onesD;rw [List.length_map,List.length_take];omega
  rw [List.getElem?_append_right (by omega),hlen,Nat.sub_self,List.getElem?_drop,Nat.add_zero,hx]
set_option maxHeartbeats 4000000 in
set_option maxRecDepth 100000 in
theorem once_rows {N : Nat} {o b : Nat} {t : Tr} {D : Nat → Prop} (L : List En) (w : World) (h : OnceAt N w o b t D) (hd : docT t = L) (hl : L.length ≤ 100000) :
    Calls Try.prog 51 #[.pointer (some ⟨o,0,none⟩)] w fun e w' => ∃ v,e = .returned v ∧ Kd.R k34 34 w' w.heap.size (fun _ => True) v (onesD L) ∧ Below w.heap.size w w' := by
  have BR := Aside0.mk (bag_rows b t w h.bag.bag (by rw [← doc_len,hd];omega))
  rw [hd] at BR
  have o0 := (blk_cell h.blk 0).trans rfl
  obtain ⟨M,hM⟩ : ∃ M,w.heap.size = M := ⟨_,rfl⟩
  have HM := Aside0.mk hM
  rw [hM] at BR ⊢
  obtain ⟨n,hn⟩ : ∃ n,L.length = n := ⟨_,rfl⟩
  have LN := Aside0.mk hn
  rw [hn] at hl
  clear h hd hM hn
  go_enter Try.func51,Try.ntmps51
  go_wp2_with (fail)
  refine BR.out.mono ?_
  rintro e w1 ⟨v,rfl,hv,hb⟩
  have B1 := Aside0.mk hb
  obtain ⟨A,c,rfl⟩ := Kd.R_slice hv
  have RV := Aside0.mk hv
  rw [LN.out]
  rw [LN.out] at RV
  clear hb hv BR
  go_wp2_with (fail)
  go_loopw [14] (fun iv wr => ∃ i : Nat,iv = .int .i64 (i : Int) ∧ i ≤ n ∧ Aside0 (Kd.R k34 34 wr M (fun _ => True) (.slice A n c) (onesD (L.take i) ++ L.drop i)) ∧ Aside0 (Below M w wr)) (fun iv _ => n - (intOf iv).toNat)
  case atStart => exact ⟨0,rfl,Nat.zero_le _,⟨by rw [List.take_zero,List.drop_zero];exact RV.out⟩,B1⟩
  case round =>
    clear RV B1
    obtain ⟨i,rfl,hi,RI,IB⟩ := hrel
    by_cases hin : i < n
    · have k0 : decide ((i : Int) < (n : Int)) = true := decide_eq_true (by omega)
      have k0' : decide (i < n) = true := decide_eq_true hin
      have p0 : (0 : Int) ≤ (i : Int) := by omega
      have p1 : (i : Int) < (n : Int) := by omega
      obtain ⟨x,hx⟩ : ∃ x,L[i]? = some x := ⟨L[i]'(by have := LN.out;omega),List.getElem?_eq_getElem _⟩
      have HX := Aside0.mk hx
      obtain ⟨g,cap,hg,_⟩ := Kd.R_form RI.out (by rw [List.length_append,List.length_drop];have := LN.out;unfold onesD;rw [List.length_map,List.length_take];omega)
      injection hg with hg1 hg2 hg3
      subst hg1
      obtain ⟨cs,hcl,hM,hcc,_⟩ := Kd.R_elem RI.out z34 (i : Int) p0 (by omega)
      simp only [Int.toNat_natCast] at hM hcc
      rw [List.getD_eq_getElem?_getD,ones_get hx] at hM
      obtain ⟨v0,rfl,hr0⟩ := k34_openM hM
      have HR0 := Aside0.mk hr0
      have HCC := Aside0.mk (show ∀ (j : Nat) (u : Value),[v0,Value.int .i64 x.f1][j]? = some u → wr.cell? ⟨g,(i : Int).toNat * 2 + j,none⟩ = some u from fun j u hj => by
        rw [Int.toNat_natCast]
        exact hcc j u hj)
      clear hg2 hg3 hx hcl hM hcc hr0
      have OFF := Aside0.mk (show i * 2 + 1 = (i : Int).toNat * k34.sz + 1 from rfl)
      have HMM := Aside0.mk (show k34.M wr M (fun k => True ∧ k ≠ g) (⟨x.f0,1⟩ : En) ([v0,Value.int .i64 x.f1].take 1 ++ [.int .i64 1] ++ [v0,Value.int .i64 x.f1].drop (1 + [Value.int .i64 1].length)) from k34_mkM _ _ _ (⟨x.f0,1⟩ : En) HR0.out)
      have HSZ := Aside0.mk (show 1 + [Value.int .i64 1].length ≤ k34.sz from Nat.le_refl 2)
      have HON := Aside0.mk (show ∀ q ∈ [Value.int .i64 1],q.oneCell' = true from fun q hq => by simp at hq;subst hq;rfl)
      have HTS := Aside0.mk (show (Try.prog.info? 2).map (·.size) = some [Value.int .i64 1].length by kernel_rfl)
      go_wp2_with (((with_reducible refine gate_store (t := 2) (p := 20) (v := .const (.int .i64 1)) rfl ?_);refine Kd.R_store k34 (w0 := w) M rfl rfl 2 (.tmp 20) (.const (.int .i64 1)) rfl 34 (i : Int) 1 (onesD (L.take i) ++ L.drop i) (⟨x.f0,1⟩ : En) (.int .i64 1) [.int .i64 1] [v0,.int .i64 x.f1] (fun _ => True) (fun k => True ∧ k ≠ g) rfl OFF.out rfl rfl HTS.out HON.out RI.out p0 p1 rfl HCC.out HSZ.out HMM.out (fun k hk => hk) IB.out ?_;intro w4 hv hb hg;have RI4 := Aside0.mk hv;have IB4 := Aside0.mk hb;clear hv hb hg))
      have RI5 := Aside0.mk (show Kd.R k34 34 w4 M (fun _ => True) (.slice (some ⟨g,0,none⟩) n c) (onesD (L.take (i + 1)) ++ L.drop (i + 1)) by have := RI4.out;rw [Int.toNat_natCast,ones_set HX.out] at this;exact this)
      clear RI4
      go_roundw
      case rel => exact ⟨i + 1,by go_num,hin,RI5,IB4⟩
      case measure => simp [intOf];omega
    · have k0 : decide ((i : Int) < (n : Int)) = false := decide_eq_false (by omega)
      have k0' : decide (i < n) = false := decide_eq_false hin
      have RE := Aside0.mk (show Kd.R k34 34 wr M (fun _ => True) (.slice A n c) (onesD L) by
        have := RI.out
        rw [List.take_of_length_le (by have := LN.out;omega),List.drop_of_length_le (by have := LN.out;omega),List.append_nil] at this
        exact this)
      clear RI
      go_wp2_with (fail)
      go_ret
      exact ⟨_,rfl,RE.out,IB.out⟩
end Go.Proofs.Ythmbfcfomcaaaaa.Z
end
section
namespace Go.Proofs.Ythmbfcfomcaaaaa.Z
set_option linter.unusedVariables false
set_option linter.unusedSimpArgs false
open Go.RowKit Go.Proofs.YthmbfcfomcaaaaaW.PrintWords Go.Proofs.YthmbfcfomcaaaaaW.PrintLast Go.Proofs.YthmbfcfomcaaaaaW.PrintMore Go.Proofs.Ythmbfcfomcaaaaa.Cmp
theorem ent_one {w : World} {g c : Nat} {A : Option Addr} {x : En} (h : w.heap[g]? = some (.cells #[.slice A x.f0.length c,.int .i64 x.f1] 34 (0,0))) (hr : RowC w A c x.f0) : Kd.C k34 w (some ⟨g,0,none⟩) 1 [x] :=
  ⟨rfl,by simp,fun _ => ⟨_,rfl,fun j p hj => by
    cases j with
    | succ j => simp at hj
    | zero =>
      simp only [List.getElem?_cons_zero,Option.some.injEq] at hj
      subst hj
      refine ⟨_,rfl,k34_mk w x hr.cap hr.row,fun i u hi => ?_⟩
      rw [Nat.zero_mul,Nat.zero_add,add_plain]
      have h1 := blk_cell h i
      rw [h1,← hi]
      simp⟩⟩
theorem n_one {w : World} {M : Nat} {ok : Nat → Prop} {v : Value} {x : En} (h : Kd.N k34 34 w M ok v [x]) : ∃ g c,v = .slice (some ⟨g,0,none⟩) 1 c ∧ w.cell? ⟨g,1,none⟩ = some (.int .i64 x.f1) := by
  obtain ⟨g,c,rfl,_⟩ := Kd.N_form h (by simp)
  have hC := (Kd.N_reads' h).2.2
  obtain ⟨ad,A0,c0,e1,h0,h1,_⟩ := ent_get hC (i := 0) (by simp) (x := x) rfl
  injection e1 with e1
  subst e1
  exact ⟨g,c,rfl,by simpa [Addr.add] using h1⟩
theorem ap1 : appD [⟨[knV 1],2⟩] [] = (0,[⟨[knV 1],1⟩],[⟨[knV 1],2⟩]) := by kernel_rfl
theorem ap2 : appD [⟨[knV 1],-1⟩] [⟨[knV 1],2⟩] = (0,[],[⟨[knV 1],1⟩]) := by kernel_rfl
theorem ap3 : appD [⟨[knV 1],-1⟩] [⟨[knV 1],1⟩] = (0,[⟨[knV 1],-1⟩],[]) := by kernel_rfl
theorem apply_one {N : Nat} {o b g c : Nat} {t : Tr} {D : Nat → Prop} {x : En} {L : List En} {A : Option Addr} {w W : World} {q : Int} {T L' : List En} (h : OnceAt N w o b t D) (hd : docT t = L) (hL : OnceD L) (hNM : N ≤ w.heap.size) (hr : RowC w A c x.f0) (hW : w.alloc (.cells #[.slice A x.f0.length c,.int .i64 x.f1] 34) = W) (hg : w.heap.size = g) (ha : appD [x] L = (q,T,L')) :
    Calls Try.prog 50 #[.pointer (some ⟨o,0,none⟩),.slice (some ⟨g,0,none⟩) 1 1] W fun e w' => ∃ v t' D',e = .returned (.tuple #[v,.int .i64 q]) ∧ docT t' = L' ∧ OnceD L' ∧ OnceAt N w' o b t' D' ∧ BagCh w w' b t t' D D' ∧ Kd.N k34 34 w' w.heap.size (fun k => w.heap.size ≤ k ∧ ¬ BagOwn b t' D' k) v T := by
  have BA : Below w.heap.size w W := hW ▸ below_alloc (Below.refl _ _) _
  have HB : W.heap[g]? = some (.cells #[.slice A x.f0.length c,.int .i64 x.f1] 34 (0,0)) := by rw [← hW,← hg];exact blk_new w _
  have h1 := once_apply (some ⟨g,0,none⟩) 1 1 [x] L W (h.below BA) hd hL (ent_one HB (hr.below BA)) (by omega) (Nat.le_trans hNM BA.size)
  have hl := (app_law (l := [x]) hL).1
  rw [ha] at h1 hl
  refine h1.mono ?_
  rintro e w' ⟨v,t',D',rfl,h2,h3,h4,h5⟩
  exact ⟨v,t',D',rfl,h2,hl,h3,(BagCh.same BA).trans h4,Kd.N_mono (Kd.N_lower h5 BA.size) (fun k hk => ⟨Nat.le_trans BA.size hk.1,hk.2⟩)⟩
set_option maxHeartbeats 4000000 in
set_option maxRecDepth 100000 in
theorem known20_at (w : World) : Calls Try.prog 49 #[] w fun e w' => e = .returned (.bool true) ∧ Below w.heap.size w w' := by
  obtain ⟨N,hN⟩ : ∃ N,w.heap.size = N := ⟨_,rfl⟩
  have I0 := Aside0.mk (NextW.refl w)
  have ON := Aside0.mk (once_new w)
  rw [hN] at I0 ON ⊢
  clear hN
  go_enter Try.func49,Try.ntmps49
  go_wp2_with (fail)
  refine ON.out.mono ?_
  rintro e w1 ⟨o,b,rfl,hA,hb⟩
  have I1 := Aside0.mk (NextW.mk hb (Nat.le_trans hA.o_le (Nat.le_of_lt (blk_lt hA.blk))))
  have HA := Aside0.mk hA
  clear hA hb I0 ON
  go_upto_region 3 with (fail)
  have B2 : Below w1.heap.size w1 (w1.alloc (Obj.cells #[.int .i64 2,.bool false,.int .i64 1,.string ⟨#[]⟩] 66)) := below_alloc (Below.refl w1.heap.size w1) _
  have I2 := Aside0.mk (I1.out.next B2)
  have R2 := Aside0.mk (show Lit (w1.alloc (Obj.cells #[.int .i64 2,.bool false,.int .i64 1,.string ⟨#[]⟩] 66)) (BagOwn b .nil fun _ => False) w1.heap.size (knV 1) from ⟨blk_new w1 _,fun ho => absurd (HA.out.bag.bag.own_lt _ ho) (Nat.lt_irrefl _)⟩)
  have HA2 := Aside0.mk (HA.out.below B2)
  obtain ⟨x1,hx1⟩ : ∃ x1,w1.heap.size = x1 := ⟨_,rfl⟩
  rw [hx1] at R2 ⊢
  clear hx1 I1 HA B2
  generalize w1.alloc (Obj.cells #[.int .i64 2,.bool false,.int .i64 1,.string ⟨#[]⟩] 66) = w2 at *
  go_wp2_with (fail)
  refine (apply_one (x := ⟨[knV 1],2⟩) HA2.out rfl once_nil I2.out.le R2.out.row rfl rfl ap1).mono ?_
  rintro e w3 ⟨v3,t3,D3,rfl,hd,hl,hA,hc,hv⟩
  have D3E := Aside0.mk hd
  have L3 := Aside0.mk hl
  have HA3 := Aside0.mk hA
  have R3 := Aside0.mk (R2.out.step hc.off)
  have I3 := Aside0.mk (I2.out.nextN (hc.ch.toBelow I2.out.le (fun k s => HA2.out.bag.own k (s.elim .inl (fun q => .inr (.inl q))))))
  have V3 := Aside0.mk (Kd.N_mono (Kd.N_lower hv (Nat.zero_le _)) (fun k hk => (⟨Nat.zero_le k,hk.2⟩ : 0 ≤ k ∧ ¬ BagOwn b t3 D3 k)))
  clear hd hl hA hc hv HA2 R2 I2
  go_wp2_with (fail)
  refine (apply_one (x := ⟨[knV 1],-1⟩) HA3.out D3E.out L3.out I3.out.le R3.out.row rfl rfl ap2).mono ?_
  rintro e w4 ⟨v4,t4,D4,rfl,hd,hl,hA,hc,hv⟩
  have D4E := Aside0.mk hd
  have L4 := Aside0.mk hl
  have HA4 := Aside0.mk hA
  have R4 := Aside0.mk (R3.out.step hc.off)
  have I4 := Aside0.mk (I3.out.nextN (hc.ch.toBelow I3.out.le (fun k s => HA3.out.bag.own k (s.elim .inl (fun q => .inr (.inl q))))))
  have V4 := Aside0.mk (N_bagged V3.out hc)
  obtain ⟨A4,c4,rfl⟩ := Kd.N_slice hv
  clear hd hl hA hc hv HA3 R3 I3 V3
  go_wp2_with (fail)
  refine (apply_one (x := ⟨[knV 1],-1⟩) HA4.out D4E.out L4.out I4.out.le R4.out.row rfl rfl ap3).mono ?_
  rintro e w5 ⟨v5,t5,D5,rfl,hd,hl,hA,hc,hv⟩
  have I5 := Aside0.mk (I4.out.nextN (hc.ch.toBelow I4.out.le (fun k s => HA4.out.bag.own k (s.elim .inl (fun q => .inr (.inl q))))))
  obtain ⟨g3,c3,e3,z3⟩ := n_one (N_bagged V4.out hc)
  obtain ⟨g5,c5,e5,z5⟩ := n_one hv
  subst e3 e5
  clear hd hl hA hc hv HA4 R4 I4 V4
  go_wp2_with (fail)
  go_ret
  exact ⟨rfl,I5.out.at_⟩
end Go.Proofs.Ythmbfcfomcaaaaa.Z
end
section
namespace Go.Proofs.Ythmbfcfomcaaaaa.Z
set_option linter.unusedVariables false
set_option linter.unusedSimpArgs false
open Go.RowKit Go.Proofs.YthmbfcfomcaaaaaW.PrintWords Go.Proofs.YthmbfcfomcaaaaaW.PrintLast Go.Proofs.YthmbfcfomcaaaaaW.PrintMore Go.Proofs.Ythmbfcfomcaaaaa.Cmp
end Go.Proofs.Ythmbfcfomcaaaaa.Z
end
section
namespace Go.Proofs.Ythmbfcfomcaaaaa.Z
open Go.RowKit Go.Proofs.YthmbfcfomcaaaaaW.PrintWords Go.Proofs.YthmbfcfomcaaaaaW.PrintLast Go.Proofs.YthmbfcfomcaaaaaW.PrintMore
attribute [local go_sem] max2_int min2_int max_two min_two max_three min_three max_four min_four
set_option linter.unusedVariables false
set_option linter.unusedSimpArgs false
def verdererlaw20_few.l0 : Nat → List (S34) → Int → Option (Bool)
  | 0,_,_ => none
  | k + 1,x0,x3 => if x3 < (x0.length : Int) then (if 0 ≤ x3 then (if (((rd_T34 x0 x3).f0).length : Int) > 50 then (some false) else (verdererlaw20_few.l0 k x0 (wrap64 (x3 + 1)))) else (none)) else (some true)
def verdererlaw20_few.f (k : Nat) (l0 : List (S34)) : Option (Bool) := if (l0.length : Int) > 60 then (some false) else (verdererlaw20_few.l0 k l0 0)
theorem verdererlaw20_few.mono_l : ∀ k,(∀ y0 y1,LeO (verdererlaw20_few.l0 k y0 y1) (verdererlaw20_few.l0 (k + 1) y0 y1))
  | 0 => fun _ _ r h => by simp [verdererlaw20_few.l0] at h
  | k + 1 => by
    have ih0 := verdererlaw20_few.mono_l k
    · intro y0 y1
      unfold verdererlaw20_few.l0
      repeat' first
      | (with_reducible exact ih0 _ _)
      | (with_reducible exact LeO.refl _)
      | (with_reducible exact LeO.none _)
      | (with_reducible refine LeO.ite ?_ ?_)
      | (with_reducible refine LeO.bind ?_ (fun _ => ?_))
      | exact ih0 _ _
      | exact LeO.none _
      | refine LeO.ite ?_ ?_
      | refine LeO.bind ?_ (fun _ => ?_)
theorem verdererlaw20_few.mono : ∀ a0 k,LeO (verdererlaw20_few.f k a0) (verdererlaw20_few.f (k + 1) a0) := by
  intro a0 k
  have ih0 := verdererlaw20_few.mono_l k
  unfold verdererlaw20_few.f
  repeat' first
      | (with_reducible exact ih0 _ _)
      | (with_reducible exact LeO.refl _)
      | (with_reducible exact LeO.none _)
      | (with_reducible refine LeO.ite ?_ ?_)
      | (with_reducible refine LeO.bind ?_ (fun _ => ?_))
      | exact ih0 _ _
      | exact LeO.none _
      | refine LeO.ite ?_ ?_
      | refine LeO.bind ?_ (fun _ => ?_)
set_option maxHeartbeats 8000000 in
set_option maxRecDepth 100000 in
theorem verdererlaw20_few.calls (k : Nat) (A0 : Option Addr) (c0 : Nat) (l0 : List (S34)) (r : Bool) (w : World) (hr0 : Kd.C k34 w A0 l0.length l0) (hc0 : l0.length ≤ c0) (h : verdererlaw20_few.f k l0 = some r) :
    Calls Try.prog 48 #[.slice A0 l0.length c0] w fun e w' => e = .returned (.bool r) ∧ Drawn0 w w' := by
  have HR0 := Aside0.mk hr0
  have HC0 := Aside0.mk hc0
  clear hr0 hc0
  have H : (if (l0.length : Int) > 60 then (some false) else (verdererlaw20_few.l0 k l0 0)) = some r := h
  clear h
  by_cases c2 : (l0.length : Int) > 60
  · rw [if_pos c2] at H
    have c2b0 : decide (60 < (l0.length : Int)) = true := decide_eq_true c2
    have c2b1 : decide (60 < l0.length) = true := decide_eq_true (by omega)
    clear c2
    obtain rfl := Option.some.inj H
    go_enter Try.func48,Try.ntmps48
    go_wp2
    go_ret
    exact ⟨by first | rfl | (simp;done) | (simp [*];done),by repeat (first | exact Drawn0.refl _ | apply Drawn0.step)⟩
  · rw [if_neg c2] at H
    have c2b0 : decide (60 < (l0.length : Int)) = false := decide_eq_false c2
    have c2b1 : decide (60 < l0.length) = false := decide_eq_false (by omega)
    clear c2
    have H' := Aside0.mk H
    clear H
    go_enter Try.func48,Try.ntmps48
    go_wp2
    go_loopg [3] k (fun kq v3 w' => ∃ (x3_1 : Int),v3 = .int .i64 x3_1 ∧ Aside0 (verdererlaw20_few.l0 kq l0 x3_1 = some r) ∧ Aside0 (kq ≤ k) ∧ Drawn0 w w')
    case atStart => exact ⟨(0),(by first | rfl | (simp;done) | (simp [*];done)),H',⟨Nat.le_refl _⟩,by repeat (first | exact Drawn0.refl _ | apply Drawn0.step)⟩
    case round =>
      clear H'
      try clear c2
      try clear c2b0
      try clear c2b1
      try clear p2
      obtain ⟨x3_1,rfl,HA,HK1,⟨m1,rfl⟩⟩ := hrel
      cases gk with
      | zero => exact absurd HA.out (by simp [verdererlaw20_few.l0])
      | succ k1 =>
        have H := HA.out
        clear HA
        simp only [verdererlaw20_few.l0] at H
        by_cases c3 : x3_1 < (l0.length : Int)
        · rw [if_pos c3] at H
          have c3b0 : decide (x3_1 < (l0.length : Int)) = true := decide_eq_true c3
          clear c3
          by_cases c4 : 0 ≤ x3_1
          · rw [if_pos c4] at H
            have c4b0 : decide (0 ≤ x3_1) = true := decide_eq_true c4
            clear c4
            by_cases c5 : (((rd_T34 l0 x3_1).f0).length : Int) > 50
            · rw [if_pos c5] at H
              have c5b0 : decide (50 < (((rd_T34 l0 x3_1).f0).length : Int)) = true := decide_eq_true c5
              have c5b1 : decide (50 < ((rd_T34 l0 x3_1).f0).length) = true := decide_eq_true (by omega)
              clear c5
              obtain rfl := Option.some.inj H
              have p260 : 0 ≤ (x3_1 : Int) := of_decide_eq_true (by first | (with_reducible assumption) | assumption)
              have q260 : x3_1 < (l0.length : Int) := of_decide_eq_true (by first | (with_reducible assumption) | assumption)
              obtain ⟨ad260,A260_0,c260_0,e260,hx260_0,hx260_1,hl260_0,hi260_0⟩ := at_T34 HR0.out x3_1 p260 q260
              cases e260
              have HR260_0 := Aside0.mk hi260_0
              have HC260_0 := Aside0.mk hl260_0
              clear hi260_0 hl260_0
              replace p260 := eq_true p260
              replace q260 := eq_true q260
              go_wp2
              go_ret
              exact ⟨by first | rfl | (simp;done) | (simp [*];done),by repeat (first | exact Drawn0.refl _ | apply Drawn0.step)⟩
            · rw [if_neg c5] at H
              have c5b0 : decide (50 < (((rd_T34 l0 x3_1).f0).length : Int)) = false := decide_eq_false c5
              have c5b1 : decide (50 < ((rd_T34 l0 x3_1).f0).length) = false := decide_eq_false (by omega)
              clear c5
              have H' := Aside0.mk H
              clear H
              have p260 : 0 ≤ (x3_1 : Int) := of_decide_eq_true (by first | (with_reducible assumption) | assumption)
              have q260 : x3_1 < (l0.length : Int) := of_decide_eq_true (by first | (with_reducible assumption) | assumption)
              obtain ⟨ad260,A260_0,c260_0,e260,hx260_0,hx260_1,hl260_0,hi260_0⟩ := at_T34 HR0.out x3_1 p260 q260
              cases e260
              have HR260_0 := Aside0.mk hi260_0
              have HC260_0 := Aside0.mk hl260_0
              clear hi260_0 hl260_0
              replace p260 := eq_true p260
              replace q260 := eq_true q260
              go_wp2
              go_roundg k1
              case measure => have := HK1.out;omega
              case rel => exact ⟨(wrap64 (x3_1 + 1)),(by first | rfl | (simp;done) | (simp [*];done)),H',⟨by have := HK1.out;omega⟩,by repeat (first | exact Drawn0.refl _ | apply Drawn0.step)⟩
          · rw [if_neg c4] at H
            exact absurd H (by simp)
        · rw [if_neg c3] at H
          have c3b0 : decide (x3_1 < (l0.length : Int)) = false := decide_eq_false c3
          clear c3
          obtain rfl := Option.some.inj H
          go_wp2
          go_ret
          exact ⟨by first | rfl | (simp;done) | (simp [*];done),by repeat (first | exact Drawn0.refl _ | apply Drawn0.step)⟩
end Go.Proofs.Ythmbfcfomcaaaaa.Z
end
section
namespace Go.Proofs.Ythmbfcfomcaaaaa.Z
set_option linter.unusedVariables false
set_option linter.unusedSimpArgs false
open Go.RowKit Go.Proofs.YthmbfcfomcaaaaaW.PrintWords Go.Proofs.YthmbfcfomcaaaaaW.PrintLast Go.Proofs.YthmbfcfomcaaaaaW.PrintMore Go.Proofs.Ythmbfcfomcaaaaa.Cmp
abbrev kEs := Kd.slice 34 k34
theorem rows_get {w : World} {A : Option Addr} {n : Nat} {Ls : List (List En)} (h : Kd.C kEs w A n Ls) {i : Nat} (hi : i < n) {xs : List En} (hx : Ls[i]? = some xs) :
    ∃ ad A0 c0,A = some ad ∧ w.cell? (ad.add i) = some (.slice A0 xs.length c0) ∧ EnsC w A0 c0 xs := by
  obtain ⟨ad,cs,e1,hcl,hK,hcc⟩ := Kd.C_get h [] (i : Int) (by omega) (by omega)
  simp only [Int.toNat_natCast] at hK hcc
  rw [List.getD_eq_getElem?_getD,hx] at hK
  obtain ⟨A0,c0,e2,hl,hC⟩ := hK
  subst e2
  have hc := hcc 0 _ rfl
  rw [Nat.add_zero,show i * kEs.sz = i from Nat.mul_one i] at hc
  exact ⟨ad,A0,c0,e1,hc,⟨hl,hC⟩⟩
theorem few20_l0 (l : List En) (hl : l.length ≤ 60) : ∀ d i k,l.length - i = d → i ≤ l.length → d < k → ∃ r,verdererlaw20_few.l0 k l (i : Int) = some r := by
  intro d
  induction d with
  | zero =>
    intro i k hd hi hk
    obtain ⟨k,rfl⟩ : ∃ m,k = m + 1 := ⟨k - 1,by omega⟩
    simp only [verdererlaw20_few.l0]
    rw [if_neg (by omega)]
    exact ⟨_,rfl⟩
  | succ d ih =>
    intro i k hd hi hk
    obtain ⟨k,rfl⟩ : ∃ m,k = m + 1 := ⟨k - 1,by omega⟩
    simp only [verdererlaw20_few.l0]
    rw [if_pos (by omega),if_pos (by omega),show wrap64 ((i : Int) + 1) = ((i + 1 : Nat) : Int) by unfold wrap64;omega]
    split
    · exact ⟨_,rfl⟩
    · exact ih (i + 1) k (by omega) (by omega) (by omega)
theorem few20_some (l : List En) : ∃ r,verdererlaw20_few.f 200 l = some r ∧ (r = true → l.length ≤ 60) := by
  unfold verdererlaw20_few.f
  by_cases h : (l.length : Int) > 60
  · rw [if_pos h];exact ⟨false,rfl,fun h => by cases h⟩
  · rw [if_neg h]
    obtain ⟨r,hr⟩ := few20_l0 l (by omega) l.length 0 200 (by omega) (by omega) (by omega)
    exact ⟨r,hr,fun _ => by omega⟩
theorem few20_at {l : List En} {r : Bool} (hf : verdererlaw20_few.f 200 l = some r) (A : Option Addr) (c : Nat) (w : World) (h : EnsC w A c l) : Calls Try.prog 48 #[.slice A l.length c] w fun e w' => e = .returned (.bool r) ∧ Below w.heap.size w w' := by
  refine (verdererlaw20_few.calls 200 A c l r w h.row h.cap hf).mono ?_
  rintro e w' ⟨rfl,hd⟩
  exact ⟨rfl,hd.below⟩
set_option maxHeartbeats 2000000 in
set_option maxRecDepth 100000 in
theorem ref_net (A : Option Addr) (n c : Nat) (l : List En) (w : World) (hl : Kd.C k34 w A n l) (hn : n ≤ 1000) (h0 : (ofD l []).1 = 0) :
    Calls Try.prog 52 #[.slice A n c] w fun e w' => ∃ A' c',e = .returned (.tuple #[.slice A' (ofD l []).2.length c',.int .i64 0]) ∧ EnsC w' A' c' (ofD l []).2 ∧ Below w.heap.size w w' := by
  have HO := Aside0.mk (ref_of A n c l w hl hn)
  obtain ⟨⟨q,L⟩,hq⟩ : ∃ x,ofD l [] = x := ⟨_,rfl⟩
  rw [hq] at HO h0 ⊢
  simp only at HO h0 ⊢
  subst h0
  clear hl hq
  go_enter Try.func52,Try.ntmps52
  go_wp2_with (fail)
  refine HO.out.mono ?_
  rintro e w1 ⟨p,q',L',he,rfl,hb,h1,h2⟩
  obtain ⟨rfl,rfl⟩ : 0 = q' ∧ L = L' := by injection he with e1 e2;exact ⟨e1,e2⟩
  obtain ⟨g,A',c',E,rfl,_,_,_,hR⟩ := h2 rfl
  have g0 := (blk_cell hR.ref.blk 0).trans rfl
  have HC := Aside0.mk (show EnsC w1 A' c' L from ⟨hR.ref.cap,Kd.F_now hR.ref.row⟩)
  have B1 := Aside0.mk hb
  clear he h1 h2 hR hb HO
  go_wp2_with (fail)
  go_ret2
  exact ⟨A',c',rfl,HC.out,B1.out⟩
structure OnceR (N : Nat) (w : World) (o b : Nat) (t : Tr) (D : Nat → Prop) (g : Nat) (A : Option Addr) (c : Nat) (L : List En) (E : Nat → Prop) : Prop where
  once : OnceAt N w o b t D
  ref : RefV w g A c L E
  sep : ∀ k,OnceOwn o b t D k → k ≠ g ∧ ¬ E k
  g_le : N ≤ g
  e_le : ∀ k,E k → N ≤ k
section
variable {N : Nat} {w w1 : World} {o b : Nat} {t t' : Tr} {D D' : Nat → Prop} {g : Nat} {A A' : Option Addr} {c c' : Nat} {L L' : List En} {E E' : Nat → Prop}
theorem OnceR.below (h : OnceR N w o b t D g A c L E) (hb : Below w.heap.size w w1) : OnceR N w1 o b t D g A c L E := ⟨h.once.below hb,h.ref.below hb,h.sep,h.g_le,h.e_le⟩
theorem OnceR.bagged (h : OnceR N w o b t D g A c L E) (ho : OnceAt N w1 o b t' D') (hc : BagCh w w1 b t t' D D') : OnceR N w1 o b t' D' g A c L E := by
  have hg := h.ref.g_lt
  refine ⟨ho,h.ref.keep hc.ch (fun s => (h.sep g (.inr (s.elim .inl (fun q => .inr (.inl q))))).1 rfl) (fun k hk s => (h.sep k (.inr (s.elim .inl (fun q => .inr (.inl q))))).2 hk),fun k hk => ?_,h.g_le,h.e_le⟩
  rcases hk with q | q
  · exact h.sep k (.inl q)
  · rcases hc.own k q with q | q
    · exact h.sep k (.inr q)
    · exact ⟨by omega,fun he => by have := h.ref.lt k he;omega⟩
theorem OnceR.reffed (h : OnceR N w o b t D g A c L E) (hN : N ≤ w.heap.size) (ha : RefV w1 g A' c' L' E') (hc : RefCh w w1 g E E') : OnceR N w1 o b t D g A' c' L' E' := by
  refine ⟨h.once.keep hc.ch (fun k s hk => (h.sep k hk).1 s),ha,fun k hk => ⟨(h.sep k hk).1,fun he => ?_⟩,h.g_le,fun k hk => ?_⟩
  · rcases hc.dat k he with q | q
    · exact (h.sep k hk).2 q
    · have := h.once.lt k hk;omega
  · rcases hc.dat k hk with q | q
    · exact h.e_le k q
    · omega
end
theorem OnceAt.toR {N : Nat} {w : World} {o b : Nat} {t : Tr} {D : Nat → Prop} (h : OnceAt N w o b t D) (hN : N ≤ w.heap.size) : OnceR N (w.alloc (Obj.cells #[.slice none 0 0] 30)) o b t D w.heap.size none 0 [] (fun _ => False) :=
  ⟨h.below (below_alloc (Below.refl _ _) _),⟨blk_new w _,Nat.le_refl 0,Kd.F_nil _ _ _,fun q => q,fun _ q => q.elim⟩,fun k hk => ⟨by have := h.lt k hk;omega,fun q => q⟩,hN,fun _ q => q.elim⟩
theorem onceR_radd {N : Nat} {o b : Nat} {t : Tr} {D E : Nat → Prop} {g : Nat} {A A1 : Option Addr} {c c1 : Nat} {r : Rw} (m : Int) {w W : World} {L L' : List En} {q : Int} (h : OnceR N w o b t D g A1 c1 L E) (hN : N ≤ w.heap.size) (e : SameW w W) (hr : RowC W A c r) (h1 : SrtD L) (h2 : OkD L) (hs : L.length ≤ 1000000) (ha : addD r m L = (q,L')) :
    Calls Try.prog 17 #[.pointer (some ⟨g,0,none⟩),.slice A r.length c,.int .i64 m] W fun e w' => ∃ A' c' E',e = .returned (.int .i64 q) ∧ OnceR N w' o b t D g A' c' L' E' ∧ RefCh w w' g E E' := by
  have hb : Below w.heap.size w W := e.below _
  refine (ref_add g A1 c1 L A c r m W (h.ref.below hb) h1 h2 hr hs).mono ?_
  rintro e' w1 ⟨A',c',E',rfl,h3,h4⟩
  rw [ha] at h3 ⊢
  exact ⟨A',c',E',rfl,(h.below hb).reffed (Nat.le_trans hN hb.size) h3 h4,(RefCh.same hb).trans h4⟩
end Go.Proofs.Ythmbfcfomcaaaaa.Z
end
section
namespace Go.Proofs.Ythmbfcfomcaaaaa.Z
set_option linter.unusedVariables false
set_option linter.unusedSimpArgs false
open Go.RowKit Go.Proofs.YthmbfcfomcaaaaaW.PrintWords Go.Proofs.YthmbfcfomcaaaaaW.PrintLast Go.Proofs.YthmbfcfomcaaaaaW.PrintMore Go.Proofs.Ythmbfcfomcaaaaa.Cmp
theorem known20_end (w : World) (N : Nat) (w0 : World) (h : NextW N w0 w) : Calls Try.prog 49 #[] w fun e w' => e = .returned (.bool true) ∧ Below N w0 w' := by
  refine (known20_at w).mono ?_
  rintro e w' ⟨rfl,hb⟩
  exact ⟨rfl,(h.next hb).at_⟩
theorem mul_take0 {T L : List En} (ht : SrtD T) (kt : OkD T) (hs : SrtD L) (hk : OkD L) (ha : allD 1 T L = true) (i : Nat) : SrtD (mulD 1 (T.take i) L) ∧ OkD (mulD 1 (T.take i) L) := by
  have h := mul_law 1 (T.take i) L (List.Pairwise.sublist (List.take_sublist _ _) ht) (fun x hx => kt x (List.mem_of_mem_take hx)) hs hk (by
    unfold allD at ha ⊢
    rw [List.all_eq_true] at ha ⊢
    exact fun x hx => ha x (List.mem_of_mem_take hx))
  exact ⟨h.1,h.2.1⟩
theorem app_len {l L : List En} (hL : OnceD L) : (appD l L).2.1.length ≤ l.length := by
  have h1 := (of_inv0 l).2.2
  have h2 := tell_len L (ofD l []).2
  unfold appD
  split
  · split
    · exact Nat.le_trans h2 h1
    · exact Nat.zero_le _
  · exact Nat.zero_le _
theorem ones_len (L : List En) : (onesD L).length = L.length := List.length_map _
theorem ent_ok {w : World} {ok : Nat → Prop} {ad : Addr} {n : Nat} {L : List En} (h : Kd.F k34 w ok (some ad) n L) {i : Nat} (hi : i < n) : ok (ad.add (i * 2)).block := by
  obtain ⟨ad',cs,e1,_,_,_,h0⟩ := Kd.F_get h z34 (i : Int) (by omega) (by omega)
  injection e1 with e1
  subst e1
  rw [add_block]
  exact h0 (Nat.zero_lt_succ 1)
set_option maxHeartbeats 8000000 in
set_option maxRecDepth 100000 in
theorem pick_sums (A0 A1 : Option Addr) (n n1 c0 c1 : Nat) (Ls : List (List En)) (l1 : List En) (w : World) (hl : Kd.C kEs w A0 n Ls) (hc : n ≤ c0) (hl1 : Kd.C k34 w A1 n1 l1) (hc1 : n1 ≤ c1) :
    Calls Try.prog 10 #[.slice A0 n c0,.slice A1 n1 c1] w fun e w' => e = .returned (.bool true) ∧ Below w.heap.size w w' := by
  have HL := Aside0.mk hl
  obtain rfl : l1.length = n1 := hl1.1
  have HL1 := Aside0.mk (show EnsC w A1 c1 l1 from ⟨hc1,hl1⟩)
  have LN := Aside0.mk (show Ls.length = n from hl.1)
  obtain ⟨N,hN⟩ : ∃ N,w.heap.size = N := ⟨_,rfl⟩
  have I0 := Aside0.mk (NextW.refl w)
  have HN := Aside0.mk hN
  have ON := Aside0.mk (once_new w)
  rw [hN] at I0 ON ⊢
  have KE := Aside0.mk (fun W (h : NextW N w W) => known20_end W N w h)
  clear hl hc hl1 hc1 hN
  go_enter Try.func10,Try.ntmps10
  go_wp2_with (fail)
  refine ON.out.mono ?_
  rintro e w1 ⟨o,b,rfl,hA,hb⟩
  have I1 := Aside0.mk (NextW.mk hb (Nat.le_trans hA.o_le (Nat.le_of_lt (blk_lt hA.blk))))
  have T1 := Aside0.mk hA
  clear hA hb I0 ON
  go_upto_region 3 with (fail)
  have T3 := Aside0.mk (T1.out.toR I1.out.le)
  have I3 := Aside0.mk (I1.out.next (below_alloc (Below.refl w1.heap.size w1) (Obj.cells #[.slice none 0 0] 30)))
  obtain ⟨g,hg⟩ : ∃ g,w1.heap.size = g := ⟨_,rfl⟩
  rw [hg] at T3 ⊢
  clear T1 I1 hg
  generalize w1.alloc (Obj.cells #[.slice none 0 0] 30) = w3 at *
  go_wp2_with (fail)
  go_loopw [7] (fun iv wr => ∃ i : Nat,iv = .int .i64 (i : Int) ∧ i ≤ n ∧ Aside0 (∃ t D A c L E,docT t = L ∧ OnceD L ∧ OnceR N wr o b t D g A c (onesD L) E) ∧ Aside0 (NextW N w wr)) (fun iv _ => n - (intOf iv).toNat)
  case atStart => exact ⟨0,rfl,Nat.zero_le _,⟨⟨.nil,_,none,0,[],_,rfl,once_nil,T3.out⟩⟩,I3⟩
  case round =>
    clear T3 I3
    rename World => wr
    obtain ⟨i,rfl,hi,TT,I4⟩ := hrel
    obtain ⟨t,D,A,c,L,E,hd,hL,hT⟩ := TT.out
    have DT := Aside0.mk hd
    have HLD := Aside0.mk hL
    have T4 := Aside0.mk hT
    clear TT hd hL hT
    by_cases hgo : i < n ∧ i < 20
    · obtain ⟨hin,hi20⟩ := hgo
      have k0 : decide ((i : Int) < (n : Int)) = true := decide_eq_true (by omega)
      have k0' : decide (i < n) = true := decide_eq_true hin
      have k1 : decide ((i : Int) < (20 : Int)) = true := decide_eq_true (by omega)
      have p0 : (0 : Int) ≤ (i : Int) := by omega
      have p1 : (i : Int) < (n : Int) := by omega
      obtain ⟨xs,hx⟩ : ∃ xs,Ls[i]? = some xs := ⟨Ls[i]'(by have := LN.out;omega),List.getElem?_eq_getElem _⟩
      obtain ⟨ad,Ax,cx,e1,x0,hxc⟩ := rows_get HL.out hin hx
      subst e1
      have XC := Aside0.mk (fun W (hb : Below N w W) => show EnsC W Ax cx xs from hxc.below (HN.out ▸ hb))
      have X0 := Aside0.mk x0
      replace x0 := (I4.out.below.cell (HN.out ▸ World.block_lt_of_cell? w _ X0.out)).trans X0.out
      obtain ⟨fb,hf,hf2⟩ := few20_some xs
      have FF := Aside0.mk hf
      have FB := Aside0.mk hf2
      clear hx hxc hf hf2
      go_wp2_with (fail)
      refine (few20_at FF.out Ax cx wr (XC.out _ I4.out.below)).mono ?_
      rintro e w5 ⟨rfl,hb⟩
      have I5 := Aside0.mk (I4.out.next hb)
      have T5 := Aside0.mk (T4.out.below hb)
      clear x0 hb I4 T4
      have x0 := (I5.out.below.cell (HN.out ▸ World.block_lt_of_cell? w _ X0.out)).trans X0.out
      cases fb with
      | false =>
        go_wp2_with (fail)
        refine (KE.out _ I5.out).mono ?_
        rintro e w6 ⟨rfl,hb⟩
        go_wp2_with (fail)
        go_ret
        exact ⟨rfl,hb⟩
      | true =>
      have hx60 := FB.out rfl
      have AL := Aside0.mk (app_law (l := xs) HLD.out)
      have AN := Aside0.mk (app_len (l := xs) HLD.out)
      have AP := Aside0.mk (once_apply Ax xs.length cx xs L w5 T5.out.once DT.out HLD.out (XC.out _ I5.out.below).row (by omega) I5.out.le)
      obtain ⟨⟨q,T,L'⟩,hq⟩ : ∃ q,appD xs L = q := ⟨_,rfl⟩
      rw [hq] at AP AL AN
      simp only at AP AL AN
      clear hq FB
      go_wp2_with (fail)
      refine AP.out.mono ?_
      rintro e w6 ⟨v,t',D',rfl,hd,ho,hcb,hv⟩
      obtain ⟨Av,cv,rfl⟩ := Kd.N_slice hv
      have DT6 := Aside0.mk hd
      have T6 := Aside0.mk (T5.out.bagged ho hcb)
      have I6 := Aside0.mk (I5.out.nextN (hcb.ch.toBelow I5.out.le (fun k s => T5.out.once.bag.own k (s.elim .inl (fun q => .inr (.inl q))))))
      have FV := Aside0.mk (show Kd.F k34 w6 (fun k => w5.heap.size ≤ k) Av T.length T from Kd.F_mono (Kd.N_F hv) (fun k hk => hk.1))
      have G5 := Aside0.mk T5.out.ref.g_lt
      clear hd ho hcb hv AP T5 I5 x0
      obtain ⟨m,hm⟩ : ∃ m,T.length = m := ⟨_,rfl⟩
      have LM := Aside0.mk hm
      rw [hm]
      rw [hm] at FV AN
      have m0 : m ≤ 60 := by have := AN.out;omega
      clear hm
      go_wp2_with (fail)
      go_loopw [10] (fun kv wx => ∃ k : Nat,kv = .int .i64 (k : Int) ∧ k ≤ m ∧ Aside0 (∃ A c E,OnceR N wx o b t' D' g A c (mulD 1 (T.take k) (onesD L)) E) ∧ Aside0 (Kd.F k34 wx (fun k => w5.heap.size ≤ k) Av m T) ∧ Aside0 (NextW N w wx)) (fun kv _ => m - (intOf kv).toNat)
      case atStart => exact ⟨0,rfl,Nat.zero_le _,⟨⟨_,_,_,T6.out⟩⟩,FV,I6⟩
      case round =>
        clear T6 I6 FV
        rename World => wx
        obtain ⟨k,rfl,hk,TT,FV,I7⟩ := hrel
        obtain ⟨A7,c7,E7,hT⟩ := TT.out
        have T7 := Aside0.mk hT
        clear TT hT
        by_cases hkm : k < m
        · have j0 : decide ((k : Int) < (m : Int)) = true := decide_eq_true (by omega)
          have j0' : decide (k < m) = true := decide_eq_true hkm
          have r0 : (0 : Int) ≤ (k : Int) := by omega
          have r1 : (k : Int) < (m : Int) := by omega
          obtain ⟨x,hx⟩ : ∃ x,T[k]? = some x := ⟨T[k]'(by have := LM.out;omega),List.getElem?_eq_getElem _⟩
          obtain ⟨ae,Ae,ce,e1,y0,y1,hyk,hyf⟩ := ent_getF FV.out hkm hx
          subst e1
          have YC := Aside0.mk (show RowC wx Ae ce x.f0 from ⟨hyk,Kd.F_now hyf⟩)
          have MT := Aside0.mk (mul_take AL.out.2.2.1 AL.out.2.2.2.1 (ones_srt HLD.out.srt) (ones_ok HLD.out.ok) AL.out.2.2.2.2.1 hx).1
          have M0 := Aside0.mk (mul_take0 AL.out.2.2.1 AL.out.2.2.2.1 (ones_srt HLD.out.srt) (ones_ok HLD.out.ok) AL.out.2.2.2.2.1 k)
          have ML := Aside0.mk (show (mulD 1 (T.take k) (onesD L)).length ≤ 1000000 by
            have := mul_len 1 (T.take k) (onesD L) (ones_srt HLD.out.srt) (ones_ok HLD.out.ok)
            have h1 := HLD.out.few
            rw [ones_len,List.length_take] at this
            omega)
          have BN := Aside0.mk (show (ae.add (k * 2)).block ≠ g from fun s => by have h1 := ent_ok FV.out hkm;have h2 := G5.out;omega)
          clear hx hyk hyf
          obtain ⟨xr,xm⟩ := x
          simp only at *
          have RA := Aside0.mk (onceR_radd xm (W := wx.drew) T7.out I7.out.le (SameW.drew wx) (YC.out.below ((SameW.drew wx).below _)) M0.out.1 M0.out.2 ML.out MT.out)
          go_wp2_with (fail)
          go_region_held3 (fun w' => w'.cell? (ae.add (k * 2)) = some (.slice Ae xr.length ce) ∧ w'.cell? ⟨(ae.add (k * 2)).block,(ae.add (k * 2)).off + 1,none⟩ = some (.int .i64 xm)) (first | go_keep | exact ⟨by assumption,by assumption⟩) (first
            | (go_at_call 17;(with_reducible refine RA.out.mono ?_);rintro e w8 ⟨A8,c8,E8,rfl,h8,hc8⟩;have KC8 := Aside0.mk hc8;have FV8 := Aside0.mk (Kd.F_step FV.out (fun j hj hlt => hc8.ch.block j hlt (fun s => by have := G5.out;subst s;omega)));replace y0 := keep_cell KC8.out.ch y0 (fun s => BN.out s);replace y1 := keep_cell KC8.out.ch y1 (fun s => BN.out s);have T8 := Aside0.mk h8;have I8 := Aside0.mk (I7.out.nextN (hc8.ch.toBelow I7.out.le (fun j s => by subst s;exact T7.out.g_le)));clear h8 hc8))
          go_wp2_with (fail)
          go_roundw
          case rel => exact ⟨k + 1,by go_num,hkm,⟨⟨_,_,_,T8.out⟩⟩,FV8,I8⟩
          case measure => simp [intOf];omega
        · have j0 : decide ((k : Int) < (m : Int)) = false := decide_eq_false (by omega)
          have j0' : decide (k < m) = false := decide_eq_false hkm
          have TE := Aside0.mk (show OnceR N wx o b t' D' g A7 c7 (onesD L') E7 by
            have := T7.out
            rw [List.take_of_length_le (by have := LM.out;omega),AL.out.2.1] at this
            exact this)
          go_wp2_with (fail)
          go_roundw
          case rel => exact ⟨i + 1,by go_num,hin,⟨⟨_,_,_,_,_,_,DT6.out,AL.out.1,TE.out⟩⟩,I7⟩
          case measure => simp [intOf];omega
    · have TKE : (decide ((i : Int) < (n : Int)) = false ∧ decide (i < n) = false) ∨ (decide ((i : Int) < (n : Int)) = true ∧ decide (i < n) = true ∧ decide ((i : Int) < (20 : Int)) = false) := by
        by_cases hin : i < n
        · have : ¬ i < 20 := fun h => hgo ⟨hin,h⟩
          exact .inr ⟨decide_eq_true (by omega),decide_eq_true hin,decide_eq_false (by omega)⟩
        · exact .inl ⟨decide_eq_false (by omega),decide_eq_false hin⟩
      have LB0 := Aside0.mk HLD.out.few
      have SO := Aside0.mk (And.intro (ones_srt HLD.out.srt) (ones_ok HLD.out.ok))
      have RW0 := Aside0.mk (once_rows L wr T4.out.once DT.out (by have := LB0.out;omega))
      obtain ⟨fb,hf,hf2⟩ := few20_some l1
      have FF := Aside0.mk hf
      have FB := Aside0.mk hf2
      have LO := Aside0.mk (show (onesD L).length ≤ 1500 by rw [ones_len];exact LB0.out)
      obtain ⟨O,hO⟩ : ∃ O,onesD L = O := ⟨_,rfl⟩
      have OE := Aside0.mk hO
      rw [hO] at RW0 T4 SO LO
      clear hgo hf hf2 hO
      rcases TKE with ⟨k0,k0'⟩ | ⟨k0,k0',k1⟩
      all_goals (
        go_wp2_with (fail)
        refine RW0.out.mono ?_
        rintro e w5 ⟨v,rfl,hv,hb⟩
        obtain ⟨Aw,cw,rfl⟩ := Kd.R_slice hv
        have CW := Aside0.mk (Kd.R_reads' hv).2.1
        have FW := Aside0.mk (show Kd.F k34 w5 (fun k => wr.heap.size ≤ k ∧ k < w5.heap.size) Aw O.length O from Kd.F_mono (Kd.R_F (Kd.R_bound hv)) (fun k hk => ⟨hk.2.1,hk.2.2.1⟩))
        have I5 := Aside0.mk (I4.out.next hb)
        have OL := Aside0.mk (fun k (hk : BagOwn b t D k) => T4.out.once.lt k (.inr hk))
        have T5 := Aside0.mk (T4.out.below hb)
        have g0 := (blk_cell T5.out.ref.blk 0).trans rfl
        clear hv hb T4 I4 RW0
        go_wp2_with (fail)
        refine (alike_at Aw A O.length cw c O w5 (Kd.F_now FW.out) (Kd.F_now T5.out.ref.row) CW.out T5.out.ref.cap SO.out.2 (by have := LO.out;omega)).mono ?_
        rintro e w6 ⟨rfl,hb⟩
        have FW6 := Aside0.mk (Kd.F_below FW.out hb)
        have I6 := Aside0.mk (I5.out.next hb)
        have T6 := Aside0.mk (T5.out.below hb)
        have M5 := Aside0.mk hb.size
        clear hb T5 I5 FW g0
        go_wp2_with (fail)
        refine (few20_at FF.out A1 c1 w6 (HL1.out.below (HN.out ▸ I6.out.below))).mono ?_
        rintro e w7 ⟨rfl,hb⟩
        have FW7 := Aside0.mk (Kd.F_below FW6.out hb)
        have I7 := Aside0.mk (I6.out.next hb)
        have T7 := Aside0.mk (T6.out.below hb)
        have M7 := Aside0.mk (Nat.le_trans M5.out hb.size)
        clear hb T6 I6 FW6
        cases fb with
        | false =>
          go_wp2_with (fail)
          refine (few20_at FF.out A1 c1 w7 (HL1.out.below (HN.out ▸ I7.out.below))).mono ?_
          rintro e w8 ⟨rfl,hb⟩
          have I8 := Aside0.mk (I7.out.next hb)
          clear hb
          go_wp2_with (fail)
          refine (KE.out _ I8.out).mono ?_
          rintro e w9 ⟨rfl,hb⟩
          go_wp2_with (fail)
          go_ret
          exact ⟨rfl,hb⟩
        | true =>
        have hx60 := FB.out rfl
        have AL := Aside0.mk (app_law (l := l1) HLD.out)
        have AN := Aside0.mk (app_len (l := l1) HLD.out)
        have AP := Aside0.mk (once_apply A1 l1.length c1 l1 L w7 T7.out.once DT.out HLD.out (HL1.out.below (HN.out ▸ I7.out.below)).row (by omega) I7.out.le)
        obtain ⟨⟨q,T,L'⟩,hq⟩ : ∃ q,appD l1 L = q := ⟨_,rfl⟩
        rw [hq] at AP AL AN
        simp only at AP AL AN
        clear hq FB
        go_wp2_with (fail)
        refine AP.out.mono ?_
        rintro e w8 ⟨v,t',D',rfl,hd,ho,hcb,hv⟩
        obtain ⟨Av,cv,rfl⟩ := Kd.N_slice hv
        have DT8 := Aside0.mk hd
        have T8 := Aside0.mk (T7.out.bagged ho hcb)
        have I8 := Aside0.mk (I7.out.nextN (hcb.ch.toBelow I7.out.le (fun k s => T7.out.once.bag.own k (s.elim .inl (fun q => .inr (.inl q))))))
        have FW8 := Aside0.mk (Kd.F_step FW7.out (fun k hk hlt => hcb.ch.block k hlt (fun s => by have := OL.out k (s.elim .inl (fun q => .inr (.inl q)));have := hk.1;omega)))
        have OL8 := Aside0.mk (fun k (hk : BagOwn b t' D' k) => show k < wr.heap.size ∨ w5.heap.size ≤ k from (hcb.own k hk).imp (OL.out k) (fun q => Nat.le_trans M7.out q))
        clear hd ho hcb hv AP T7 I7 FW7
        by_cases hq0 : q = 0
        · subst hq0
          obtain ⟨hof,T2,hT2,hTl⟩ := AL.out.2.2.2.2.2.2 rfl
          have HT2 := Aside0.mk hT2
          have HTL := Aside0.mk hTl
          have NTF := Aside0.mk (of_inv0 l1)
          have RN := Aside0.mk (ref_net A1 l1.length c1 l1 w8 (HL1.out.below (HN.out ▸ I8.out.below)).row (by omega) hof)
          obtain ⟨nt,hnt⟩ : ∃ nt,(ofD l1 []).2 = nt := ⟨_,rfl⟩
          rw [hnt] at RN HT2 NTF
          clear hof hT2 hTl hnt
          go_wp2_with (fail)
          refine RN.out.mono ?_
          rintro e w9 ⟨Ar,cr,rfl,hC,hb⟩
          have EC := Aside0.mk hC
          have I9 := Aside0.mk (I8.out.next hb)
          have T9 := Aside0.mk (T8.out.below hb)
          have FW9 := Aside0.mk (Kd.F_below FW8.out hb)
          clear hC hb T8 I8 FW8 RN
          obtain ⟨m,hm⟩ : ∃ m,nt.length = m := ⟨_,rfl⟩
          have LM := Aside0.mk hm
          rw [hm]
          rw [hm] at NTF
          have m0 : m ≤ 60 := by have := NTF.out.2.2;omega
          have EC2 := Aside0.mk (show Kd.C k34 w9 Ar m nt by have := EC.out.row;rw [hm] at this;exact this)
          obtain ⟨NN,hNN⟩ : ∃ NN,w9.heap.size = NN := ⟨_,rfl⟩
          have HNN := Aside0.mk hNN
          clear hm EC hNN
          go_wp2_with (fail)
          go_loopw [16,17] (fun vb jv wx => ∃ j : Nat,jv = .int .i64 (j : Int) ∧ j ≤ m ∧ Aside0 (Kd.N k34 34 wx NN (fun _ => True) vb (backD (nt.take j))) ∧ Aside0 (∀ k,vb.ownBlock = some k → NN ≤ k) ∧ Aside0 (Below NN w9 wx)) (fun _ jv _ => m - (intOf jv).toNat)
          case atStart => exact ⟨0,rfl,Nat.zero_le _,⟨Kd.N_nil _ _ _ _ _⟩,⟨fun k h => by simp [Value.ownBlock] at h⟩,⟨Below.refl _ _⟩⟩
          case round =>
            rename World => wx
            rename Value => vb
            obtain ⟨j,rfl,hj,NV,OV,BX⟩ := hrel
            obtain ⟨Lb,hLb⟩ : ∃ Lb,backD (nt.take j) = Lb := ⟨_,rfl⟩
            have LB := Aside0.mk hLb
            rw [hLb] at NV
            have LBL := Aside0.mk (show Lb.length ≤ 1000 by rw [← hLb];unfold backD;rw [List.length_map,List.length_take];omega)
            obtain ⟨Ab,cb,eb⟩ := Kd.N_slice NV.out
            subst eb
            have NWX := Aside0.mk (show NN ≤ wx.heap.size from HNN.out ▸ BX.out.size)
            clear hLb
            by_cases hjm : j < m
            · have j0 : decide ((j : Int) < (m : Int)) = true := decide_eq_true (by omega)
              have j0' : decide (j < m) = true := decide_eq_true hjm
              have r0 : (0 : Int) ≤ (j : Int) := by omega
              have r1 : (j : Int) < (m : Int) := by omega
              obtain ⟨x,hx⟩ : ∃ x,nt[j]? = some x := ⟨nt[j]'(by have := LM.out;omega),List.getElem?_eq_getElem _⟩
              obtain ⟨ae,Ae,ce,e1,y0,y1,hyc⟩ := ent_get EC2.out hjm hx
              subst e1
              have YF := Aside0.mk (show Kd.F k66 wx.drew (fun k => k < NN) Ae x.f0.length x.f0 from Kd.F_step (HNN.out ▸ row_F hyc.row) (fun k hk hlt => BX.out.block k hk))
              have YK := Aside0.mk hyc.cap
              have XO := Aside0.mk (NTF.out.2.1 x (List.mem_of_getElem? hx))
              replace y0 := (BX.out.cell (HNN.out ▸ World.block_lt_of_cell? _ _ y0)).trans y0
              replace y1 := (BX.out.cell (HNN.out ▸ World.block_lt_of_cell? _ _ y1)).trans y1
              have NE := Aside0.mk (show Lb ++ [(⟨x.f0,-x.f1⟩ : En)] = backD (nt.take (j + 1)) by
                rw [List.take_add_one,hx,← LB.out]
                unfold backD
                rw [List.map_append]
                rfl)
              clear hx hyc
              obtain ⟨xr,xm⟩ := x
              simp only at *
              have m1 := XO.out.2.2.1
              have m2 := XO.out.2.2.2
              have wn : IntKind.i64.wrap (-xm) = -xm := by rw [IntKind.wrap_i64];omega
              go_wp2_with (fail)
              refine start_ (n := 16) (S := fun w' => w'.cell? (ae.add (j * 2)) = some (.slice Ae xr.length ce) ∧ w'.cell? ⟨(ae.add (j * 2)).block,(ae.add (j * 2)).off + 1,none⟩ = some (.int .i64 xm)) (ds := [13,14]) #[false,false,false,false,false,false,false,false,false,false,false,false,false,false,false,false] (by kernel_rfl) rfl rfl (⟨y0,y1⟩) (fun hHeld => ?_)
              refine pure_ (i := 0) (N := some 119) (v := ?_) (a' := ?_) #[true,false,false,false,false,false,false,false,false,false,false,false,false,false,false,false] rfl rfl (by kernel_rfl) (fun _ _ _ h => h) (Or.inl ⟨by rfl,?_⟩) ?_ ?_
              rotate_left
              · intro w'
                go_simp
                with_reducible rfl
              rotate_left
              · simp only [Act.put,zA,zB,zC,i64_w,i32_w]
                rfl
              refine pure_ (i := 1) (N := some 120) (v := ?_) (a' := ?_) #[true,true,false,false,false,false,false,false,false,false,false,false,false,false,false,false] rfl rfl (by kernel_rfl) (fun _ _ _ h => h) (Or.inl ⟨by rfl,?_⟩) ?_ ?_
              rotate_left
              · intro w'
                go_simp
                with_reducible rfl
              rotate_left
              · simp only [Act.put,zA,zB,zC,i64_w,i32_w]
                rfl
              refine pure_ (i := 2) (N := some 121) (v := ?_) (a' := ?_) #[true,true,true,false,false,false,false,false,false,false,false,false,false,false,false,false] rfl rfl (by kernel_rfl) (fun _ _ _ h => h) (Or.inl ⟨by rfl,?_⟩) ?_ ?_
              rotate_left
              · intro w'
                go_simp
                with_reducible rfl
              rotate_left
              · simp only [Act.put,zA,zB,zC,i64_w,i32_w]
                rfl
              refine pure_ (i := 3) (N := some 122) (v := ?_) (a' := ?_) #[true,true,true,true,false,false,false,false,false,false,false,false,false,false,false,false] rfl rfl (by kernel_rfl) (fun _ _ _ h => h) (Or.inl ⟨by rfl,?_⟩) ?_ ?_
              rotate_left
              · intro w'
                go_simp
                with_reducible rfl
              rotate_left
              · simp only [Act.put,zA,zB,zC,i64_w,i32_w]
                rfl
              refine pure_ (i := 4) (N := some 123) (v := ?_) (a' := ?_) #[true,true,true,true,true,false,false,false,false,false,false,false,false,false,false,false] rfl rfl (by kernel_rfl) (fun _ _ _ h => h) (Or.inl ⟨by rfl,?_⟩) ?_ ?_
              rotate_left
              · intro w'
                go_simp
                with_reducible rfl
              rotate_left
              · simp only [Act.put,zA,zB,zC,i64_w,i32_w]
                rfl
              refine pure_ (i := 6) (N := some 125) (v := ?_) (a' := ?_) #[true,true,true,true,true,false,true,false,false,false,false,false,false,false,false,false] rfl rfl (by kernel_rfl) (fun _ _ _ h => h) (Or.inl ⟨by rfl,?_⟩) ?_ ?_
              rotate_left
              · intro w'
                go_simp
                with_reducible rfl
              rotate_left
              · simp only [Act.put,zA,zB,zC,i64_w,i32_w]
                rfl
              refine pure_ (i := 7) (N := some 126) (v := ?_) (a' := ?_) #[true,true,true,true,true,false,true,true,false,false,false,false,false,false,false,false] rfl rfl (by kernel_rfl) (fun _ _ _ h => h) (Or.inl ⟨by rfl,?_⟩) ?_ ?_
              rotate_left
              · intro w'
                go_simp
                with_reducible rfl
              rotate_left
              · simp only [Act.put,zA,zB,zC,i64_w,i32_w]
                rfl
              refine pure_ (i := 8) (N := some 127) (v := ?_) (a' := ?_) #[true,true,true,true,true,false,true,true,true,false,false,false,false,false,false,false] rfl rfl (by kernel_rfl) (fun _ _ _ h => h) (Or.inl ⟨by rfl,?_⟩) ?_ ?_
              rotate_left
              · intro w'
                go_simp
                with_reducible rfl
              rotate_left
              · simp only [Act.put,zA,zB,zC,i64_w,i32_w]
                rfl
              refine pure_ (i := 9) (N := some 128) (v := ?_) (a' := ?_) #[true,true,true,true,true,false,true,true,true,true,false,false,false,false,false,false] rfl rfl (by kernel_rfl) (fun _ _ _ h => h) (Or.inl ⟨by rfl,?_⟩) ?_ ?_
              rotate_left
              · intro w'
                go_simp
                with_reducible rfl
              rotate_left
              · simp only [Act.put,zA,zB,zC,i64_w,i32_w]
                rfl
              refine take_ (i := 5) (N := some 124) (v := ?_) (a' := ?_) #[true,true,true,true,true,true,true,true,true,true,false,false,false,false,false,false] rfl rfl (by kernel_rfl) (fun _ _ _ h => h) (Or.inl ⟨by rfl,?_⟩) hHeld ?_ ?_
              rotate_left
              · rintro w' ⟨s0,s1⟩
                go_simp
                with_reducible rfl
              rotate_left
              · simp only [Act.put,zA,zB,zC,i64_w,i32_w]
                rfl
              refine take_ (i := 10) (N := some 129) (v := ?_) (a' := ?_) #[true,true,true,true,true,true,true,true,true,true,true,false,false,false,false,false] rfl rfl (by kernel_rfl) (fun _ _ _ h => h) (Or.inl ⟨by rfl,?_⟩) hHeld ?_ ?_
              rotate_left
              · rintro w' ⟨s0,s1⟩
                go_simp
                with_reducible rfl
              rotate_left
              · simp only [Act.put,zA,zB,zC,i64_w,i32_w]
                rfl
              refine pure_ (i := 11) (N := some 130) (v := ?_) (a' := ?_) #[true,true,true,true,true,true,true,true,true,true,true,true,false,false,false,false] rfl rfl (by kernel_rfl) (fun _ _ _ h => h) (Or.inl ⟨by rfl,?_⟩) ?_ ?_
              rotate_left
              · intro w'
                go_simp
                with_reducible rfl
              rotate_left
              · simp only [Act.put,zA,zB,zC,i64_w,i32_w]
                rfl
              refine pure_ (i := 12) (N := some 131) (v := ?_) (a' := ?_) #[true,true,true,true,true,true,true,true,true,true,true,true,true,false,false,false] rfl rfl (by kernel_rfl) (fun _ _ _ h => h) (Or.inl ⟨by rfl,?_⟩) ?_ ?_
              rotate_left
              · intro w'
                go_simp
                with_reducible rfl
              rotate_left
              · simp only [Act.put,zA,zB,zC,i64_w,i32_w]
                rfl
              refine last_ (i := 13) (N := some 132) #[true,true,true,true,true,true,true,true,true,true,true,true,true,true,false,false] rfl rfl (by kernel_rfl) (by decide) (fun K hK => ?_)
              refine value_ (w1 := ?_) (v := ?_) (by rfl) rfl ?_ ?_
              rotate_left 2
              · go_simp
                constructor
                · rfl
                · rfl
              refine hK.out _ _ ?_
              clear hK K
              refine norm_ (a' := ?_) ?_ ?_
              rotate_left
              · show Act.put _ (some 132) _ = _
                simp only [Act.put,zA,zB,zC,i64_w,i32_w]
                rfl
              refine last_ (i := 14) (N := some 133) #[true,true,true,true,true,true,true,true,true,true,true,true,true,true,true,false] rfl rfl (by kernel_rfl) (by decide) (fun K hK => ?_)
              refine Kd.N_append_step k34 (w0 := wx.drew) NN (by rfl) (.tmp 119) (.tmp 132) 22 34 (.agg #[(.slice none 0 0),(.int .i64 0)]) 32 rfl Try.underlying22 info34 rfl (by decide) (by omega) (.slice Ab Lb.length cb) Lb (⟨xr,-xm⟩ : En) [.slice Ae xr.length ce,.int .i64 (-xm)] (fun _ => True) (fun k => k < NN) rfl rfl (k34_mkF _ _ (⟨xr,-xm⟩ : En) YK.out YF.out) (fun k hk => ⟨trivial,fun e => by have := OV.out k e.symm;omega⟩) (fun _ _ => trivial) (Kd.N_drew NV.out) (Below.refl _ _) NWX.out (by have := LBL.out;omega) ?_
              intro v2 w10 hv _ hg hat
              have NV2 := Aside0.mk (show Kd.N k34 34 w10 NN (fun _ => True) v2 (backD (nt.take (j + 1))) by rw [← NE.out];exact hv)
              have OV2 := Aside0.mk (own_new2 OV.out NWX.out hat)
              have BX2 := Aside0.mk (BX.out.trans (((SameW.drew wx).below _).trans ((ch_grown (S := fun k => some k = (Value.slice Ab Lb.length cb).ownBlock) hg (fun k e => e.symm)).toBelow NWX.out (fun k s => OV.out k s.symm))))
              clear hv hg hat
              refine hK.out _ _ ?_
              clear hK K
              refine norm_ (a' := ?_) ?_ ?_
              rotate_left
              · show Act.put _ (some 133) _ = _
                simp only [Act.put,zA,zB,zC,i64_w,i32_w]
                rfl
              refine pure_ (i := 15) (N := some 16) (v := ?_) (a' := ?_) #[true,true,true,true,true,true,true,true,true,true,true,true,true,true,true,true] rfl rfl (by kernel_rfl) (fun _ _ _ h => h) (Or.inl ⟨by rfl,?_⟩) ?_ ?_
              rotate_left
              · intro w'
                go_simp
                with_reducible rfl
              rotate_left
              · simp only [Act.put,zA,zB,zC,i64_w,i32_w]
                rfl
              refine done_ (by kernel_rfl) ?_
              go_wp2_with (fail)
              go_roundw
              case rel => exact ⟨j + 1,by go_num,hjm,NV2,OV2,BX2⟩
              case measure => simp [intOf];omega
            · have j0 : decide ((j : Int) < (m : Int)) = false := decide_eq_false (by omega)
              have j0' : decide (j < m) = false := decide_eq_false hjm
              have TB := Aside0.mk (show Lb = backD nt by rw [← LB.out,List.take_of_length_le (by have := LM.out;omega)])
              have CB := Aside0.mk (Kd.N_reads' NV.out).2.2
              have I10 := Aside0.mk (I9.out.next (HNN.out ▸ BX.out))
              have T10 := Aside0.mk (T9.out.below (HNN.out ▸ BX.out))
              have FW10 := Aside0.mk (Kd.F_below FW9.out (HNN.out ▸ BX.out))
              have AP := Aside0.mk (once_apply Ab Lb.length cb Lb L' wx T10.out.once DT8.out AL.out.1 CB.out (by have := LBL.out;omega) I10.out.le)
              rw [TB.out,HT2.out] at AP
              have TBL := Aside0.mk (show (backD nt).length = Lb.length by rw [TB.out])
              rw [TBL.out] at AP
              simp only at AP
              clear NV OV BX T9 I9 FW9
              have HTE := HTL.out
              obtain ⟨mm,hmm⟩ : ∃ mm,T.length = mm := ⟨_,rfl⟩
              rw [hmm] at HTE ⊢
              have HTE2 := Aside0.mk HTE
              clear HTE hmm
              go_wp2_with (fail)
              refine AP.out.mono ?_
              rintro e w11 ⟨v,t2,D2,rfl,hd,ho,hcb,hv⟩
              obtain ⟨Ay,cy,rfl⟩ := Kd.N_slice hv
              rw [HTE2.out]
              have DT11 := Aside0.mk hd
              have I11 := Aside0.mk (I10.out.nextN (hcb.ch.toBelow I10.out.le (fun k s => T10.out.once.bag.own k (s.elim .inl (fun q => .inr (.inl q))))))
              have FW11 := Aside0.mk (Kd.F_step FW10.out (fun k hk hlt => hcb.ch.block k hlt (fun s => by rcases OL8.out k (s.elim .inl (fun q => .inr (.inl q))) with h1 | h1;have := hk.1;omega;have := hk.2;omega)))
              have RW1 := Aside0.mk (once_rows L w11 ho DT11.out (by have := LB0.out;omega))
              rw [OE.out] at RW1
              clear hd ho hcb hv AP T10 I10 FW10
              go_wp2_with (fail)
              refine RW1.out.mono ?_
              rintro e w12 ⟨v,rfl,hv,hb⟩
              obtain ⟨Az,cz,rfl⟩ := Kd.R_slice hv
              have I12 := Aside0.mk (I11.out.next hb)
              have FW12 := Aside0.mk (Kd.F_below FW11.out hb)
              have CZ := Aside0.mk (Kd.R_reads' hv).2
              clear hv hb RW1 I11 FW11
              go_wp2_with (fail)
              refine (alike_at Az Aw O.length cz cw O w12 CZ.out.2 (Kd.F_now FW12.out) CZ.out.1 CW.out SO.out.2 (by have := LO.out;omega)).mono ?_
              rintro e w13 ⟨rfl,hb⟩
              have I13 := Aside0.mk (I12.out.next hb)
              clear hb I12 FW12 CZ
              go_wp2_with (fail)
              refine (KE.out _ I13.out).mono ?_
              rintro e w14 ⟨rfl,hb⟩
              go_wp2_with (fail)
              go_ret
              exact ⟨rfl,hb⟩
        · have c2 : (q != 0) = true := by simp [hq0]
          obtain ⟨hT,hL'⟩ := AL.out.2.2.2.2.2.1 hq0
          subst hT hL'
          simp only [List.length_nil]
          have RW1 := Aside0.mk (once_rows L' w8 T8.out.once DT8.out (by have := LB0.out;omega))
          rw [OE.out] at RW1
          clear AL hq0
          go_wp2_with (fail)
          refine RW1.out.mono ?_
          rintro e w12 ⟨v,rfl,hv,hb⟩
          obtain ⟨Az,cz,rfl⟩ := Kd.R_slice hv
          have I12 := Aside0.mk (I8.out.next hb)
          have FW12 := Aside0.mk (Kd.F_below FW8.out hb)
          have CZ := Aside0.mk (Kd.R_reads' hv).2
          clear hv hb RW1 I8 FW8
          go_wp2_with (fail)
          refine (alike_at Az Aw O.length cz cw O w12 CZ.out.2 (Kd.F_now FW12.out) CZ.out.1 CW.out SO.out.2 (by have := LO.out;omega)).mono ?_
          rintro e w13 ⟨rfl,hb⟩
          have I13 := Aside0.mk (I12.out.next hb)
          clear hb I12 FW12 CZ
          go_wp2_with (fail)
          refine (KE.out _ I13.out).mono ?_
          rintro e w14 ⟨rfl,hb⟩
          go_wp2_with (fail)
          go_ret
          exact ⟨rfl,hb⟩)
end Go.Proofs.Ythmbfcfomcaaaaa.Z
end
section
namespace Go.Proofs.Ythmbfcfomcaaaaa.Z
set_option linter.unusedVariables false
open Go.RowKit Go.Proofs.YthmbfcfomcaaaaaW.PrintWords Go.Proofs.YthmbfcfomcaaaaaW.PrintLast Go.Proofs.YthmbfcfomcaaaaaW.PrintMore
def verdererlaw20_PickSums.f (l0 : List (List (S34))) (l1 : List (S34)) : Option (Bool) := some true
theorem verdererlaw20_PickSums.calls (A0 : Option Addr) (c0 : Nat) (l0 : List (List (S34))) (A1 : Option Addr) (c1 : Nat) (l1 : List (S34)) (r : Bool) (w : World) (hr0 : Kd.C (Kd.slice 34 k34) w A0 l0.length l0) (hc0 : l0.length ≤ c0) (hr1 : Kd.C k34 w A1 l1.length l1) (hc1 : l1.length ≤ c1) (h : verdererlaw20_PickSums.f l0 l1 = some r) :
    Calls Try.prog 10 #[.slice A0 l0.length c0,.slice A1 l1.length c1] w fun e w' => e = .returned (.bool r) ∧ Below w.heap.size w w' := by
  obtain rfl := Option.some.inj h
  exact pick_sums A0 A1 l0.length l1.length c0 c1 l0 l1 w hr0 hc0 hr1 hc1
end Go.Proofs.Ythmbfcfomcaaaaa.Z
end
section
namespace Go.Proofs.Ythmbfcfomcaaaaa.Z
open Go.RowKit Go.Proofs.YthmbfcfomcaaaaaW.PrintWords Go.Proofs.YthmbfcfomcaaaaaW.PrintLast Go.Proofs.YthmbfcfomcaaaaaW.PrintMore
theorem pickSums_pure : ∀ (l0 : (List (List S34))) (l1 : (List S34)),(l0.length ≤ maxLen ∧ ∀ x ∈ l0,(x.length ≤ maxLen ∧ ∀ xx ∈ x,G34 xx)) → (l1.length ≤ maxLen ∧ ∀ x ∈ l1,G34 x) → verdererlaw20_PickSums.f l0 l1 = some true := by
  intros
  rfl
end Go.Proofs.Ythmbfcfomcaaaaa.Z
end
namespace Go.Proofs.Ythmbfcfomcaaaaa.pickSums
open Go.ChangeShapes Go.WideShapes Go.ChangeAt Go.RowKit Go.Proofs.YthmbfcfomcaaaaaW.PrintWords
open Go.ChangeMaps (open_string shut_string)
set_option linter.unusedVariables false
theorem own : ownKnob Try.prog.godebug = none := by kernel_rfl
theorem laidOut : laidOutB Try.prog = true := by kernel_rfl
set_option maxRecDepth 100000 in
theorem lifted (os : Os) (started : os.Started) (H : Type) (enc : TypeId × Value → H) :
    ReturnsInHanded {} Try.checked os 10 .any (Rows.pickSumsSpec.pre6 enc Try.prog Try.f10 Rows.pickSumsRow.domain false) (Rows.pickSumsSpec.post enc Try.prog Try.f10 false true false false) := by
  refine returnsInHanded_of_change (C := Try.checked) own started (by kernel_rfl) Try.func10
    (ChangeSpec.witness6 (enc := enc) (C := Try.checked) false ⟨#[],#[.slice none 0 0,.slice none 0 0],[]⟩ 8 (by kernel_rfl) (by kernel_rfl) (by kernel_rfl) (by kernel_rfl)) ?_
  intro W base args ds gs before hval0 hW hcnd _
  have hval : ∀ (j : Nat) t v,Try.f10.params[j]? = some t → args[j]? = some v → Value.okWide Try.prog W .any base t v := hval0
  have hW' := hW
  obtain ⟨p,q,hA0,hV,rfl,hfz,hnd⟩ := hW
  have hA : DataW.TrodAll enc Try.prog W 0 (fun _ => true) true Try.f10.params.toList args.toList ds p := hA0
  rw [Try.params10] at hA hval
  obtain ⟨v0,vs0,d0,ds0,p0,q0,hargs,rfl,rfl,h0,r0⟩ := trodAll_cons hA
  obtain ⟨v1,vs1,d1,ds1,p1,q1,rfl,rfl,rfl,h1,r1⟩ := trodAll_cons r0
  obtain ⟨rfl,rfl,rfl⟩ := trodAll_nil r1
  obtain rfl : args = #[v0,v1] := by cases args;simp_all
  obtain ⟨rfl,rfl⟩ := trodVars_none hV
  obtain ⟨a0,len0,cap0,rfl⟩ := okWide_slice Try.underlying68 (hval 0 68 v0 rfl rfl)
  have k0 := h0
  have lt0 : ∀ x ∈ p0,x.block < W.heap.size := by obtain ⟨m,hm⟩ := k0;exact DataW.trod_lt m _ _ _ hm
  obtain ⟨l0,hK0,hG0⟩ : ∃ l,((Kd.slice 22 (Kd.slice 34 Z.k34)) : Kd (List (List Z.S34))).K W l [.slice a0 len0 cap0] ∧ (l.length ≤ maxLen ∧ ∀ x ∈ l,(x.length ≤ maxLen ∧ ∀ xx ∈ x,Z.G34 xx)) := by obtain ⟨fuel,hf⟩ := h0;exact (show OfTrod Try.prog 68 (Kd.slice 22 (Kd.slice 34 Z.k34)) _ from (ofTrod_slice Try.underlying68 (by kernel_rfl) (ofTrod_slice Try.underlying22 (by kernel_rfl) Z.of34))) _ _ _ _ _ _ _ _ _ hf
  obtain ⟨A0,c0,he0,hl0,hC0⟩ := hK0
  simp only [List.cons.injEq,Value.slice.injEq,and_true] at he0
  obtain ⟨rfl,rfl,rfl⟩ := he0
  obtain ⟨a1,len1,cap1,rfl⟩ := okWide_slice Try.underlying22 (hval 1 22 v1 rfl rfl)
  have k1 := h1
  have lt1 : ∀ x ∈ p1,x.block < W.heap.size := by obtain ⟨m,hm⟩ := k1;exact DataW.trod_lt m _ _ _ hm
  obtain ⟨l1,hK1,hG1⟩ : ∃ l,((Kd.slice 34 Z.k34) : Kd (List Z.S34)).K W l [.slice a1 len1 cap1] ∧ (l.length ≤ maxLen ∧ ∀ x ∈ l,Z.G34 x) := by obtain ⟨fuel,hf⟩ := h1;exact (show OfTrod Try.prog 22 (Kd.slice 34 Z.k34) _ from (ofTrod_slice Try.underlying22 (by kernel_rfl) Z.of34)) _ _ _ _ _ _ _ _ _ hf
  obtain ⟨A1,c1,he1,hl1,hC1⟩ := hK1
  simp only [List.cons.injEq,Value.slice.injEq,and_true] at he1
  obtain ⟨rfl,rfl,rfl⟩ := he1
  clear hA0 hval0
  have h := Z.pickSums_pure l0 l1 hG0 hG1
  refine (Z.verdererlaw20_PickSums.calls _ _ l0 _ _ l1 true W hC0 hl0 hC1 hl1 h).mono fun e W' ⟨he,bel⟩ => ?_
  subst he
  exact ⟨_,rfl,_,_,_,[],_,[],hW',trodAll_mk1 (shut_bool Try.underlying4 _),(trodAll_cons_mk (Below.trod laidOut (by kernel_rfl) (of_decide_eq_true (by kernel_rfl)) k0 bel lt0) (trodAll_cons_mk (Below.trod laidOut (by kernel_rfl) (of_decide_eq_true (by kernel_rfl)) k1 bel lt1) trodAll_mk0)),rfl,bel.frame _,fun h => by cases h⟩
theorem over : Rows.pickSumsRow.holds Try.pinned (OpenSpec.ofChange Rows.pickSumsSpec) :=
  OpenClaim.holds_of_wide 10 Try.f10 rfl rfl rfl rfl rfl rfl rfl ⟨rfl,rfl,rfl,rfl,rfl⟩ rfl rfl rfl rfl rfl (by kernel_rfl) Try.func10 (by kernel_rfl)
    (of_decide_eq_true (by kernel_rfl)) (by unfold Func.isWrapper;first | (rw [if_pos (by decide +kernel)];kernel_rfl) | (rw [if_neg (by decide +kernel)];exact ⟨rfl,rfl⟩))
    (fun os started H enc _ => lifted os started H enc)
theorem proved : Rows.PickSumsSaid := over
#print axioms proved
end Go.Proofs.Ythmbfcfomcaaaaa.pickSums
namespace Go.Proofs.Ythmbfcfomcaaaaa
theorem pickSums_holds : Rows.PickSumsSaid := pickSums.proved
end Go.Proofs.Ythmbfcfomcaaaaa
