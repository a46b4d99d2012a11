/- Parts of the proof of RateRanks: what its functions answer. -/
import Derived.Test.YtcenlehfbgnphaaMRateRanksa
import Derived.Laws.Cover2
import Derived.Laws.FloatArith
import Derived.WalkLawsBesides
import Derived.WalkSpells
import Derived.Laws.Cover3
import Derived.Outline
import Derived.Deep.RegionHeld3
import Derived.Deep.RegionWith
import Derived.ArgAppend
section
namespace Go.Proofs.Ytcenlehfbgnphaa.Z
set_option linter.unusedVariables false
set_option linter.unusedSimpArgs false
open Go.RowKit Go.Proofs.YtcenlehfbgnphaaW.PrintWords Go.Proofs.YtcenlehfbgnphaaW.PrintLast Go.Proofs.YtcenlehfbgnphaaW.PrintMore
def MergesTo (cf : S45 → S45 → Int) (blk cap n K : Nat) : Prop := ∀ (P A B S L : List El) (a m b : Nat) (w : World),A.length + B.length < K → RowAt w blk L → L.length = n → Two cf P A B S → L = P ++ A ++ B ++ S → P.length = a → a + A.length = m → m + B.length = b → A.length ≠ 0 → B.length ≠ 0 → Calls Try.prog 115 #[.slice (some ⟨blk,0,none⟩) n cap,.int .i64 a,.int .i64 m,.int .i64 b,.func (.func 74) #[] #[]] w (Merged cf P A B S blk w)
set_option maxHeartbeats 8000000 in
set_option maxRecDepth 100000 in
theorem merge30 (cf : S45 → S45 → Int) (hC : CmpOk 74 cf) (blk cap a m b n : Nat) (P A B S L : List El) (w : World) (ih : MergesTo cf blk cap n (A.length + B.length)) (h : RowAt w blk L) (hlen : L.length = n) (hn : n ≤ 1000000) (t : Two cf P A B S) (eL : L = P ++ A ++ B ++ S) (hP : P.length = a) (hm : a + A.length = m) (hA : 2 ≤ A.length) (hB : 2 ≤ B.length) (hb : m + B.length = b) (hbn : b ≤ n) (hcase : a + b < 2 * m) :
    Calls Try.prog 115 #[.slice (some ⟨blk,0,none⟩) n cap,.int .i64 a,.int .i64 m,.int .i64 b,.func (.func 74) #[] #[]] w (Merged cf P A B S blk w) := by
  have H := Aside0.mk h
  have HG := Aside0.mk (only_refl w blk)
  have HL := Aside0.mk hlen
  have TT := Aside0.mk t
  have EL := Aside0.mk eL
  have HP := Aside0.mk hP
  have HM := Aside0.mk hm
  have HB := Aside0.mk hb
  have IH := Aside0.mk ih
  have HAB := Aside0.mk (And.intro hA hB)
  have ham : a + 2 ≤ m := by omega
  have hmb : m + 2 ≤ b := by omega
  obtain ⟨mid,hmid⟩ : ∃ mid : Nat,((a : Int) + (b : Int)) / 2 = (mid : Int) := ⟨(a + b) / 2,by omega⟩
  have ma : a < mid := by omega
  have mb : mid < b := by omega
  have mn : a + b ≤ 2 * mid + 1 ∧ 2 * mid ≤ a + b := by omega
  have hcm : mid < m := by omega
  obtain ⟨nn,hnn⟩ : ∃ nn : Nat,(mid : Int) + (m : Int) = (nn : Int) := ⟨mid + m,by omega⟩
  obtain ⟨p,hp⟩ : ∃ p : Nat,(nn : Int) - 1 = (p : Int) := ⟨nn - 1,by omega⟩
  obtain ⟨lo,hlo⟩ : ∃ lo : Nat,(nn : Int) - (b : Int) = (lo : Int) := ⟨nn - b,by omega⟩
  obtain ⟨hi,hhi⟩ : ∃ hi : Nat,hi = mid := ⟨_,rfl⟩
  have HNN := Aside0.mk (show mid + m = nn by omega)
  have HPP := Aside0.mk (show nn - 1 = p by omega)
  have LOF := Aside0.mk (show a ≤ lo ∧ hi ≤ m ∧ nn ≤ b + lo ∧ m + hi ≤ nn ∧ (lo = a ∨ nn = b + lo) ∧ (hi = m ∨ m + hi = nn) by omega)
  have lohi : lo ≤ hi := by omega
  have hin : hi ≤ m := by omega
  have loa : a ≤ lo := by omega
  have pn : p < 2 * n := by omega
  have plo : nn ≤ b + lo := by omega
  have phi : m + hi ≤ nn := by omega
  have hnp : nn ≤ p + 1 := by omega
  have hnp2 : p + 1 ≤ nn := by omega
  have HS := Aside0.mk (show Srch (NotAhd3 cf L (nn - 1)) lo hi lo hi from Srch.start lohi)
  have MN := Aside0.mk (t.mono3' eL hP hm hb loa hin plo phi)
  have bm : ((m : Int) - (a : Int) == 1) = false := by rw [beq_eq_false_iff_ne];omega
  have bb : ((b : Int) - (m : Int) == 1) = false := by rw [beq_eq_false_iff_ne];omega
  have bc : decide (((a : Int) + (b : Int)) / 2 < (m : Int)) = true := by rw [hmid];exact decide_eq_true (by omega)
  have HQ := Aside0.mk (And.intro hmid (And.intro hnn (And.intro hp (And.intro hlo hhi))))
  clear h t eL hP hlen hm hA hB hb ih hcase hmid hnn hp hlo hhi
  have bc2 : ((a : Int) + (b : Int)) / 2 < (m : Int) := by have := HQ.out.1;omega
  go_enter Try.func115,Try.ntmps115
  go_wp2
  have hq1 := HQ.out.1
  have hq2 := HQ.out.2.1
  have hq3 := HQ.out.2.2.1
  have hq4 := HQ.out.2.2.2.1
  have hq5 := HQ.out.2.2.2.2
  rw [hq1,hq2,hq3,hq4]
  skip
  clear hq1 hq2 hq3 hq4 hq5 bc bc2
  go_loopw [20,21] (fun iv jv wr => ∃ i j : Nat,iv = .int .i64 (i : Int) ∧ jv = .int .i64 (j : Int) ∧ i ≤ j ∧ j ≤ hi ∧ lo ≤ i ∧ Aside0 (Srch (NotAhd3 cf L (nn - 1)) lo hi i j) ∧ Aside0 (RowAt wr blk L) ∧ Aside0 (w.grownBy wr (some blk))) (fun iv jv _ => (intOf jv).toNat - (intOf iv).toNat)
  case atStart => exact ⟨lo,hi,rfl,by have := HQ.out.2.2.2.2;rw [this],lohi,Nat.le_refl _,Nat.le_refl _,HS,H,HG⟩
  case round =>
    clear HS H HG
    obtain ⟨i,j,rfl,rfl,hij,hjb,hai,HS,H,HG⟩ := hrel
    by_cases hlt : i < j
    · go_wp2_with (fail)
      obtain ⟨c,hc⟩ : ∃ c : Nat,((i : Int) + (j : Int)) / 2 = (c : Int) := ⟨(i + j) / 2,by omega⟩
      have hc1 : i ≤ c := by omega
      have hc2 : c < j := by omega
      rw [hc]
      clear hc
      obtain ⟨d,hd⟩ : ∃ d : Nat,d + c = p := ⟨p - c,by omega⟩
      have hdn : d < n := by omega
      have DE := Aside0.mk (show nn - 1 - c = d by have := HPP.out;omega)
      have p0 : (0 : Int) ≤ (c : Int) := by omega
      have p1 : (c : Int) < (n : Int) := by omega
      have p2 : (0 : Int) ≤ (d : Int) := by omega
      have p3 : (d : Int) < (n : Int) := by omega
      have pd : (p : Int) - (c : Int) = (d : Int) := by omega
      have pw : IntKind.i64.wrap (d : Int) = (d : Int) := by rw [IntKind.wrap_i64];omega
      have pw2 : IntKind.i64.wrap ((p : Int) - (c : Int)) = (d : Int) := by rw [pd,pw]
      obtain ⟨x0,x1,x2,x3,z,hbl⟩ := H.out.cell (i := d) (by have := HL.out;omega)
      obtain ⟨y0,y1,y2,y3,_,_⟩ := H.out.cell (i := c) (by have := HL.out;omega)
      have BL := Aside0.mk hbl
      clear hbl z
      generalize hx : atL L d = ex at x0 x1 x2 x3
      generalize hy : atL L c = ey at y0 y1 y2 y3
      have HXE := Aside0.mk hx
      have HYE := Aside0.mk hy
      clear hx hy
      by_cases hv : cf ex.1 ey.1 < 0
      · have c0 : decide (cf ex.1 ey.1 < 0) = true := decide_eq_true hv
        have SU := Aside0.mk (HS.out.down MN.out hc1 hc2 (show ¬ NotAhd3 cf L (nn - 1) c by unfold NotAhd3;rw [DE.out,HXE.out,HYE.out];exact fun q => q hv))
        clear hv HXE HYE
        go_region_held3 (fun w' => w'.cell? ⟨blk,d * 4,none⟩ = some (.string ex.1.f0) ∧ w'.cell? ⟨blk,d * 4 + 1,none⟩ = some (.string ex.1.f1) ∧ w'.cell? ⟨blk,d * 4 + 2,none⟩ = some (.int .i64 ex.1.f2) ∧ w'.cell? ⟨blk,d * 4 + 3,none⟩ = some (.int .i64 ex.1.f3) ∧ w'.cell? ⟨blk,c * 4,none⟩ = some (.string ey.1.f0) ∧ w'.cell? ⟨blk,c * 4 + 1,none⟩ = some (.string ey.1.f1) ∧ w'.cell? ⟨blk,c * 4 + 2,none⟩ = some (.int .i64 ey.1.f2) ∧ w'.cell? ⟨blk,c * 4 + 3,none⟩ = some (.int .i64 ey.1.f3)) (first | go_keep | exact ⟨by assumption,by assumption,by assumption,by assumption,by assumption,by assumption,by assumption,by assumption⟩) (first | (go_at_call 74;refine (hC.calls ex.1 ey.1 _).mono ?_;rintro e w2 ⟨rfl,hb2⟩;have N2 := Aside0.mk (sameW_next (w1 := wr) hb2);clear hb2;have u0 := (N2.out.cell (p := ⟨blk,d * 4,none⟩) BL.out).trans x0;have u1 := (N2.out.cell (p := ⟨blk,d * 4 + 1,none⟩) BL.out).trans x1;have u2 := (N2.out.cell (p := ⟨blk,d * 4 + 2,none⟩) BL.out).trans x2;have u3 := (N2.out.cell (p := ⟨blk,d * 4 + 3,none⟩) BL.out).trans x3;have v0 := (N2.out.cell (p := ⟨blk,c * 4,none⟩) BL.out).trans y0;have v1 := (N2.out.cell (p := ⟨blk,c * 4 + 1,none⟩) BL.out).trans y1;have v2 := (N2.out.cell (p := ⟨blk,c * 4 + 2,none⟩) BL.out).trans y2;have v3 := (N2.out.cell (p := ⟨blk,c * 4 + 3,none⟩) BL.out).trans y3))
        have R2 := Aside0.mk (H.out.below N2.out)
        have G1 := Aside0.mk (only_belowT HG.out N2.out)
        clear x0 x1 x2 x3 y0 y1 y2 y3 u0 u1 u2 u3 v0 v1 v2 v3 H HG HS BL N2
        go_wp2
        go_roundw
        case rel => exact ⟨i,c,rfl,rfl,by omega,by omega,hai,SU,R2,G1⟩
        case measure => simp [intOf];omega
      · have c0 : decide (cf ex.1 ey.1 < 0) = false := decide_eq_false hv
        have SU := Aside0.mk (HS.out.up MN.out hc1 hc2 (show NotAhd3 cf L (nn - 1) c by unfold NotAhd3;rw [DE.out,HXE.out,HYE.out];exact hv))
        clear hv HXE HYE
        go_region_held3 (fun w' => w'.cell? ⟨blk,d * 4,none⟩ = some (.string ex.1.f0) ∧ w'.cell? ⟨blk,d * 4 + 1,none⟩ = some (.string ex.1.f1) ∧ w'.cell? ⟨blk,d * 4 + 2,none⟩ = some (.int .i64 ex.1.f2) ∧ w'.cell? ⟨blk,d * 4 + 3,none⟩ = some (.int .i64 ex.1.f3) ∧ w'.cell? ⟨blk,c * 4,none⟩ = some (.string ey.1.f0) ∧ w'.cell? ⟨blk,c * 4 + 1,none⟩ = some (.string ey.1.f1) ∧ w'.cell? ⟨blk,c * 4 + 2,none⟩ = some (.int .i64 ey.1.f2) ∧ w'.cell? ⟨blk,c * 4 + 3,none⟩ = some (.int .i64 ey.1.f3)) (first | go_keep | exact ⟨by assumption,by assumption,by assumption,by assumption,by assumption,by assumption,by assumption,by assumption⟩) (first | (go_at_call 74;refine (hC.calls ex.1 ey.1 _).mono ?_;rintro e w2 ⟨rfl,hb2⟩;have N2 := Aside0.mk (sameW_next (w1 := wr) hb2);clear hb2;have u0 := (N2.out.cell (p := ⟨blk,d * 4,none⟩) BL.out).trans x0;have u1 := (N2.out.cell (p := ⟨blk,d * 4 + 1,none⟩) BL.out).trans x1;have u2 := (N2.out.cell (p := ⟨blk,d * 4 + 2,none⟩) BL.out).trans x2;have u3 := (N2.out.cell (p := ⟨blk,d * 4 + 3,none⟩) BL.out).trans x3;have v0 := (N2.out.cell (p := ⟨blk,c * 4,none⟩) BL.out).trans y0;have v1 := (N2.out.cell (p := ⟨blk,c * 4 + 1,none⟩) BL.out).trans y1;have v2 := (N2.out.cell (p := ⟨blk,c * 4 + 2,none⟩) BL.out).trans y2;have v3 := (N2.out.cell (p := ⟨blk,c * 4 + 3,none⟩) BL.out).trans y3))
        have R2 := Aside0.mk (H.out.below N2.out)
        have G1 := Aside0.mk (only_belowT HG.out N2.out)
        clear x0 x1 x2 x3 y0 y1 y2 y3 u0 u1 u2 u3 v0 v1 v2 v3 H HG HS BL N2
        go_wp2
        go_roundw
        case rel => exact ⟨c + 1,j,by go_num,rfl,by omega,hjb,by omega,SU,R2,G1⟩
        case measure => simp [intOf];omega
    · have hije : i = j := by omega
      subst hije
      obtain ⟨e,he⟩ : ∃ e : Nat,e + i = nn := ⟨nn - i,by omega⟩
      have HCUT : Aside0 (∃ A1 A2 B1 B2,Cut cf A B A1 A2 B1 B2 ∧ a + A1.length = i ∧ m + B1.length = e) := ⟨by
        obtain ⟨h1,h2,h3,h4,hl,hh⟩ := LOF.out
        exact TT.out.cut3 EL.out HP.out HM.out HB.out HS.out h1 h2 h3 h4 hl hh he⟩
      obtain ⟨A1,A2,B1,B2,hcut,hA1,hB1⟩ := HCUT.out
      have CT := Aside0.mk hcut
      have HA1 := Aside0.mk hA1
      have HB1 := Aside0.mk hB1
      have LA := Aside0.mk (show A.length = A1.length + A2.length by rw [hcut.eA];simp)
      have LB := Aside0.mk (show B.length = B1.length + B2.length by rw [hcut.eB];simp)
      have HMD := Aside0.mk (show i + B1.length = mid by have := HNN.out;omega)
      have ie : i ≤ m := by omega
      have me : m ≤ e := by omega
      have eb : e ≤ b := by have := LB.out;have := HB.out;omega
      have im : i ≤ mid := by have := HMD.out;omega
      have mde : mid ≤ e := by have := HNN.out;omega
      have ne : (nn : Int) - (i : Int) = (e : Int) := by omega
      clear hcut hA1 hB1 HCUT HS MN
      have rest : ∀ (wr : World),Aside0 (RowAt wr blk (P ++ A1 ++ B1 ++ (A2 ++ B2 ++ S))) → True := fun _ _ => trivial
      clear rest
      rcases Nat.lt_or_ge i m with q0 | q0
      · rcases Nat.lt_or_ge m e with s0 | s0
        · have Tim : decide (i < m) = true := decide_eq_true (by omega)
          have Timi : decide ((i : Int) < (m : Int)) = true := decide_eq_true (by omega)
          have Timl : (i : Int) < (m : Int) := by omega
          have Timn : i < m := by omega
          have Tme : decide (m < e) = true := decide_eq_true (by omega)
          have Tmei : decide ((m : Int) < (e : Int)) = true := decide_eq_true (by omega)
          have Tmel : (m : Int) < (e : Int) := by omega
          have Tmen : m < e := by omega
          go_wp2_with (fail)
          refine (rotate blk cap i m e n _ L (P ++ A1 ++ B1 ++ (A2 ++ B2 ++ S)) _ H.out (by have := HL.out;omega) (CT.out.turn EL.out HP.out HM.out HA1.out HB1.out q0 s0) (by omega) (by omega) HL.out).mono ?_
          rintro e1 w1 ⟨rfl,h1,hg⟩
          have H1 := Aside0.mk h1
          have G1 := Aside0.mk (only_trans HG.out hg)
          clear h1 hg H HG
          rcases Nat.lt_or_ge a i with q1 | q1
          · rcases Nat.lt_or_ge i mid with s1 | s1
            · have Tai : decide (a < i) = true := decide_eq_true (by omega)
              have Taii : decide ((a : Int) < (i : Int)) = true := decide_eq_true (by omega)
              have Tail : (a : Int) < (i : Int) := by omega
              have Tain : a < i := by omega
              have Timid : decide (i < mid) = true := decide_eq_true (by omega)
              have Timidi : decide ((i : Int) < (mid : Int)) = true := decide_eq_true (by omega)
              have Timidl : (i : Int) < (mid : Int) := by omega
              have Timidn : i < mid := by omega
              go_wp2_with (fail)
              refine (IH.out P A1 B1 (A2 ++ B2 ++ S) _ a i mid _ (by have := LA.out;have := LB.out;have := HA1.out;have := HB1.out;have := HM.out;have := HB.out;have := HNN.out;have := HMD.out;omega) H1.out (by have := HL.out;have := EL.out;rw [this] at HL;have := HL.out;have := LA.out;have := LB.out;simp at *;omega) (CT.out.two1 TT.out) rfl HP.out HA1.out HMD.out (by have := LA.out;have := LB.out;have := HA1.out;have := HB1.out;have := HM.out;have := HB.out;have := HNN.out;have := HMD.out;omega) (by have := LA.out;have := LB.out;have := HA1.out;have := HB1.out;have := HM.out;have := HB.out;have := HNN.out;have := HMD.out;omega)).mono ?_
              rintro e2 w2 ⟨rfl,⟨C1,h1,h2,h3⟩,hg⟩
              have HC1 := Aside0.mk (And.intro h2 h3)
              have H2 := Aside0.mk h1
              have G2 := Aside0.mk (only_trans G1.out hg)
              have HPC := Aside0.mk (show (P ++ C1).length = mid by have := h2.length_eq;have := HP.out;simp at *;have := LA.out;have := LB.out;have := HA1.out;have := HB1.out;have := HM.out;have := HB.out;have := HNN.out;have := HMD.out;omega)
              clear h1 h2 h3 hg H1 G1
              rcases Nat.lt_or_ge mid e with q2 | q2
              · rcases Nat.lt_or_ge e b with s2 | s2
                · have Tmide : decide (mid < e) = true := decide_eq_true (by omega)
                  have Tmidei : decide ((mid : Int) < (e : Int)) = true := decide_eq_true (by omega)
                  have Tmidel : (mid : Int) < (e : Int) := by omega
                  have Tmiden : mid < e := by omega
                  have Teb : decide (e < b) = true := decide_eq_true (by omega)
                  have Tebi : decide ((e : Int) < (b : Int)) = true := decide_eq_true (by omega)
                  have Tebl : (e : Int) < (b : Int) := by omega
                  have Tebn : e < b := by omega
                  go_wp2_with (fail)
                  refine (IH.out (P ++ C1) A2 B2 S _ mid e b _ (by have := LA.out;have := LB.out;have := HA1.out;have := HB1.out;have := HM.out;have := HB.out;have := HNN.out;have := HMD.out;omega) H2.out (by have := HL.out;have := EL.out;rw [this] at HL;have := HL.out;have := LA.out;have := LB.out;have := HC1.out.1.length_eq;simp at *;omega) (CT.out.two2 TT.out) (by simp) HPC.out (by have := LA.out;have := LB.out;have := HA1.out;have := HB1.out;have := HM.out;have := HB.out;have := HNN.out;have := HMD.out;omega) (by have := LA.out;have := LB.out;have := HA1.out;have := HB1.out;have := HM.out;have := HB.out;have := HNN.out;have := HMD.out;omega) (by have := LA.out;have := LB.out;have := HA1.out;have := HB1.out;have := HM.out;have := HB.out;have := HNN.out;have := HMD.out;omega) (by have := LA.out;have := LB.out;have := HA1.out;have := HB1.out;have := HM.out;have := HB.out;have := HNN.out;have := HMD.out;omega)).mono ?_
                  rintro e2 w3 ⟨rfl,⟨C2,h1,h2,h3⟩,hg⟩
                  have FIN : Aside0 (Merged cf P A B S blk w (.returned (.tuple #[])) w3) := ⟨⟨rfl,⟨C1 ++ C2,by rw [show P ++ (C1 ++ C2) ++ S = P ++ C1 ++ C2 ++ S by simp];exact h1,(CT.out.join TT.out HC1.out.1 HC1.out.2 h2 h3).1,(CT.out.join TT.out HC1.out.1 HC1.out.2 h2 h3).2⟩,only_trans G2.out hg⟩⟩
                  clear h1 h2 h3 hg H2 G2
                  go_wp2_with (fail)
                  refine bodyPost_ret (results_none rfl _ _ _) rfl ?_
                  exact FIN.out
                · have Tmide : decide (mid < e) = true := decide_eq_true (by omega)
                  have Tmidei : decide ((mid : Int) < (e : Int)) = true := decide_eq_true (by omega)
                  have Tmidel : (mid : Int) < (e : Int) := by omega
                  have Tmiden : mid < e := by omega
                  have Teb : decide (e < b) = false := decide_eq_false (by omega)
                  have Tebi : decide ((e : Int) < (b : Int)) = false := decide_eq_false (by omega)
                  have Tebl : (b : Int) ≤ (e : Int) := by omega
                  have Tebn : b ≤ e := by omega
                  have FL := Aside0.mk (CT.out.flat2 TT.out (by have := LA.out;have := LB.out;have := HA1.out;have := HB1.out;have := HM.out;have := HB.out;have := HNN.out;have := HMD.out;omega))
                  have FIN : Aside0 (Merged cf P A B S blk w (.returned (.tuple #[])) w2) := ⟨⟨rfl,⟨C1 ++ (A2 ++ B2),by rw [show P ++ (C1 ++ (A2 ++ B2)) ++ S = P ++ C1 ++ (A2 ++ B2 ++ S) by simp];exact H2.out,(CT.out.join TT.out HC1.out.1 HC1.out.2 (List.Perm.refl _) FL.out).1,(CT.out.join TT.out HC1.out.1 HC1.out.2 (List.Perm.refl _) FL.out).2⟩,G2.out⟩⟩
                  clear H2 G2 FL
                  go_wp2_with (fail)
                  refine bodyPost_ret (results_none rfl _ _ _) rfl ?_
                  exact FIN.out
              · have Tmide : decide (mid < e) = false := decide_eq_false (by omega)
                have Tmidei : decide ((mid : Int) < (e : Int)) = false := decide_eq_false (by omega)
                have Tmidel : (e : Int) ≤ (mid : Int) := by omega
                have Tmiden : e ≤ mid := by omega
                have FL := Aside0.mk (CT.out.flat2 TT.out (by have := LA.out;have := LB.out;have := HA1.out;have := HB1.out;have := HM.out;have := HB.out;have := HNN.out;have := HMD.out;omega))
                have FIN : Aside0 (Merged cf P A B S blk w (.returned (.tuple #[])) w2) := ⟨⟨rfl,⟨C1 ++ (A2 ++ B2),by rw [show P ++ (C1 ++ (A2 ++ B2)) ++ S = P ++ C1 ++ (A2 ++ B2 ++ S) by simp];exact H2.out,(CT.out.join TT.out HC1.out.1 HC1.out.2 (List.Perm.refl _) FL.out).1,(CT.out.join TT.out HC1.out.1 HC1.out.2 (List.Perm.refl _) FL.out).2⟩,G2.out⟩⟩
                clear H2 G2 FL
                go_wp2_with (fail)
                refine bodyPost_ret (results_none rfl _ _ _) rfl ?_
                exact FIN.out
            · have Tai : decide (a < i) = true := decide_eq_true (by omega)
              have Taii : decide ((a : Int) < (i : Int)) = true := decide_eq_true (by omega)
              have Tail : (a : Int) < (i : Int) := by omega
              have Tain : a < i := by omega
              have Timid : decide (i < mid) = false := decide_eq_false (by omega)
              have Timidi : decide ((i : Int) < (mid : Int)) = false := decide_eq_false (by omega)
              have Timidl : (mid : Int) ≤ (i : Int) := by omega
              have Timidn : mid ≤ i := by omega
              obtain ⟨C1,hC1⟩ : ∃ C1,C1 = A1 ++ B1 := ⟨_,rfl⟩
              have HC1 : Aside0 (C1.Perm (A1 ++ B1) ∧ Sorted cf C1) := ⟨by rw [hC1];exact ⟨List.Perm.refl _,CT.out.flat1 TT.out (by have := LA.out;have := LB.out;have := HA1.out;have := HB1.out;have := HM.out;have := HB.out;have := HNN.out;have := HMD.out;omega)⟩⟩
              have H2 : Aside0 (RowAt w1 blk (P ++ C1 ++ (A2 ++ B2 ++ S))) := ⟨by have := H1.out;rw [hC1];rw [← List.append_assoc P A1 B1];exact this⟩
              have HPC := Aside0.mk (show (P ++ C1).length = mid by have := HP.out;rw [hC1];simp at *;have := LA.out;have := LB.out;have := HA1.out;have := HB1.out;have := HM.out;have := HB.out;have := HNN.out;have := HMD.out;omega)
              have G2 := G1
              clear hC1 H1 G1
              rcases Nat.lt_or_ge mid e with q2 | q2
              · rcases Nat.lt_or_ge e b with s2 | s2
                · have Tmide : decide (mid < e) = true := decide_eq_true (by omega)
                  have Tmidei : decide ((mid : Int) < (e : Int)) = true := decide_eq_true (by omega)
                  have Tmidel : (mid : Int) < (e : Int) := by omega
                  have Tmiden : mid < e := by omega
                  have Teb : decide (e < b) = true := decide_eq_true (by omega)
                  have Tebi : decide ((e : Int) < (b : Int)) = true := decide_eq_true (by omega)
                  have Tebl : (e : Int) < (b : Int) := by omega
                  have Tebn : e < b := by omega
                  go_wp2_with (fail)
                  refine (IH.out (P ++ C1) A2 B2 S _ mid e b _ (by have := LA.out;have := LB.out;have := HA1.out;have := HB1.out;have := HM.out;have := HB.out;have := HNN.out;have := HMD.out;omega) H2.out (by have := HL.out;have := EL.out;rw [this] at HL;have := HL.out;have := LA.out;have := LB.out;have := HC1.out.1.length_eq;simp at *;omega) (CT.out.two2 TT.out) (by simp) HPC.out (by have := LA.out;have := LB.out;have := HA1.out;have := HB1.out;have := HM.out;have := HB.out;have := HNN.out;have := HMD.out;omega) (by have := LA.out;have := LB.out;have := HA1.out;have := HB1.out;have := HM.out;have := HB.out;have := HNN.out;have := HMD.out;omega) (by have := LA.out;have := LB.out;have := HA1.out;have := HB1.out;have := HM.out;have := HB.out;have := HNN.out;have := HMD.out;omega) (by have := LA.out;have := LB.out;have := HA1.out;have := HB1.out;have := HM.out;have := HB.out;have := HNN.out;have := HMD.out;omega)).mono ?_
                  rintro e2 w3 ⟨rfl,⟨C2,h1,h2,h3⟩,hg⟩
                  have FIN : Aside0 (Merged cf P A B S blk w (.returned (.tuple #[])) w3) := ⟨⟨rfl,⟨C1 ++ C2,by rw [show P ++ (C1 ++ C2) ++ S = P ++ C1 ++ C2 ++ S by simp];exact h1,(CT.out.join TT.out HC1.out.1 HC1.out.2 h2 h3).1,(CT.out.join TT.out HC1.out.1 HC1.out.2 h2 h3).2⟩,only_trans G2.out hg⟩⟩
                  clear h1 h2 h3 hg H2 G2
                  go_wp2_with (fail)
                  refine bodyPost_ret (results_none rfl _ _ _) rfl ?_
                  exact FIN.out
                · have Tmide : decide (mid < e) = true := decide_eq_true (by omega)
                  have Tmidei : decide ((mid : Int) < (e : Int)) = true := decide_eq_true (by omega)
                  have Tmidel : (mid : Int) < (e : Int) := by omega
                  have Tmiden : mid < e := by omega
                  have Teb : decide (e < b) = false := decide_eq_false (by omega)
                  have Tebi : decide ((e : Int) < (b : Int)) = false := decide_eq_false (by omega)
                  have Tebl : (b : Int) ≤ (e : Int) := by omega
                  have Tebn : b ≤ e := by omega
                  have FL := Aside0.mk (CT.out.flat2 TT.out (by have := LA.out;have := LB.out;have := HA1.out;have := HB1.out;have := HM.out;have := HB.out;have := HNN.out;have := HMD.out;omega))
                  have FIN : Aside0 (Merged cf P A B S blk w (.returned (.tuple #[])) w1) := ⟨⟨rfl,⟨C1 ++ (A2 ++ B2),by rw [show P ++ (C1 ++ (A2 ++ B2)) ++ S = P ++ C1 ++ (A2 ++ B2 ++ S) by simp];exact H2.out,(CT.out.join TT.out HC1.out.1 HC1.out.2 (List.Perm.refl _) FL.out).1,(CT.out.join TT.out HC1.out.1 HC1.out.2 (List.Perm.refl _) FL.out).2⟩,G2.out⟩⟩
                  clear H2 G2 FL
                  go_wp2_with (fail)
                  refine bodyPost_ret (results_none rfl _ _ _) rfl ?_
                  exact FIN.out
              · have Tmide : decide (mid < e) = false := decide_eq_false (by omega)
                have Tmidei : decide ((mid : Int) < (e : Int)) = false := decide_eq_false (by omega)
                have Tmidel : (e : Int) ≤ (mid : Int) := by omega
                have Tmiden : e ≤ mid := by omega
                have FL := Aside0.mk (CT.out.flat2 TT.out (by have := LA.out;have := LB.out;have := HA1.out;have := HB1.out;have := HM.out;have := HB.out;have := HNN.out;have := HMD.out;omega))
                have FIN : Aside0 (Merged cf P A B S blk w (.returned (.tuple #[])) w1) := ⟨⟨rfl,⟨C1 ++ (A2 ++ B2),by rw [show P ++ (C1 ++ (A2 ++ B2)) ++ S = P ++ C1 ++ (A2 ++ B2 ++ S) by simp];exact H2.out,(CT.out.join TT.out HC1.out.1 HC1.out.2 (List.Perm.refl _) FL.out).1,(CT.out.join TT.out HC1.out.1 HC1.out.2 (List.Perm.refl _) FL.out).2⟩,G2.out⟩⟩
                clear H2 G2 FL
                go_wp2_with (fail)
                refine bodyPost_ret (results_none rfl _ _ _) rfl ?_
                exact FIN.out
          · have Tai : decide (a < i) = false := decide_eq_false (by omega)
            have Taii : decide ((a : Int) < (i : Int)) = false := decide_eq_false (by omega)
            have Tail : (i : Int) ≤ (a : Int) := by omega
            have Tain : i ≤ a := by omega
            obtain ⟨C1,hC1⟩ : ∃ C1,C1 = A1 ++ B1 := ⟨_,rfl⟩
            have HC1 : Aside0 (C1.Perm (A1 ++ B1) ∧ Sorted cf C1) := ⟨by rw [hC1];exact ⟨List.Perm.refl _,CT.out.flat1 TT.out (by have := LA.out;have := LB.out;have := HA1.out;have := HB1.out;have := HM.out;have := HB.out;have := HNN.out;have := HMD.out;omega)⟩⟩
            have H2 : Aside0 (RowAt w1 blk (P ++ C1 ++ (A2 ++ B2 ++ S))) := ⟨by have := H1.out;rw [hC1];rw [← List.append_assoc P A1 B1];exact this⟩
            have HPC := Aside0.mk (show (P ++ C1).length = mid by have := HP.out;rw [hC1];simp at *;have := LA.out;have := LB.out;have := HA1.out;have := HB1.out;have := HM.out;have := HB.out;have := HNN.out;have := HMD.out;omega)
            have G2 := G1
            clear hC1 H1 G1
            rcases Nat.lt_or_ge mid e with q2 | q2
            · rcases Nat.lt_or_ge e b with s2 | s2
              · have Tmide : decide (mid < e) = true := decide_eq_true (by omega)
                have Tmidei : decide ((mid : Int) < (e : Int)) = true := decide_eq_true (by omega)
                have Tmidel : (mid : Int) < (e : Int) := by omega
                have Tmiden : mid < e := by omega
                have Teb : decide (e < b) = true := decide_eq_true (by omega)
                have Tebi : decide ((e : Int) < (b : Int)) = true := decide_eq_true (by omega)
                have Tebl : (e : Int) < (b : Int) := by omega
                have Tebn : e < b := by omega
                go_wp2_with (fail)
                refine (IH.out (P ++ C1) A2 B2 S _ mid e b _ (by have := LA.out;have := LB.out;have := HA1.out;have := HB1.out;have := HM.out;have := HB.out;have := HNN.out;have := HMD.out;omega) H2.out (by have := HL.out;have := EL.out;rw [this] at HL;have := HL.out;have := LA.out;have := LB.out;have := HC1.out.1.length_eq;simp at *;omega) (CT.out.two2 TT.out) (by simp) HPC.out (by have := LA.out;have := LB.out;have := HA1.out;have := HB1.out;have := HM.out;have := HB.out;have := HNN.out;have := HMD.out;omega) (by have := LA.out;have := LB.out;have := HA1.out;have := HB1.out;have := HM.out;have := HB.out;have := HNN.out;have := HMD.out;omega) (by have := LA.out;have := LB.out;have := HA1.out;have := HB1.out;have := HM.out;have := HB.out;have := HNN.out;have := HMD.out;omega) (by have := LA.out;have := LB.out;have := HA1.out;have := HB1.out;have := HM.out;have := HB.out;have := HNN.out;have := HMD.out;omega)).mono ?_
                rintro e2 w3 ⟨rfl,⟨C2,h1,h2,h3⟩,hg⟩
                have FIN : Aside0 (Merged cf P A B S blk w (.returned (.tuple #[])) w3) := ⟨⟨rfl,⟨C1 ++ C2,by rw [show P ++ (C1 ++ C2) ++ S = P ++ C1 ++ C2 ++ S by simp];exact h1,(CT.out.join TT.out HC1.out.1 HC1.out.2 h2 h3).1,(CT.out.join TT.out HC1.out.1 HC1.out.2 h2 h3).2⟩,only_trans G2.out hg⟩⟩
                clear h1 h2 h3 hg H2 G2
                go_wp2_with (fail)
                refine bodyPost_ret (results_none rfl _ _ _) rfl ?_
                exact FIN.out
              · have Tmide : decide (mid < e) = true := decide_eq_true (by omega)
                have Tmidei : decide ((mid : Int) < (e : Int)) = true := decide_eq_true (by omega)
                have Tmidel : (mid : Int) < (e : Int) := by omega
                have Tmiden : mid < e := by omega
                have Teb : decide (e < b) = false := decide_eq_false (by omega)
                have Tebi : decide ((e : Int) < (b : Int)) = false := decide_eq_false (by omega)
                have Tebl : (b : Int) ≤ (e : Int) := by omega
                have Tebn : b ≤ e := by omega
                have FL := Aside0.mk (CT.out.flat2 TT.out (by have := LA.out;have := LB.out;have := HA1.out;have := HB1.out;have := HM.out;have := HB.out;have := HNN.out;have := HMD.out;omega))
                have FIN : Aside0 (Merged cf P A B S blk w (.returned (.tuple #[])) w1) := ⟨⟨rfl,⟨C1 ++ (A2 ++ B2),by rw [show P ++ (C1 ++ (A2 ++ B2)) ++ S = P ++ C1 ++ (A2 ++ B2 ++ S) by simp];exact H2.out,(CT.out.join TT.out HC1.out.1 HC1.out.2 (List.Perm.refl _) FL.out).1,(CT.out.join TT.out HC1.out.1 HC1.out.2 (List.Perm.refl _) FL.out).2⟩,G2.out⟩⟩
                clear H2 G2 FL
                go_wp2_with (fail)
                refine bodyPost_ret (results_none rfl _ _ _) rfl ?_
                exact FIN.out
            · have Tmide : decide (mid < e) = false := decide_eq_false (by omega)
              have Tmidei : decide ((mid : Int) < (e : Int)) = false := decide_eq_false (by omega)
              have Tmidel : (e : Int) ≤ (mid : Int) := by omega
              have Tmiden : e ≤ mid := by omega
              have FL := Aside0.mk (CT.out.flat2 TT.out (by have := LA.out;have := LB.out;have := HA1.out;have := HB1.out;have := HM.out;have := HB.out;have := HNN.out;have := HMD.out;omega))
              have FIN : Aside0 (Merged cf P A B S blk w (.returned (.tuple #[])) w1) := ⟨⟨rfl,⟨C1 ++ (A2 ++ B2),by rw [show P ++ (C1 ++ (A2 ++ B2)) ++ S = P ++ C1 ++ (A2 ++ B2 ++ S) by simp];exact H2.out,(CT.out.join TT.out HC1.out.1 HC1.out.2 (List.Perm.refl _) FL.out).1,(CT.out.join TT.out HC1.out.1 HC1.out.2 (List.Perm.refl _) FL.out).2⟩,G2.out⟩⟩
              clear H2 G2 FL
              go_wp2_with (fail)
              refine bodyPost_ret (results_none rfl _ _ _) rfl ?_
              exact FIN.out
        · have Tim : decide (i < m) = true := decide_eq_true (by omega)
          have Timi : decide ((i : Int) < (m : Int)) = true := decide_eq_true (by omega)
          have Timl : (i : Int) < (m : Int) := by omega
          have Timn : i < m := by omega
          have Tme : decide (m < e) = false := decide_eq_false (by omega)
          have Tmei : decide ((m : Int) < (e : Int)) = false := decide_eq_false (by omega)
          have Tmel : (e : Int) ≤ (m : Int) := by omega
          have Tmen : e ≤ m := by omega
          have H1 := Aside0.mk (show RowAt wr blk (P ++ A1 ++ B1 ++ (A2 ++ B2 ++ S)) by have := H.out;rwa [CT.out.noturn EL.out HP.out HM.out HA1.out HB1.out (by omega)] at this)
          have G1 := HG
          clear H HG
          rcases Nat.lt_or_ge a i with q1 | q1
          · rcases Nat.lt_or_ge i mid with s1 | s1
            · have Tai : decide (a < i) = true := decide_eq_true (by omega)
              have Taii : decide ((a : Int) < (i : Int)) = true := decide_eq_true (by omega)
              have Tail : (a : Int) < (i : Int) := by omega
              have Tain : a < i := by omega
              have Timid : decide (i < mid) = true := decide_eq_true (by omega)
              have Timidi : decide ((i : Int) < (mid : Int)) = true := decide_eq_true (by omega)
              have Timidl : (i : Int) < (mid : Int) := by omega
              have Timidn : i < mid := by omega
              go_wp2_with (fail)
              refine (IH.out P A1 B1 (A2 ++ B2 ++ S) _ a i mid _ (by have := LA.out;have := LB.out;have := HA1.out;have := HB1.out;have := HM.out;have := HB.out;have := HNN.out;have := HMD.out;omega) H1.out (by have := HL.out;have := EL.out;rw [this] at HL;have := HL.out;have := LA.out;have := LB.out;simp at *;omega) (CT.out.two1 TT.out) rfl HP.out HA1.out HMD.out (by have := LA.out;have := LB.out;have := HA1.out;have := HB1.out;have := HM.out;have := HB.out;have := HNN.out;have := HMD.out;omega) (by have := LA.out;have := LB.out;have := HA1.out;have := HB1.out;have := HM.out;have := HB.out;have := HNN.out;have := HMD.out;omega)).mono ?_
              rintro e2 w2 ⟨rfl,⟨C1,h1,h2,h3⟩,hg⟩
              have HC1 := Aside0.mk (And.intro h2 h3)
              have H2 := Aside0.mk h1
              have G2 := Aside0.mk (only_trans G1.out hg)
              have HPC := Aside0.mk (show (P ++ C1).length = mid by have := h2.length_eq;have := HP.out;simp at *;have := LA.out;have := LB.out;have := HA1.out;have := HB1.out;have := HM.out;have := HB.out;have := HNN.out;have := HMD.out;omega)
              clear h1 h2 h3 hg H1 G1
              rcases Nat.lt_or_ge mid e with q2 | q2
              · rcases Nat.lt_or_ge e b with s2 | s2
                · have Tmide : decide (mid < e) = true := decide_eq_true (by omega)
                  have Tmidei : decide ((mid : Int) < (e : Int)) = true := decide_eq_true (by omega)
                  have Tmidel : (mid : Int) < (e : Int) := by omega
                  have Tmiden : mid < e := by omega
                  have Teb : decide (e < b) = true := decide_eq_true (by omega)
                  have Tebi : decide ((e : Int) < (b : Int)) = true := decide_eq_true (by omega)
                  have Tebl : (e : Int) < (b : Int) := by omega
                  have Tebn : e < b := by omega
                  go_wp2_with (fail)
                  refine (IH.out (P ++ C1) A2 B2 S _ mid e b _ (by have := LA.out;have := LB.out;have := HA1.out;have := HB1.out;have := HM.out;have := HB.out;have := HNN.out;have := HMD.out;omega) H2.out (by have := HL.out;have := EL.out;rw [this] at HL;have := HL.out;have := LA.out;have := LB.out;have := HC1.out.1.length_eq;simp at *;omega) (CT.out.two2 TT.out) (by simp) HPC.out (by have := LA.out;have := LB.out;have := HA1.out;have := HB1.out;have := HM.out;have := HB.out;have := HNN.out;have := HMD.out;omega) (by have := LA.out;have := LB.out;have := HA1.out;have := HB1.out;have := HM.out;have := HB.out;have := HNN.out;have := HMD.out;omega) (by have := LA.out;have := LB.out;have := HA1.out;have := HB1.out;have := HM.out;have := HB.out;have := HNN.out;have := HMD.out;omega) (by have := LA.out;have := LB.out;have := HA1.out;have := HB1.out;have := HM.out;have := HB.out;have := HNN.out;have := HMD.out;omega)).mono ?_
                  rintro e2 w3 ⟨rfl,⟨C2,h1,h2,h3⟩,hg⟩
                  have FIN : Aside0 (Merged cf P A B S blk w (.returned (.tuple #[])) w3) := ⟨⟨rfl,⟨C1 ++ C2,by rw [show P ++ (C1 ++ C2) ++ S = P ++ C1 ++ C2 ++ S by simp];exact h1,(CT.out.join TT.out HC1.out.1 HC1.out.2 h2 h3).1,(CT.out.join TT.out HC1.out.1 HC1.out.2 h2 h3).2⟩,only_trans G2.out hg⟩⟩
                  clear h1 h2 h3 hg H2 G2
                  go_wp2_with (fail)
                  refine bodyPost_ret (results_none rfl _ _ _) rfl ?_
                  exact FIN.out
                · have Tmide : decide (mid < e) = true := decide_eq_true (by omega)
                  have Tmidei : decide ((mid : Int) < (e : Int)) = true := decide_eq_true (by omega)
                  have Tmidel : (mid : Int) < (e : Int) := by omega
                  have Tmiden : mid < e := by omega
                  have Teb : decide (e < b) = false := decide_eq_false (by omega)
                  have Tebi : decide ((e : Int) < (b : Int)) = false := decide_eq_false (by omega)
                  have Tebl : (b : Int) ≤ (e : Int) := by omega
                  have Tebn : b ≤ e := by omega
                  have FL := Aside0.mk (CT.out.flat2 TT.out (by have := LA.out;have := LB.out;have := HA1.out;have := HB1.out;have := HM.out;have := HB.out;have := HNN.out;have := HMD.out;omega))
                  have FIN : Aside0 (Merged cf P A B S blk w (.returned (.tuple #[])) w2) := ⟨⟨rfl,⟨C1 ++ (A2 ++ B2),by rw [show P ++ (C1 ++ (A2 ++ B2)) ++ S = P ++ C1 ++ (A2 ++ B2 ++ S) by simp];exact H2.out,(CT.out.join TT.out HC1.out.1 HC1.out.2 (List.Perm.refl _) FL.out).1,(CT.out.join TT.out HC1.out.1 HC1.out.2 (List.Perm.refl _) FL.out).2⟩,G2.out⟩⟩
                  clear H2 G2 FL
                  go_wp2_with (fail)
                  refine bodyPost_ret (results_none rfl _ _ _) rfl ?_
                  exact FIN.out
              · have Tmide : decide (mid < e) = false := decide_eq_false (by omega)
                have Tmidei : decide ((mid : Int) < (e : Int)) = false := decide_eq_false (by omega)
                have Tmidel : (e : Int) ≤ (mid : Int) := by omega
                have Tmiden : e ≤ mid := by omega
                have FL := Aside0.mk (CT.out.flat2 TT.out (by have := LA.out;have := LB.out;have := HA1.out;have := HB1.out;have := HM.out;have := HB.out;have := HNN.out;have := HMD.out;omega))
                have FIN : Aside0 (Merged cf P A B S blk w (.returned (.tuple #[])) w2) := ⟨⟨rfl,⟨C1 ++ (A2 ++ B2),by rw [show P ++ (C1 ++ (A2 ++ B2)) ++ S = P ++ C1 ++ (A2 ++ B2 ++ S) by simp];exact H2.out,(CT.out.join TT.out HC1.out.1 HC1.out.2 (List.Perm.refl _) FL.out).1,(CT.out.join TT.out HC1.out.1 HC1.out.2 (List.Perm.refl _) FL.out).2⟩,G2.out⟩⟩
                clear H2 G2 FL
                go_wp2_with (fail)
                refine bodyPost_ret (results_none rfl _ _ _) rfl ?_
                exact FIN.out
            · have Tai : decide (a < i) = true := decide_eq_true (by omega)
              have Taii : decide ((a : Int) < (i : Int)) = true := decide_eq_true (by omega)
              have Tail : (a : Int) < (i : Int) := by omega
              have Tain : a < i := by omega
              have Timid : decide (i < mid) = false := decide_eq_false (by omega)
              have Timidi : decide ((i : Int) < (mid : Int)) = false := decide_eq_false (by omega)
              have Timidl : (mid : Int) ≤ (i : Int) := by omega
              have Timidn : mid ≤ i := by omega
              obtain ⟨C1,hC1⟩ : ∃ C1,C1 = A1 ++ B1 := ⟨_,rfl⟩
              have HC1 : Aside0 (C1.Perm (A1 ++ B1) ∧ Sorted cf C1) := ⟨by rw [hC1];exact ⟨List.Perm.refl _,CT.out.flat1 TT.out (by have := LA.out;have := LB.out;have := HA1.out;have := HB1.out;have := HM.out;have := HB.out;have := HNN.out;have := HMD.out;omega)⟩⟩
              have H2 : Aside0 (RowAt wr blk (P ++ C1 ++ (A2 ++ B2 ++ S))) := ⟨by have := H1.out;rw [hC1];rw [← List.append_assoc P A1 B1];exact this⟩
              have HPC := Aside0.mk (show (P ++ C1).length = mid by have := HP.out;rw [hC1];simp at *;have := LA.out;have := LB.out;have := HA1.out;have := HB1.out;have := HM.out;have := HB.out;have := HNN.out;have := HMD.out;omega)
              have G2 := G1
              clear hC1 H1 G1
              rcases Nat.lt_or_ge mid e with q2 | q2
              · rcases Nat.lt_or_ge e b with s2 | s2
                · have Tmide : decide (mid < e) = true := decide_eq_true (by omega)
                  have Tmidei : decide ((mid : Int) < (e : Int)) = true := decide_eq_true (by omega)
                  have Tmidel : (mid : Int) < (e : Int) := by omega
                  have Tmiden : mid < e := by omega
                  have Teb : decide (e < b) = true := decide_eq_true (by omega)
                  have Tebi : decide ((e : Int) < (b : Int)) = true := decide_eq_true (by omega)
                  have Tebl : (e : Int) < (b : Int) := by omega
                  have Tebn : e < b := by omega
                  go_wp2_with (fail)
                  refine (IH.out (P ++ C1) A2 B2 S _ mid e b _ (by have := LA.out;have := LB.out;have := HA1.out;have := HB1.out;have := HM.out;have := HB.out;have := HNN.out;have := HMD.out;omega) H2.out (by have := HL.out;have := EL.out;rw [this] at HL;have := HL.out;have := LA.out;have := LB.out;have := HC1.out.1.length_eq;simp at *;omega) (CT.out.two2 TT.out) (by simp) HPC.out (by have := LA.out;have := LB.out;have := HA1.out;have := HB1.out;have := HM.out;have := HB.out;have := HNN.out;have := HMD.out;omega) (by have := LA.out;have := LB.out;have := HA1.out;have := HB1.out;have := HM.out;have := HB.out;have := HNN.out;have := HMD.out;omega) (by have := LA.out;have := LB.out;have := HA1.out;have := HB1.out;have := HM.out;have := HB.out;have := HNN.out;have := HMD.out;omega) (by have := LA.out;have := LB.out;have := HA1.out;have := HB1.out;have := HM.out;have := HB.out;have := HNN.out;have := HMD.out;omega)).mono ?_
                  rintro e2 w3 ⟨rfl,⟨C2,h1,h2,h3⟩,hg⟩
                  have FIN : Aside0 (Merged cf P A B S blk w (.returned (.tuple #[])) w3) := ⟨⟨rfl,⟨C1 ++ C2,by rw [show P ++ (C1 ++ C2) ++ S = P ++ C1 ++ C2 ++ S by simp];exact h1,(CT.out.join TT.out HC1.out.1 HC1.out.2 h2 h3).1,(CT.out.join TT.out HC1.out.1 HC1.out.2 h2 h3).2⟩,only_trans G2.out hg⟩⟩
                  clear h1 h2 h3 hg H2 G2
                  go_wp2_with (fail)
                  refine bodyPost_ret (results_none rfl _ _ _) rfl ?_
                  exact FIN.out
                · have Tmide : decide (mid < e) = true := decide_eq_true (by omega)
                  have Tmidei : decide ((mid : Int) < (e : Int)) = true := decide_eq_true (by omega)
                  have Tmidel : (mid : Int) < (e : Int) := by omega
                  have Tmiden : mid < e := by omega
                  have Teb : decide (e < b) = false := decide_eq_false (by omega)
                  have Tebi : decide ((e : Int) < (b : Int)) = false := decide_eq_false (by omega)
                  have Tebl : (b : Int) ≤ (e : Int) := by omega
                  have Tebn : b ≤ e := by omega
                  have FL := Aside0.mk (CT.out.flat2 TT.out (by have := LA.out;have := LB.out;have := HA1.out;have := HB1.out;have := HM.out;have := HB.out;have := HNN.out;have := HMD.out;omega))
                  have FIN : Aside0 (Merged cf P A B S blk w (.returned (.tuple #[])) wr) := ⟨⟨rfl,⟨C1 ++ (A2 ++ B2),by rw [show P ++ (C1 ++ (A2 ++ B2)) ++ S = P ++ C1 ++ (A2 ++ B2 ++ S) by simp];exact H2.out,(CT.out.join TT.out HC1.out.1 HC1.out.2 (List.Perm.refl _) FL.out).1,(CT.out.join TT.out HC1.out.1 HC1.out.2 (List.Perm.refl _) FL.out).2⟩,G2.out⟩⟩
                  clear H2 G2 FL
                  go_wp2_with (fail)
                  refine bodyPost_ret (results_none rfl _ _ _) rfl ?_
                  exact FIN.out
              · have Tmide : decide (mid < e) = false := decide_eq_false (by omega)
                have Tmidei : decide ((mid : Int) < (e : Int)) = false := decide_eq_false (by omega)
                have Tmidel : (e : Int) ≤ (mid : Int) := by omega
                have Tmiden : e ≤ mid := by omega
                have FL := Aside0.mk (CT.out.flat2 TT.out (by have := LA.out;have := LB.out;have := HA1.out;have := HB1.out;have := HM.out;have := HB.out;have := HNN.out;have := HMD.out;omega))
                have FIN : Aside0 (Merged cf P A B S blk w (.returned (.tuple #[])) wr) := ⟨⟨rfl,⟨C1 ++ (A2 ++ B2),by rw [show P ++ (C1 ++ (A2 ++ B2)) ++ S = P ++ C1 ++ (A2 ++ B2 ++ S) by simp];exact H2.out,(CT.out.join TT.out HC1.out.1 HC1.out.2 (List.Perm.refl _) FL.out).1,(CT.out.join TT.out HC1.out.1 HC1.out.2 (List.Perm.refl _) FL.out).2⟩,G2.out⟩⟩
                clear H2 G2 FL
                go_wp2_with (fail)
                refine bodyPost_ret (results_none rfl _ _ _) rfl ?_
                exact FIN.out
          · have Tai : decide (a < i) = false := decide_eq_false (by omega)
            have Taii : decide ((a : Int) < (i : Int)) = false := decide_eq_false (by omega)
            have Tail : (i : Int) ≤ (a : Int) := by omega
            have Tain : i ≤ a := by omega
            obtain ⟨C1,hC1⟩ : ∃ C1,C1 = A1 ++ B1 := ⟨_,rfl⟩
            have HC1 : Aside0 (C1.Perm (A1 ++ B1) ∧ Sorted cf C1) := ⟨by rw [hC1];exact ⟨List.Perm.refl _,CT.out.flat1 TT.out (by have := LA.out;have := LB.out;have := HA1.out;have := HB1.out;have := HM.out;have := HB.out;have := HNN.out;have := HMD.out;omega)⟩⟩
            have H2 : Aside0 (RowAt wr blk (P ++ C1 ++ (A2 ++ B2 ++ S))) := ⟨by have := H1.out;rw [hC1];rw [← List.append_assoc P A1 B1];exact this⟩
            have HPC := Aside0.mk (show (P ++ C1).length = mid by have := HP.out;rw [hC1];simp at *;have := LA.out;have := LB.out;have := HA1.out;have := HB1.out;have := HM.out;have := HB.out;have := HNN.out;have := HMD.out;omega)
            have G2 := G1
            clear hC1 H1 G1
            rcases Nat.lt_or_ge mid e with q2 | q2
            · rcases Nat.lt_or_ge e b with s2 | s2
              · have Tmide : decide (mid < e) = true := decide_eq_true (by omega)
                have Tmidei : decide ((mid : Int) < (e : Int)) = true := decide_eq_true (by omega)
                have Tmidel : (mid : Int) < (e : Int) := by omega
                have Tmiden : mid < e := by omega
                have Teb : decide (e < b) = true := decide_eq_true (by omega)
                have Tebi : decide ((e : Int) < (b : Int)) = true := decide_eq_true (by omega)
                have Tebl : (e : Int) < (b : Int) := by omega
                have Tebn : e < b := by omega
                go_wp2_with (fail)
                refine (IH.out (P ++ C1) A2 B2 S _ mid e b _ (by have := LA.out;have := LB.out;have := HA1.out;have := HB1.out;have := HM.out;have := HB.out;have := HNN.out;have := HMD.out;omega) H2.out (by have := HL.out;have := EL.out;rw [this] at HL;have := HL.out;have := LA.out;have := LB.out;have := HC1.out.1.length_eq;simp at *;omega) (CT.out.two2 TT.out) (by simp) HPC.out (by have := LA.out;have := LB.out;have := HA1.out;have := HB1.out;have := HM.out;have := HB.out;have := HNN.out;have := HMD.out;omega) (by have := LA.out;have := LB.out;have := HA1.out;have := HB1.out;have := HM.out;have := HB.out;have := HNN.out;have := HMD.out;omega) (by have := LA.out;have := LB.out;have := HA1.out;have := HB1.out;have := HM.out;have := HB.out;have := HNN.out;have := HMD.out;omega) (by have := LA.out;have := LB.out;have := HA1.out;have := HB1.out;have := HM.out;have := HB.out;have := HNN.out;have := HMD.out;omega)).mono ?_
                rintro e2 w3 ⟨rfl,⟨C2,h1,h2,h3⟩,hg⟩
                have FIN : Aside0 (Merged cf P A B S blk w (.returned (.tuple #[])) w3) := ⟨⟨rfl,⟨C1 ++ C2,by rw [show P ++ (C1 ++ C2) ++ S = P ++ C1 ++ C2 ++ S by simp];exact h1,(CT.out.join TT.out HC1.out.1 HC1.out.2 h2 h3).1,(CT.out.join TT.out HC1.out.1 HC1.out.2 h2 h3).2⟩,only_trans G2.out hg⟩⟩
                clear h1 h2 h3 hg H2 G2
                go_wp2_with (fail)
                refine bodyPost_ret (results_none rfl _ _ _) rfl ?_
                exact FIN.out
              · have Tmide : decide (mid < e) = true := decide_eq_true (by omega)
                have Tmidei : decide ((mid : Int) < (e : Int)) = true := decide_eq_true (by omega)
                have Tmidel : (mid : Int) < (e : Int) := by omega
                have Tmiden : mid < e := by omega
                have Teb : decide (e < b) = false := decide_eq_false (by omega)
                have Tebi : decide ((e : Int) < (b : Int)) = false := decide_eq_false (by omega)
                have Tebl : (b : Int) ≤ (e : Int) := by omega
                have Tebn : b ≤ e := by omega
                have FL := Aside0.mk (CT.out.flat2 TT.out (by have := LA.out;have := LB.out;have := HA1.out;have := HB1.out;have := HM.out;have := HB.out;have := HNN.out;have := HMD.out;omega))
                have FIN : Aside0 (Merged cf P A B S blk w (.returned (.tuple #[])) wr) := ⟨⟨rfl,⟨C1 ++ (A2 ++ B2),by rw [show P ++ (C1 ++ (A2 ++ B2)) ++ S = P ++ C1 ++ (A2 ++ B2 ++ S) by simp];exact H2.out,(CT.out.join TT.out HC1.out.1 HC1.out.2 (List.Perm.refl _) FL.out).1,(CT.out.join TT.out HC1.out.1 HC1.out.2 (List.Perm.refl _) FL.out).2⟩,G2.out⟩⟩
                clear H2 G2 FL
                go_wp2_with (fail)
                refine bodyPost_ret (results_none rfl _ _ _) rfl ?_
                exact FIN.out
            · have Tmide : decide (mid < e) = false := decide_eq_false (by omega)
              have Tmidei : decide ((mid : Int) < (e : Int)) = false := decide_eq_false (by omega)
              have Tmidel : (e : Int) ≤ (mid : Int) := by omega
              have Tmiden : e ≤ mid := by omega
              have FL := Aside0.mk (CT.out.flat2 TT.out (by have := LA.out;have := LB.out;have := HA1.out;have := HB1.out;have := HM.out;have := HB.out;have := HNN.out;have := HMD.out;omega))
              have FIN : Aside0 (Merged cf P A B S blk w (.returned (.tuple #[])) wr) := ⟨⟨rfl,⟨C1 ++ (A2 ++ B2),by rw [show P ++ (C1 ++ (A2 ++ B2)) ++ S = P ++ C1 ++ (A2 ++ B2 ++ S) by simp];exact H2.out,(CT.out.join TT.out HC1.out.1 HC1.out.2 (List.Perm.refl _) FL.out).1,(CT.out.join TT.out HC1.out.1 HC1.out.2 (List.Perm.refl _) FL.out).2⟩,G2.out⟩⟩
              clear H2 G2 FL
              go_wp2_with (fail)
              refine bodyPost_ret (results_none rfl _ _ _) rfl ?_
              exact FIN.out
      · have Tim : decide (i < m) = false := decide_eq_false (by omega)
        have Timi : decide ((i : Int) < (m : Int)) = false := decide_eq_false (by omega)
        have Timl : (m : Int) ≤ (i : Int) := by omega
        have Timn : m ≤ i := by omega
        have H1 := Aside0.mk (show RowAt wr blk (P ++ A1 ++ B1 ++ (A2 ++ B2 ++ S)) by have := H.out;rwa [CT.out.noturn EL.out HP.out HM.out HA1.out HB1.out (by omega)] at this)
        have G1 := HG
        clear H HG
        rcases Nat.lt_or_ge a i with q1 | q1
        · rcases Nat.lt_or_ge i mid with s1 | s1
          · have Tai : decide (a < i) = true := decide_eq_true (by omega)
            have Taii : decide ((a : Int) < (i : Int)) = true := decide_eq_true (by omega)
            have Tail : (a : Int) < (i : Int) := by omega
            have Tain : a < i := by omega
            have Timid : decide (i < mid) = true := decide_eq_true (by omega)
            have Timidi : decide ((i : Int) < (mid : Int)) = true := decide_eq_true (by omega)
            have Timidl : (i : Int) < (mid : Int) := by omega
            have Timidn : i < mid := by omega
            go_wp2_with (fail)
            refine (IH.out P A1 B1 (A2 ++ B2 ++ S) _ a i mid _ (by have := LA.out;have := LB.out;have := HA1.out;have := HB1.out;have := HM.out;have := HB.out;have := HNN.out;have := HMD.out;omega) H1.out (by have := HL.out;have := EL.out;rw [this] at HL;have := HL.out;have := LA.out;have := LB.out;simp at *;omega) (CT.out.two1 TT.out) rfl HP.out HA1.out HMD.out (by have := LA.out;have := LB.out;have := HA1.out;have := HB1.out;have := HM.out;have := HB.out;have := HNN.out;have := HMD.out;omega) (by have := LA.out;have := LB.out;have := HA1.out;have := HB1.out;have := HM.out;have := HB.out;have := HNN.out;have := HMD.out;omega)).mono ?_
            rintro e2 w2 ⟨rfl,⟨C1,h1,h2,h3⟩,hg⟩
            have HC1 := Aside0.mk (And.intro h2 h3)
            have H2 := Aside0.mk h1
            have G2 := Aside0.mk (only_trans G1.out hg)
            have HPC := Aside0.mk (show (P ++ C1).length = mid by have := h2.length_eq;have := HP.out;simp at *;have := LA.out;have := LB.out;have := HA1.out;have := HB1.out;have := HM.out;have := HB.out;have := HNN.out;have := HMD.out;omega)
            clear h1 h2 h3 hg H1 G1
            rcases Nat.lt_or_ge mid e with q2 | q2
            · rcases Nat.lt_or_ge e b with s2 | s2
              · have Tmide : decide (mid < e) = true := decide_eq_true (by omega)
                have Tmidei : decide ((mid : Int) < (e : Int)) = true := decide_eq_true (by omega)
                have Tmidel : (mid : Int) < (e : Int) := by omega
                have Tmiden : mid < e := by omega
                have Teb : decide (e < b) = true := decide_eq_true (by omega)
                have Tebi : decide ((e : Int) < (b : Int)) = true := decide_eq_true (by omega)
                have Tebl : (e : Int) < (b : Int) := by omega
                have Tebn : e < b := by omega
                go_wp2_with (fail)
                refine (IH.out (P ++ C1) A2 B2 S _ mid e b _ (by have := LA.out;have := LB.out;have := HA1.out;have := HB1.out;have := HM.out;have := HB.out;have := HNN.out;have := HMD.out;omega) H2.out (by have := HL.out;have := EL.out;rw [this] at HL;have := HL.out;have := LA.out;have := LB.out;have := HC1.out.1.length_eq;simp at *;omega) (CT.out.two2 TT.out) (by simp) HPC.out (by have := LA.out;have := LB.out;have := HA1.out;have := HB1.out;have := HM.out;have := HB.out;have := HNN.out;have := HMD.out;omega) (by have := LA.out;have := LB.out;have := HA1.out;have := HB1.out;have := HM.out;have := HB.out;have := HNN.out;have := HMD.out;omega) (by have := LA.out;have := LB.out;have := HA1.out;have := HB1.out;have := HM.out;have := HB.out;have := HNN.out;have := HMD.out;omega) (by have := LA.out;have := LB.out;have := HA1.out;have := HB1.out;have := HM.out;have := HB.out;have := HNN.out;have := HMD.out;omega)).mono ?_
                rintro e2 w3 ⟨rfl,⟨C2,h1,h2,h3⟩,hg⟩
                have FIN : Aside0 (Merged cf P A B S blk w (.returned (.tuple #[])) w3) := ⟨⟨rfl,⟨C1 ++ C2,by rw [show P ++ (C1 ++ C2) ++ S = P ++ C1 ++ C2 ++ S by simp];exact h1,(CT.out.join TT.out HC1.out.1 HC1.out.2 h2 h3).1,(CT.out.join TT.out HC1.out.1 HC1.out.2 h2 h3).2⟩,only_trans G2.out hg⟩⟩
                clear h1 h2 h3 hg H2 G2
                go_wp2_with (fail)
                refine bodyPost_ret (results_none rfl _ _ _) rfl ?_
                exact FIN.out
              · have Tmide : decide (mid < e) = true := decide_eq_true (by omega)
                have Tmidei : decide ((mid : Int) < (e : Int)) = true := decide_eq_true (by omega)
                have Tmidel : (mid : Int) < (e : Int) := by omega
                have Tmiden : mid < e := by omega
                have Teb : decide (e < b) = false := decide_eq_false (by omega)
                have Tebi : decide ((e : Int) < (b : Int)) = false := decide_eq_false (by omega)
                have Tebl : (b : Int) ≤ (e : Int) := by omega
                have Tebn : b ≤ e := by omega
                have FL := Aside0.mk (CT.out.flat2 TT.out (by have := LA.out;have := LB.out;have := HA1.out;have := HB1.out;have := HM.out;have := HB.out;have := HNN.out;have := HMD.out;omega))
                have FIN : Aside0 (Merged cf P A B S blk w (.returned (.tuple #[])) w2) := ⟨⟨rfl,⟨C1 ++ (A2 ++ B2),by rw [show P ++ (C1 ++ (A2 ++ B2)) ++ S = P ++ C1 ++ (A2 ++ B2 ++ S) by simp];exact H2.out,(CT.out.join TT.out HC1.out.1 HC1.out.2 (List.Perm.refl _) FL.out).1,(CT.out.join TT.out HC1.out.1 HC1.out.2 (List.Perm.refl _) FL.out).2⟩,G2.out⟩⟩
                clear H2 G2 FL
                go_wp2_with (fail)
                refine bodyPost_ret (results_none rfl _ _ _) rfl ?_
                exact FIN.out
            · have Tmide : decide (mid < e) = false := decide_eq_false (by omega)
              have Tmidei : decide ((mid : Int) < (e : Int)) = false := decide_eq_false (by omega)
              have Tmidel : (e : Int) ≤ (mid : Int) := by omega
              have Tmiden : e ≤ mid := by omega
              have FL := Aside0.mk (CT.out.flat2 TT.out (by have := LA.out;have := LB.out;have := HA1.out;have := HB1.out;have := HM.out;have := HB.out;have := HNN.out;have := HMD.out;omega))
              have FIN : Aside0 (Merged cf P A B S blk w (.returned (.tuple #[])) w2) := ⟨⟨rfl,⟨C1 ++ (A2 ++ B2),by rw [show P ++ (C1 ++ (A2 ++ B2)) ++ S = P ++ C1 ++ (A2 ++ B2 ++ S) by simp];exact H2.out,(CT.out.join TT.out HC1.out.1 HC1.out.2 (List.Perm.refl _) FL.out).1,(CT.out.join TT.out HC1.out.1 HC1.out.2 (List.Perm.refl _) FL.out).2⟩,G2.out⟩⟩
              clear H2 G2 FL
              go_wp2_with (fail)
              refine bodyPost_ret (results_none rfl _ _ _) rfl ?_
              exact FIN.out
          · have Tai : decide (a < i) = true := decide_eq_true (by omega)
            have Taii : decide ((a : Int) < (i : Int)) = true := decide_eq_true (by omega)
            have Tail : (a : Int) < (i : Int) := by omega
            have Tain : a < i := by omega
            have Timid : decide (i < mid) = false := decide_eq_false (by omega)
            have Timidi : decide ((i : Int) < (mid : Int)) = false := decide_eq_false (by omega)
            have Timidl : (mid : Int) ≤ (i : Int) := by omega
            have Timidn : mid ≤ i := by omega
            obtain ⟨C1,hC1⟩ : ∃ C1,C1 = A1 ++ B1 := ⟨_,rfl⟩
            have HC1 : Aside0 (C1.Perm (A1 ++ B1) ∧ Sorted cf C1) := ⟨by rw [hC1];exact ⟨List.Perm.refl _,CT.out.flat1 TT.out (by have := LA.out;have := LB.out;have := HA1.out;have := HB1.out;have := HM.out;have := HB.out;have := HNN.out;have := HMD.out;omega)⟩⟩
            have H2 : Aside0 (RowAt wr blk (P ++ C1 ++ (A2 ++ B2 ++ S))) := ⟨by have := H1.out;rw [hC1];rw [← List.append_assoc P A1 B1];exact this⟩
            have HPC := Aside0.mk (show (P ++ C1).length = mid by have := HP.out;rw [hC1];simp at *;have := LA.out;have := LB.out;have := HA1.out;have := HB1.out;have := HM.out;have := HB.out;have := HNN.out;have := HMD.out;omega)
            have G2 := G1
            clear hC1 H1 G1
            rcases Nat.lt_or_ge mid e with q2 | q2
            · rcases Nat.lt_or_ge e b with s2 | s2
              · have Tmide : decide (mid < e) = true := decide_eq_true (by omega)
                have Tmidei : decide ((mid : Int) < (e : Int)) = true := decide_eq_true (by omega)
                have Tmidel : (mid : Int) < (e : Int) := by omega
                have Tmiden : mid < e := by omega
                have Teb : decide (e < b) = true := decide_eq_true (by omega)
                have Tebi : decide ((e : Int) < (b : Int)) = true := decide_eq_true (by omega)
                have Tebl : (e : Int) < (b : Int) := by omega
                have Tebn : e < b := by omega
                go_wp2_with (fail)
                refine (IH.out (P ++ C1) A2 B2 S _ mid e b _ (by have := LA.out;have := LB.out;have := HA1.out;have := HB1.out;have := HM.out;have := HB.out;have := HNN.out;have := HMD.out;omega) H2.out (by have := HL.out;have := EL.out;rw [this] at HL;have := HL.out;have := LA.out;have := LB.out;have := HC1.out.1.length_eq;simp at *;omega) (CT.out.two2 TT.out) (by simp) HPC.out (by have := LA.out;have := LB.out;have := HA1.out;have := HB1.out;have := HM.out;have := HB.out;have := HNN.out;have := HMD.out;omega) (by have := LA.out;have := LB.out;have := HA1.out;have := HB1.out;have := HM.out;have := HB.out;have := HNN.out;have := HMD.out;omega) (by have := LA.out;have := LB.out;have := HA1.out;have := HB1.out;have := HM.out;have := HB.out;have := HNN.out;have := HMD.out;omega) (by have := LA.out;have := LB.out;have := HA1.out;have := HB1.out;have := HM.out;have := HB.out;have := HNN.out;have := HMD.out;omega)).mono ?_
                rintro e2 w3 ⟨rfl,⟨C2,h1,h2,h3⟩,hg⟩
                have FIN : Aside0 (Merged cf P A B S blk w (.returned (.tuple #[])) w3) := ⟨⟨rfl,⟨C1 ++ C2,by rw [show P ++ (C1 ++ C2) ++ S = P ++ C1 ++ C2 ++ S by simp];exact h1,(CT.out.join TT.out HC1.out.1 HC1.out.2 h2 h3).1,(CT.out.join TT.out HC1.out.1 HC1.out.2 h2 h3).2⟩,only_trans G2.out hg⟩⟩
                clear h1 h2 h3 hg H2 G2
                go_wp2_with (fail)
                refine bodyPost_ret (results_none rfl _ _ _) rfl ?_
                exact FIN.out
              · have Tmide : decide (mid < e) = true := decide_eq_true (by omega)
                have Tmidei : decide ((mid : Int) < (e : Int)) = true := decide_eq_true (by omega)
                have Tmidel : (mid : Int) < (e : Int) := by omega
                have Tmiden : mid < e := by omega
                have Teb : decide (e < b) = false := decide_eq_false (by omega)
                have Tebi : decide ((e : Int) < (b : Int)) = false := decide_eq_false (by omega)
                have Tebl : (b : Int) ≤ (e : Int) := by omega
                have Tebn : b ≤ e := by omega
                have FL := Aside0.mk (CT.out.flat2 TT.out (by have := LA.out;have := LB.out;have := HA1.out;have := HB1.out;have := HM.out;have := HB.out;have := HNN.out;have := HMD.out;omega))
                have FIN : Aside0 (Merged cf P A B S blk w (.returned (.tuple #[])) wr) := ⟨⟨rfl,⟨C1 ++ (A2 ++ B2),by rw [show P ++ (C1 ++ (A2 ++ B2)) ++ S = P ++ C1 ++ (A2 ++ B2 ++ S) by simp];exact H2.out,(CT.out.join TT.out HC1.out.1 HC1.out.2 (List.Perm.refl _) FL.out).1,(CT.out.join TT.out HC1.out.1 HC1.out.2 (List.Perm.refl _) FL.out).2⟩,G2.out⟩⟩
                clear H2 G2 FL
                go_wp2_with (fail)
                refine bodyPost_ret (results_none rfl _ _ _) rfl ?_
                exact FIN.out
            · have Tmide : decide (mid < e) = false := decide_eq_false (by omega)
              have Tmidei : decide ((mid : Int) < (e : Int)) = false := decide_eq_false (by omega)
              have Tmidel : (e : Int) ≤ (mid : Int) := by omega
              have Tmiden : e ≤ mid := by omega
              have FL := Aside0.mk (CT.out.flat2 TT.out (by have := LA.out;have := LB.out;have := HA1.out;have := HB1.out;have := HM.out;have := HB.out;have := HNN.out;have := HMD.out;omega))
              have FIN : Aside0 (Merged cf P A B S blk w (.returned (.tuple #[])) wr) := ⟨⟨rfl,⟨C1 ++ (A2 ++ B2),by rw [show P ++ (C1 ++ (A2 ++ B2)) ++ S = P ++ C1 ++ (A2 ++ B2 ++ S) by simp];exact H2.out,(CT.out.join TT.out HC1.out.1 HC1.out.2 (List.Perm.refl _) FL.out).1,(CT.out.join TT.out HC1.out.1 HC1.out.2 (List.Perm.refl _) FL.out).2⟩,G2.out⟩⟩
              clear H2 G2 FL
              go_wp2_with (fail)
              refine bodyPost_ret (results_none rfl _ _ _) rfl ?_
              exact FIN.out
        · have Tai : decide (a < i) = false := decide_eq_false (by omega)
          have Taii : decide ((a : Int) < (i : Int)) = false := decide_eq_false (by omega)
          have Tail : (i : Int) ≤ (a : Int) := by omega
          have Tain : i ≤ a := by omega
          obtain ⟨C1,hC1⟩ : ∃ C1,C1 = A1 ++ B1 := ⟨_,rfl⟩
          have HC1 : Aside0 (C1.Perm (A1 ++ B1) ∧ Sorted cf C1) := ⟨by rw [hC1];exact ⟨List.Perm.refl _,CT.out.flat1 TT.out (by have := LA.out;have := LB.out;have := HA1.out;have := HB1.out;have := HM.out;have := HB.out;have := HNN.out;have := HMD.out;omega)⟩⟩
          have H2 : Aside0 (RowAt wr blk (P ++ C1 ++ (A2 ++ B2 ++ S))) := ⟨by have := H1.out;rw [hC1];rw [← List.append_assoc P A1 B1];exact this⟩
          have HPC := Aside0.mk (show (P ++ C1).length = mid by have := HP.out;rw [hC1];simp at *;have := LA.out;have := LB.out;have := HA1.out;have := HB1.out;have := HM.out;have := HB.out;have := HNN.out;have := HMD.out;omega)
          have G2 := G1
          clear hC1 H1 G1
          rcases Nat.lt_or_ge mid e with q2 | q2
          · rcases Nat.lt_or_ge e b with s2 | s2
            · have Tmide : decide (mid < e) = true := decide_eq_true (by omega)
              have Tmidei : decide ((mid : Int) < (e : Int)) = true := decide_eq_true (by omega)
              have Tmidel : (mid : Int) < (e : Int) := by omega
              have Tmiden : mid < e := by omega
              have Teb : decide (e < b) = true := decide_eq_true (by omega)
              have Tebi : decide ((e : Int) < (b : Int)) = true := decide_eq_true (by omega)
              have Tebl : (e : Int) < (b : Int) := by omega
              have Tebn : e < b := by omega
              go_wp2_with (fail)
              refine (IH.out (P ++ C1) A2 B2 S _ mid e b _ (by have := LA.out;have := LB.out;have := HA1.out;have := HB1.out;have := HM.out;have := HB.out;have := HNN.out;have := HMD.out;omega) H2.out (by have := HL.out;have := EL.out;rw [this] at HL;have := HL.out;have := LA.out;have := LB.out;have := HC1.out.1.length_eq;simp at *;omega) (CT.out.two2 TT.out) (by simp) HPC.out (by have := LA.out;have := LB.out;have := HA1.out;have := HB1.out;have := HM.out;have := HB.out;have := HNN.out;have := HMD.out;omega) (by have := LA.out;have := LB.out;have := HA1.out;have := HB1.out;have := HM.out;have := HB.out;have := HNN.out;have := HMD.out;omega) (by have := LA.out;have := LB.out;have := HA1.out;have := HB1.out;have := HM.out;have := HB.out;have := HNN.out;have := HMD.out;omega) (by have := LA.out;have := LB.out;have := HA1.out;have := HB1.out;have := HM.out;have := HB.out;have := HNN.out;have := HMD.out;omega)).mono ?_
              rintro e2 w3 ⟨rfl,⟨C2,h1,h2,h3⟩,hg⟩
              have FIN : Aside0 (Merged cf P A B S blk w (.returned (.tuple #[])) w3) := ⟨⟨rfl,⟨C1 ++ C2,by rw [show P ++ (C1 ++ C2) ++ S = P ++ C1 ++ C2 ++ S by simp];exact h1,(CT.out.join TT.out HC1.out.1 HC1.out.2 h2 h3).1,(CT.out.join TT.out HC1.out.1 HC1.out.2 h2 h3).2⟩,only_trans G2.out hg⟩⟩
              clear h1 h2 h3 hg H2 G2
              go_wp2_with (fail)
              refine bodyPost_ret (results_none rfl _ _ _) rfl ?_
              exact FIN.out
            · have Tmide : decide (mid < e) = true := decide_eq_true (by omega)
              have Tmidei : decide ((mid : Int) < (e : Int)) = true := decide_eq_true (by omega)
              have Tmidel : (mid : Int) < (e : Int) := by omega
              have Tmiden : mid < e := by omega
              have Teb : decide (e < b) = false := decide_eq_false (by omega)
              have Tebi : decide ((e : Int) < (b : Int)) = false := decide_eq_false (by omega)
              have Tebl : (b : Int) ≤ (e : Int) := by omega
              have Tebn : b ≤ e := by omega
              have FL := Aside0.mk (CT.out.flat2 TT.out (by have := LA.out;have := LB.out;have := HA1.out;have := HB1.out;have := HM.out;have := HB.out;have := HNN.out;have := HMD.out;omega))
              have FIN : Aside0 (Merged cf P A B S blk w (.returned (.tuple #[])) wr) := ⟨⟨rfl,⟨C1 ++ (A2 ++ B2),by rw [show P ++ (C1 ++ (A2 ++ B2)) ++ S = P ++ C1 ++ (A2 ++ B2 ++ S) by simp];exact H2.out,(CT.out.join TT.out HC1.out.1 HC1.out.2 (List.Perm.refl _) FL.out).1,(CT.out.join TT.out HC1.out.1 HC1.out.2 (List.Perm.refl _) FL.out).2⟩,G2.out⟩⟩
              clear H2 G2 FL
              go_wp2_with (fail)
              refine bodyPost_ret (results_none rfl _ _ _) rfl ?_
              exact FIN.out
          · have Tmide : decide (mid < e) = false := decide_eq_false (by omega)
            have Tmidei : decide ((mid : Int) < (e : Int)) = false := decide_eq_false (by omega)
            have Tmidel : (e : Int) ≤ (mid : Int) := by omega
            have Tmiden : e ≤ mid := by omega
            have FL := Aside0.mk (CT.out.flat2 TT.out (by have := LA.out;have := LB.out;have := HA1.out;have := HB1.out;have := HM.out;have := HB.out;have := HNN.out;have := HMD.out;omega))
            have FIN : Aside0 (Merged cf P A B S blk w (.returned (.tuple #[])) wr) := ⟨⟨rfl,⟨C1 ++ (A2 ++ B2),by rw [show P ++ (C1 ++ (A2 ++ B2)) ++ S = P ++ C1 ++ (A2 ++ B2 ++ S) by simp];exact H2.out,(CT.out.join TT.out HC1.out.1 HC1.out.2 (List.Perm.refl _) FL.out).1,(CT.out.join TT.out HC1.out.1 HC1.out.2 (List.Perm.refl _) FL.out).2⟩,G2.out⟩⟩
            clear H2 G2 FL
            go_wp2_with (fail)
            refine bodyPost_ret (results_none rfl _ _ _) rfl ?_
            exact FIN.out
set_option maxHeartbeats 8000000 in
set_option maxRecDepth 100000 in
theorem merge31 (cf : S45 → S45 → Int) (hC : CmpOk 74 cf) (blk cap a m b n : Nat) (P A B S L : List El) (w : World) (ih : MergesTo cf blk cap n (A.length + B.length)) (h : RowAt w blk L) (hlen : L.length = n) (hn : n ≤ 1000000) (t : Two cf P A B S) (eL : L = P ++ A ++ B ++ S) (hP : P.length = a) (hm : a + A.length = m) (hA : 2 ≤ A.length) (hB : 2 ≤ B.length) (hb : m + B.length = b) (hbn : b ≤ n) (hcase : 2 * m ≤ a + b) :
    Calls Try.prog 115 #[.slice (some ⟨blk,0,none⟩) n cap,.int .i64 a,.int .i64 m,.int .i64 b,.func (.func 74) #[] #[]] w (Merged cf P A B S blk w) := by
  have H := Aside0.mk h
  have HG := Aside0.mk (only_refl w blk)
  have HL := Aside0.mk hlen
  have TT := Aside0.mk t
  have EL := Aside0.mk eL
  have HP := Aside0.mk hP
  have HM := Aside0.mk hm
  have HB := Aside0.mk hb
  have IH := Aside0.mk ih
  have HAB := Aside0.mk (And.intro hA hB)
  have ham : a + 2 ≤ m := by omega
  have hmb : m + 2 ≤ b := by omega
  obtain ⟨mid,hmid⟩ : ∃ mid : Nat,((a : Int) + (b : Int)) / 2 = (mid : Int) := ⟨(a + b) / 2,by omega⟩
  have ma : a < mid := by omega
  have mb : mid < b := by omega
  have mn : a + b ≤ 2 * mid + 1 ∧ 2 * mid ≤ a + b := by omega
  have hcm : m ≤ mid := by omega
  obtain ⟨nn,hnn⟩ : ∃ nn : Nat,(mid : Int) + (m : Int) = (nn : Int) := ⟨mid + m,by omega⟩
  obtain ⟨p,hp⟩ : ∃ p : Nat,(nn : Int) - 1 = (p : Int) := ⟨nn - 1,by omega⟩
  obtain ⟨lo,hlo⟩ : ∃ lo : Nat,(a : Int) = (lo : Int) := ⟨a,by omega⟩
  obtain ⟨hi,hhi⟩ : ∃ hi : Nat,hi = m := ⟨_,rfl⟩
  have HNN := Aside0.mk (show mid + m = nn by omega)
  have HPP := Aside0.mk (show nn - 1 = p by omega)
  have LOF := Aside0.mk (show a ≤ lo ∧ hi ≤ m ∧ nn ≤ b + lo ∧ m + hi ≤ nn ∧ (lo = a ∨ nn = b + lo) ∧ (hi = m ∨ m + hi = nn) by omega)
  have lohi : lo ≤ hi := by omega
  have hin : hi ≤ m := by omega
  have loa : a ≤ lo := by omega
  have pn : p < 2 * n := by omega
  have plo : nn ≤ b + lo := by omega
  have phi : m + hi ≤ nn := by omega
  have hnp : nn ≤ p + 1 := by omega
  have hnp2 : p + 1 ≤ nn := by omega
  have HS := Aside0.mk (show Srch (NotAhd3 cf L (nn - 1)) lo hi lo hi from Srch.start lohi)
  have MN := Aside0.mk (t.mono3' eL hP hm hb loa hin plo phi)
  have bm : ((m : Int) - (a : Int) == 1) = false := by rw [beq_eq_false_iff_ne];omega
  have bb : ((b : Int) - (m : Int) == 1) = false := by rw [beq_eq_false_iff_ne];omega
  have bc : decide (((a : Int) + (b : Int)) / 2 < (m : Int)) = false := by rw [hmid];exact decide_eq_false (by omega)
  have HQ := Aside0.mk (And.intro hmid (And.intro hnn (And.intro hp (And.intro hlo hhi))))
  clear h t eL hP hlen hm hA hB hb ih hcase hmid hnn hp hlo hhi
  have bc2 : (m : Int) ≤ ((a : Int) + (b : Int)) / 2 := by have := HQ.out.1;omega
  go_enter Try.func115,Try.ntmps115
  go_wp2
  have hq1 := HQ.out.1
  have hq2 := HQ.out.2.1
  have hq3 := HQ.out.2.2.1
  have hq4 := HQ.out.2.2.2.1
  have hq5 := HQ.out.2.2.2.2
  rw [hq1,hq2,hq3]
  skip
  clear hq1 hq2 hq3 hq4 hq5 bc bc2
  go_loopw [20,21] (fun iv jv wr => ∃ i j : Nat,iv = .int .i64 (i : Int) ∧ jv = .int .i64 (j : Int) ∧ i ≤ j ∧ j ≤ hi ∧ lo ≤ i ∧ Aside0 (Srch (NotAhd3 cf L (nn - 1)) lo hi i j) ∧ Aside0 (RowAt wr blk L) ∧ Aside0 (w.grownBy wr (some blk))) (fun iv jv _ => (intOf jv).toNat - (intOf iv).toNat)
  case atStart => exact ⟨lo,hi,by have := HQ.out.2.2.2.1;rw [this],by have := HQ.out.2.2.2.2;rw [this],lohi,Nat.le_refl _,Nat.le_refl _,HS,H,HG⟩
  case round =>
    clear HS H HG
    obtain ⟨i,j,rfl,rfl,hij,hjb,hai,HS,H,HG⟩ := hrel
    by_cases hlt : i < j
    · go_wp2_with (fail)
      obtain ⟨c,hc⟩ : ∃ c : Nat,((i : Int) + (j : Int)) / 2 = (c : Int) := ⟨(i + j) / 2,by omega⟩
      have hc1 : i ≤ c := by omega
      have hc2 : c < j := by omega
      rw [hc]
      clear hc
      obtain ⟨d,hd⟩ : ∃ d : Nat,d + c = p := ⟨p - c,by omega⟩
      have hdn : d < n := by omega
      have DE := Aside0.mk (show nn - 1 - c = d by have := HPP.out;omega)
      have p0 : (0 : Int) ≤ (c : Int) := by omega
      have p1 : (c : Int) < (n : Int) := by omega
      have p2 : (0 : Int) ≤ (d : Int) := by omega
      have p3 : (d : Int) < (n : Int) := by omega
      have pd : (p : Int) - (c : Int) = (d : Int) := by omega
      have pw : IntKind.i64.wrap (d : Int) = (d : Int) := by rw [IntKind.wrap_i64];omega
      have pw2 : IntKind.i64.wrap ((p : Int) - (c : Int)) = (d : Int) := by rw [pd,pw]
      obtain ⟨x0,x1,x2,x3,z,hbl⟩ := H.out.cell (i := d) (by have := HL.out;omega)
      obtain ⟨y0,y1,y2,y3,_,_⟩ := H.out.cell (i := c) (by have := HL.out;omega)
      have BL := Aside0.mk hbl
      clear hbl z
      generalize hx : atL L d = ex at x0 x1 x2 x3
      generalize hy : atL L c = ey at y0 y1 y2 y3
      have HXE := Aside0.mk hx
      have HYE := Aside0.mk hy
      clear hx hy
      by_cases hv : cf ex.1 ey.1 < 0
      · have c0 : decide (cf ex.1 ey.1 < 0) = true := decide_eq_true hv
        have SU := Aside0.mk (HS.out.down MN.out hc1 hc2 (show ¬ NotAhd3 cf L (nn - 1) c by unfold NotAhd3;rw [DE.out,HXE.out,HYE.out];exact fun q => q hv))
        clear hv HXE HYE
        go_region_held3 (fun w' => w'.cell? ⟨blk,d * 4,none⟩ = some (.string ex.1.f0) ∧ w'.cell? ⟨blk,d * 4 + 1,none⟩ = some (.string ex.1.f1) ∧ w'.cell? ⟨blk,d * 4 + 2,none⟩ = some (.int .i64 ex.1.f2) ∧ w'.cell? ⟨blk,d * 4 + 3,none⟩ = some (.int .i64 ex.1.f3) ∧ w'.cell? ⟨blk,c * 4,none⟩ = some (.string ey.1.f0) ∧ w'.cell? ⟨blk,c * 4 + 1,none⟩ = some (.string ey.1.f1) ∧ w'.cell? ⟨blk,c * 4 + 2,none⟩ = some (.int .i64 ey.1.f2) ∧ w'.cell? ⟨blk,c * 4 + 3,none⟩ = some (.int .i64 ey.1.f3)) (first | go_keep | exact ⟨by assumption,by assumption,by assumption,by assumption,by assumption,by assumption,by assumption,by assumption⟩) (first | (go_at_call 74;refine (hC.calls ex.1 ey.1 _).mono ?_;rintro e w2 ⟨rfl,hb2⟩;have N2 := Aside0.mk (sameW_next (w1 := wr) hb2);clear hb2;have u0 := (N2.out.cell (p := ⟨blk,d * 4,none⟩) BL.out).trans x0;have u1 := (N2.out.cell (p := ⟨blk,d * 4 + 1,none⟩) BL.out).trans x1;have u2 := (N2.out.cell (p := ⟨blk,d * 4 + 2,none⟩) BL.out).trans x2;have u3 := (N2.out.cell (p := ⟨blk,d * 4 + 3,none⟩) BL.out).trans x3;have v0 := (N2.out.cell (p := ⟨blk,c * 4,none⟩) BL.out).trans y0;have v1 := (N2.out.cell (p := ⟨blk,c * 4 + 1,none⟩) BL.out).trans y1;have v2 := (N2.out.cell (p := ⟨blk,c * 4 + 2,none⟩) BL.out).trans y2;have v3 := (N2.out.cell (p := ⟨blk,c * 4 + 3,none⟩) BL.out).trans y3))
        have R2 := Aside0.mk (H.out.below N2.out)
        have G1 := Aside0.mk (only_belowT HG.out N2.out)
        clear x0 x1 x2 x3 y0 y1 y2 y3 u0 u1 u2 u3 v0 v1 v2 v3 H HG HS BL N2
        go_wp2
        go_roundw
        case rel => exact ⟨i,c,rfl,rfl,by omega,by omega,hai,SU,R2,G1⟩
        case measure => simp [intOf];omega
      · have c0 : decide (cf ex.1 ey.1 < 0) = false := decide_eq_false hv
        have SU := Aside0.mk (HS.out.up MN.out hc1 hc2 (show NotAhd3 cf L (nn - 1) c by unfold NotAhd3;rw [DE.out,HXE.out,HYE.out];exact hv))
        clear hv HXE HYE
        go_region_held3 (fun w' => w'.cell? ⟨blk,d * 4,none⟩ = some (.string ex.1.f0) ∧ w'.cell? ⟨blk,d * 4 + 1,none⟩ = some (.string ex.1.f1) ∧ w'.cell? ⟨blk,d * 4 + 2,none⟩ = some (.int .i64 ex.1.f2) ∧ w'.cell? ⟨blk,d * 4 + 3,none⟩ = some (.int .i64 ex.1.f3) ∧ w'.cell? ⟨blk,c * 4,none⟩ = some (.string ey.1.f0) ∧ w'.cell? ⟨blk,c * 4 + 1,none⟩ = some (.string ey.1.f1) ∧ w'.cell? ⟨blk,c * 4 + 2,none⟩ = some (.int .i64 ey.1.f2) ∧ w'.cell? ⟨blk,c * 4 + 3,none⟩ = some (.int .i64 ey.1.f3)) (first | go_keep | exact ⟨by assumption,by assumption,by assumption,by assumption,by assumption,by assumption,by assumption,by assumption⟩) (first | (go_at_call 74;refine (hC.calls ex.1 ey.1 _).mono ?_;rintro e w2 ⟨rfl,hb2⟩;have N2 := Aside0.mk (sameW_next (w1 := wr) hb2);clear hb2;have u0 := (N2.out.cell (p := ⟨blk,d * 4,none⟩) BL.out).trans x0;have u1 := (N2.out.cell (p := ⟨blk,d * 4 + 1,none⟩) BL.out).trans x1;have u2 := (N2.out.cell (p := ⟨blk,d * 4 + 2,none⟩) BL.out).trans x2;have u3 := (N2.out.cell (p := ⟨blk,d * 4 + 3,none⟩) BL.out).trans x3;have v0 := (N2.out.cell (p := ⟨blk,c * 4,none⟩) BL.out).trans y0;have v1 := (N2.out.cell (p := ⟨blk,c * 4 + 1,none⟩) BL.out).trans y1;have v2 := (N2.out.cell (p := ⟨blk,c * 4 + 2,none⟩) BL.out).trans y2;have v3 := (N2.out.cell (p := ⟨blk,c * 4 + 3,none⟩) BL.out).trans y3))
        have R2 := Aside0.mk (H.out.below N2.out)
        have G1 := Aside0.mk (only_belowT HG.out N2.out)
        clear x0 x1 x2 x3 y0 y1 y2 y3 u0 u1 u2 u3 v0 v1 v2 v3 H HG HS BL N2
        go_wp2
        go_roundw
        case rel => exact ⟨c + 1,j,by go_num,rfl,by omega,hjb,by omega,SU,R2,G1⟩
        case measure => simp [intOf];omega
    · have hije : i = j := by omega
      subst hije
      obtain ⟨e,he⟩ : ∃ e : Nat,e + i = nn := ⟨nn - i,by omega⟩
      have HCUT : Aside0 (∃ A1 A2 B1 B2,Cut cf A B A1 A2 B1 B2 ∧ a + A1.length = i ∧ m + B1.length = e) := ⟨by
        obtain ⟨h1,h2,h3,h4,hl,hh⟩ := LOF.out
        exact TT.out.cut3 EL.out HP.out HM.out HB.out HS.out h1 h2 h3 h4 hl hh he⟩
      obtain ⟨A1,A2,B1,B2,hcut,hA1,hB1⟩ := HCUT.out
      have CT := Aside0.mk hcut
      have HA1 := Aside0.mk hA1
      have HB1 := Aside0.mk hB1
      have LA := Aside0.mk (show A.length = A1.length + A2.length by rw [hcut.eA];simp)
      have LB := Aside0.mk (show B.length = B1.length + B2.length by rw [hcut.eB];simp)
      have HMD := Aside0.mk (show i + B1.length = mid by have := HNN.out;omega)
      have ie : i ≤ m := by omega
      have me : m ≤ e := by omega
      have eb : e ≤ b := by have := LB.out;have := HB.out;omega
      have im : i ≤ mid := by have := HMD.out;omega
      have mde : mid ≤ e := by have := HNN.out;omega
      have ne : (nn : Int) - (i : Int) = (e : Int) := by omega
      clear hcut hA1 hB1 HCUT HS MN
      have rest : ∀ (wr : World),Aside0 (RowAt wr blk (P ++ A1 ++ B1 ++ (A2 ++ B2 ++ S))) → True := fun _ _ => trivial
      clear rest
      rcases Nat.lt_or_ge i m with q0 | q0
      · rcases Nat.lt_or_ge m e with s0 | s0
        · have Tim : decide (i < m) = true := decide_eq_true (by omega)
          have Timi : decide ((i : Int) < (m : Int)) = true := decide_eq_true (by omega)
          have Timl : (i : Int) < (m : Int) := by omega
          have Timn : i < m := by omega
          have Tme : decide (m < e) = true := decide_eq_true (by omega)
          have Tmei : decide ((m : Int) < (e : Int)) = true := decide_eq_true (by omega)
          have Tmel : (m : Int) < (e : Int) := by omega
          have Tmen : m < e := by omega
          go_wp2_with (fail)
          refine (rotate blk cap i m e n _ L (P ++ A1 ++ B1 ++ (A2 ++ B2 ++ S)) _ H.out (by have := HL.out;omega) (CT.out.turn EL.out HP.out HM.out HA1.out HB1.out q0 s0) (by omega) (by omega) HL.out).mono ?_
          rintro e1 w1 ⟨rfl,h1,hg⟩
          have H1 := Aside0.mk h1
          have G1 := Aside0.mk (only_trans HG.out hg)
          clear h1 hg H HG
          rcases Nat.lt_or_ge a i with q1 | q1
          · rcases Nat.lt_or_ge i mid with s1 | s1
            · have Tai : decide (a < i) = true := decide_eq_true (by omega)
              have Taii : decide ((a : Int) < (i : Int)) = true := decide_eq_true (by omega)
              have Tail : (a : Int) < (i : Int) := by omega
              have Tain : a < i := by omega
              have Timid : decide (i < mid) = true := decide_eq_true (by omega)
              have Timidi : decide ((i : Int) < (mid : Int)) = true := decide_eq_true (by omega)
              have Timidl : (i : Int) < (mid : Int) := by omega
              have Timidn : i < mid := by omega
              go_wp2_with (fail)
              refine (IH.out P A1 B1 (A2 ++ B2 ++ S) _ a i mid _ (by have := LA.out;have := LB.out;have := HA1.out;have := HB1.out;have := HM.out;have := HB.out;have := HNN.out;have := HMD.out;omega) H1.out (by have := HL.out;have := EL.out;rw [this] at HL;have := HL.out;have := LA.out;have := LB.out;simp at *;omega) (CT.out.two1 TT.out) rfl HP.out HA1.out HMD.out (by have := LA.out;have := LB.out;have := HA1.out;have := HB1.out;have := HM.out;have := HB.out;have := HNN.out;have := HMD.out;omega) (by have := LA.out;have := LB.out;have := HA1.out;have := HB1.out;have := HM.out;have := HB.out;have := HNN.out;have := HMD.out;omega)).mono ?_
              rintro e2 w2 ⟨rfl,⟨C1,h1,h2,h3⟩,hg⟩
              have HC1 := Aside0.mk (And.intro h2 h3)
              have H2 := Aside0.mk h1
              have G2 := Aside0.mk (only_trans G1.out hg)
              have HPC := Aside0.mk (show (P ++ C1).length = mid by have := h2.length_eq;have := HP.out;simp at *;have := LA.out;have := LB.out;have := HA1.out;have := HB1.out;have := HM.out;have := HB.out;have := HNN.out;have := HMD.out;omega)
              clear h1 h2 h3 hg H1 G1
              rcases Nat.lt_or_ge mid e with q2 | q2
              · rcases Nat.lt_or_ge e b with s2 | s2
                · have Tmide : decide (mid < e) = true := decide_eq_true (by omega)
                  have Tmidei : decide ((mid : Int) < (e : Int)) = true := decide_eq_true (by omega)
                  have Tmidel : (mid : Int) < (e : Int) := by omega
                  have Tmiden : mid < e := by omega
                  have Teb : decide (e < b) = true := decide_eq_true (by omega)
                  have Tebi : decide ((e : Int) < (b : Int)) = true := decide_eq_true (by omega)
                  have Tebl : (e : Int) < (b : Int) := by omega
                  have Tebn : e < b := by omega
                  go_wp2_with (fail)
                  refine (IH.out (P ++ C1) A2 B2 S _ mid e b _ (by have := LA.out;have := LB.out;have := HA1.out;have := HB1.out;have := HM.out;have := HB.out;have := HNN.out;have := HMD.out;omega) H2.out (by have := HL.out;have := EL.out;rw [this] at HL;have := HL.out;have := LA.out;have := LB.out;have := HC1.out.1.length_eq;simp at *;omega) (CT.out.two2 TT.out) (by simp) HPC.out (by have := LA.out;have := LB.out;have := HA1.out;have := HB1.out;have := HM.out;have := HB.out;have := HNN.out;have := HMD.out;omega) (by have := LA.out;have := LB.out;have := HA1.out;have := HB1.out;have := HM.out;have := HB.out;have := HNN.out;have := HMD.out;omega) (by have := LA.out;have := LB.out;have := HA1.out;have := HB1.out;have := HM.out;have := HB.out;have := HNN.out;have := HMD.out;omega) (by have := LA.out;have := LB.out;have := HA1.out;have := HB1.out;have := HM.out;have := HB.out;have := HNN.out;have := HMD.out;omega)).mono ?_
                  rintro e2 w3 ⟨rfl,⟨C2,h1,h2,h3⟩,hg⟩
                  have FIN : Aside0 (Merged cf P A B S blk w (.returned (.tuple #[])) w3) := ⟨⟨rfl,⟨C1 ++ C2,by rw [show P ++ (C1 ++ C2) ++ S = P ++ C1 ++ C2 ++ S by simp];exact h1,(CT.out.join TT.out HC1.out.1 HC1.out.2 h2 h3).1,(CT.out.join TT.out HC1.out.1 HC1.out.2 h2 h3).2⟩,only_trans G2.out hg⟩⟩
                  clear h1 h2 h3 hg H2 G2
                  go_wp2_with (fail)
                  refine bodyPost_ret (results_none rfl _ _ _) rfl ?_
                  exact FIN.out
                · have Tmide : decide (mid < e) = true := decide_eq_true (by omega)
                  have Tmidei : decide ((mid : Int) < (e : Int)) = true := decide_eq_true (by omega)
                  have Tmidel : (mid : Int) < (e : Int) := by omega
                  have Tmiden : mid < e := by omega
                  have Teb : decide (e < b) = false := decide_eq_false (by omega)
                  have Tebi : decide ((e : Int) < (b : Int)) = false := decide_eq_false (by omega)
                  have Tebl : (b : Int) ≤ (e : Int) := by omega
                  have Tebn : b ≤ e := by omega
                  have FL := Aside0.mk (CT.out.flat2 TT.out (by have := LA.out;have := LB.out;have := HA1.out;have := HB1.out;have := HM.out;have := HB.out;have := HNN.out;have := HMD.out;omega))
                  have FIN : Aside0 (Merged cf P A B S blk w (.returned (.tuple #[])) w2) := ⟨⟨rfl,⟨C1 ++ (A2 ++ B2),by rw [show P ++ (C1 ++ (A2 ++ B2)) ++ S = P ++ C1 ++ (A2 ++ B2 ++ S) by simp];exact H2.out,(CT.out.join TT.out HC1.out.1 HC1.out.2 (List.Perm.refl _) FL.out).1,(CT.out.join TT.out HC1.out.1 HC1.out.2 (List.Perm.refl _) FL.out).2⟩,G2.out⟩⟩
                  clear H2 G2 FL
                  go_wp2_with (fail)
                  refine bodyPost_ret (results_none rfl _ _ _) rfl ?_
                  exact FIN.out
              · have Tmide : decide (mid < e) = false := decide_eq_false (by omega)
                have Tmidei : decide ((mid : Int) < (e : Int)) = false := decide_eq_false (by omega)
                have Tmidel : (e : Int) ≤ (mid : Int) := by omega
                have Tmiden : e ≤ mid := by omega
                have FL := Aside0.mk (CT.out.flat2 TT.out (by have := LA.out;have := LB.out;have := HA1.out;have := HB1.out;have := HM.out;have := HB.out;have := HNN.out;have := HMD.out;omega))
                have FIN : Aside0 (Merged cf P A B S blk w (.returned (.tuple #[])) w2) := ⟨⟨rfl,⟨C1 ++ (A2 ++ B2),by rw [show P ++ (C1 ++ (A2 ++ B2)) ++ S = P ++ C1 ++ (A2 ++ B2 ++ S) by simp];exact H2.out,(CT.out.join TT.out HC1.out.1 HC1.out.2 (List.Perm.refl _) FL.out).1,(CT.out.join TT.out HC1.out.1 HC1.out.2 (List.Perm.refl _) FL.out).2⟩,G2.out⟩⟩
                clear H2 G2 FL
                go_wp2_with (fail)
                refine bodyPost_ret (results_none rfl _ _ _) rfl ?_
                exact FIN.out
            · have Tai : decide (a < i) = true := decide_eq_true (by omega)
              have Taii : decide ((a : Int) < (i : Int)) = true := decide_eq_true (by omega)
              have Tail : (a : Int) < (i : Int) := by omega
              have Tain : a < i := by omega
              have Timid : decide (i < mid) = false := decide_eq_false (by omega)
              have Timidi : decide ((i : Int) < (mid : Int)) = false := decide_eq_false (by omega)
              have Timidl : (mid : Int) ≤ (i : Int) := by omega
              have Timidn : mid ≤ i := by omega
              obtain ⟨C1,hC1⟩ : ∃ C1,C1 = A1 ++ B1 := ⟨_,rfl⟩
              have HC1 : Aside0 (C1.Perm (A1 ++ B1) ∧ Sorted cf C1) := ⟨by rw [hC1];exact ⟨List.Perm.refl _,CT.out.flat1 TT.out (by have := LA.out;have := LB.out;have := HA1.out;have := HB1.out;have := HM.out;have := HB.out;have := HNN.out;have := HMD.out;omega)⟩⟩
              have H2 : Aside0 (RowAt w1 blk (P ++ C1 ++ (A2 ++ B2 ++ S))) := ⟨by have := H1.out;rw [hC1];rw [← List.append_assoc P A1 B1];exact this⟩
              have HPC := Aside0.mk (show (P ++ C1).length = mid by have := HP.out;rw [hC1];simp at *;have := LA.out;have := LB.out;have := HA1.out;have := HB1.out;have := HM.out;have := HB.out;have := HNN.out;have := HMD.out;omega)
              have G2 := G1
              clear hC1 H1 G1
              rcases Nat.lt_or_ge mid e with q2 | q2
              · rcases Nat.lt_or_ge e b with s2 | s2
                · have Tmide : decide (mid < e) = true := decide_eq_true (by omega)
                  have Tmidei : decide ((mid : Int) < (e : Int)) = true := decide_eq_true (by omega)
                  have Tmidel : (mid : Int) < (e : Int) := by omega
                  have Tmiden : mid < e := by omega
                  have Teb : decide (e < b) = true := decide_eq_true (by omega)
                  have Tebi : decide ((e : Int) < (b : Int)) = true := decide_eq_true (by omega)
                  have Tebl : (e : Int) < (b : Int) := by omega
                  have Tebn : e < b := by omega
                  go_wp2_with (fail)
                  refine (IH.out (P ++ C1) A2 B2 S _ mid e b _ (by have := LA.out;have := LB.out;have := HA1.out;have := HB1.out;have := HM.out;have := HB.out;have := HNN.out;have := HMD.out;omega) H2.out (by have := HL.out;have := EL.out;rw [this] at HL;have := HL.out;have := LA.out;have := LB.out;have := HC1.out.1.length_eq;simp at *;omega) (CT.out.two2 TT.out) (by simp) HPC.out (by have := LA.out;have := LB.out;have := HA1.out;have := HB1.out;have := HM.out;have := HB.out;have := HNN.out;have := HMD.out;omega) (by have := LA.out;have := LB.out;have := HA1.out;have := HB1.out;have := HM.out;have := HB.out;have := HNN.out;have := HMD.out;omega) (by have := LA.out;have := LB.out;have := HA1.out;have := HB1.out;have := HM.out;have := HB.out;have := HNN.out;have := HMD.out;omega) (by have := LA.out;have := LB.out;have := HA1.out;have := HB1.out;have := HM.out;have := HB.out;have := HNN.out;have := HMD.out;omega)).mono ?_
                  rintro e2 w3 ⟨rfl,⟨C2,h1,h2,h3⟩,hg⟩
                  have FIN : Aside0 (Merged cf P A B S blk w (.returned (.tuple #[])) w3) := ⟨⟨rfl,⟨C1 ++ C2,by rw [show P ++ (C1 ++ C2) ++ S = P ++ C1 ++ C2 ++ S by simp];exact h1,(CT.out.join TT.out HC1.out.1 HC1.out.2 h2 h3).1,(CT.out.join TT.out HC1.out.1 HC1.out.2 h2 h3).2⟩,only_trans G2.out hg⟩⟩
                  clear h1 h2 h3 hg H2 G2
                  go_wp2_with (fail)
                  refine bodyPost_ret (results_none rfl _ _ _) rfl ?_
                  exact FIN.out
                · have Tmide : decide (mid < e) = true := decide_eq_true (by omega)
                  have Tmidei : decide ((mid : Int) < (e : Int)) = true := decide_eq_true (by omega)
                  have Tmidel : (mid : Int) < (e : Int) := by omega
                  have Tmiden : mid < e := by omega
                  have Teb : decide (e < b) = false := decide_eq_false (by omega)
                  have Tebi : decide ((e : Int) < (b : Int)) = false := decide_eq_false (by omega)
                  have Tebl : (b : Int) ≤ (e : Int) := by omega
                  have Tebn : b ≤ e := by omega
                  have FL := Aside0.mk (CT.out.flat2 TT.out (by have := LA.out;have := LB.out;have := HA1.out;have := HB1.out;have := HM.out;have := HB.out;have := HNN.out;have := HMD.out;omega))
                  have FIN : Aside0 (Merged cf P A B S blk w (.returned (.tuple #[])) w1) := ⟨⟨rfl,⟨C1 ++ (A2 ++ B2),by rw [show P ++ (C1 ++ (A2 ++ B2)) ++ S = P ++ C1 ++ (A2 ++ B2 ++ S) by simp];exact H2.out,(CT.out.join TT.out HC1.out.1 HC1.out.2 (List.Perm.refl _) FL.out).1,(CT.out.join TT.out HC1.out.1 HC1.out.2 (List.Perm.refl _) FL.out).2⟩,G2.out⟩⟩
                  clear H2 G2 FL
                  go_wp2_with (fail)
                  refine bodyPost_ret (results_none rfl _ _ _) rfl ?_
                  exact FIN.out
              · have Tmide : decide (mid < e) = false := decide_eq_false (by omega)
                have Tmidei : decide ((mid : Int) < (e : Int)) = false := decide_eq_false (by omega)
                have Tmidel : (e : Int) ≤ (mid : Int) := by omega
                have Tmiden : e ≤ mid := by omega
                have FL := Aside0.mk (CT.out.flat2 TT.out (by have := LA.out;have := LB.out;have := HA1.out;have := HB1.out;have := HM.out;have := HB.out;have := HNN.out;have := HMD.out;omega))
                have FIN : Aside0 (Merged cf P A B S blk w (.returned (.tuple #[])) w1) := ⟨⟨rfl,⟨C1 ++ (A2 ++ B2),by rw [show P ++ (C1 ++ (A2 ++ B2)) ++ S = P ++ C1 ++ (A2 ++ B2 ++ S) by simp];exact H2.out,(CT.out.join TT.out HC1.out.1 HC1.out.2 (List.Perm.refl _) FL.out).1,(CT.out.join TT.out HC1.out.1 HC1.out.2 (List.Perm.refl _) FL.out).2⟩,G2.out⟩⟩
                clear H2 G2 FL
                go_wp2_with (fail)
                refine bodyPost_ret (results_none rfl _ _ _) rfl ?_
                exact FIN.out
          · have Tai : decide (a < i) = false := decide_eq_false (by omega)
            have Taii : decide ((a : Int) < (i : Int)) = false := decide_eq_false (by omega)
            have Tail : (i : Int) ≤ (a : Int) := by omega
            have Tain : i ≤ a := by omega
            obtain ⟨C1,hC1⟩ : ∃ C1,C1 = A1 ++ B1 := ⟨_,rfl⟩
            have HC1 : Aside0 (C1.Perm (A1 ++ B1) ∧ Sorted cf C1) := ⟨by rw [hC1];exact ⟨List.Perm.refl _,CT.out.flat1 TT.out (by have := LA.out;have := LB.out;have := HA1.out;have := HB1.out;have := HM.out;have := HB.out;have := HNN.out;have := HMD.out;omega)⟩⟩
            have H2 : Aside0 (RowAt w1 blk (P ++ C1 ++ (A2 ++ B2 ++ S))) := ⟨by have := H1.out;rw [hC1];rw [← List.append_assoc P A1 B1];exact this⟩
            have HPC := Aside0.mk (show (P ++ C1).length = mid by have := HP.out;rw [hC1];simp at *;have := LA.out;have := LB.out;have := HA1.out;have := HB1.out;have := HM.out;have := HB.out;have := HNN.out;have := HMD.out;omega)
            have G2 := G1
            clear hC1 H1 G1
            rcases Nat.lt_or_ge mid e with q2 | q2
            · rcases Nat.lt_or_ge e b with s2 | s2
              · have Tmide : decide (mid < e) = true := decide_eq_true (by omega)
                have Tmidei : decide ((mid : Int) < (e : Int)) = true := decide_eq_true (by omega)
                have Tmidel : (mid : Int) < (e : Int) := by omega
                have Tmiden : mid < e := by omega
                have Teb : decide (e < b) = true := decide_eq_true (by omega)
                have Tebi : decide ((e : Int) < (b : Int)) = true := decide_eq_true (by omega)
                have Tebl : (e : Int) < (b : Int) := by omega
                have Tebn : e < b := by omega
                go_wp2_with (fail)
                refine (IH.out (P ++ C1) A2 B2 S _ mid e b _ (by have := LA.out;have := LB.out;have := HA1.out;have := HB1.out;have := HM.out;have := HB.out;have := HNN.out;have := HMD.out;omega) H2.out (by have := HL.out;have := EL.out;rw [this] at HL;have := HL.out;have := LA.out;have := LB.out;have := HC1.out.1.length_eq;simp at *;omega) (CT.out.two2 TT.out) (by simp) HPC.out (by have := LA.out;have := LB.out;have := HA1.out;have := HB1.out;have := HM.out;have := HB.out;have := HNN.out;have := HMD.out;omega) (by have := LA.out;have := LB.out;have := HA1.out;have := HB1.out;have := HM.out;have := HB.out;have := HNN.out;have := HMD.out;omega) (by have := LA.out;have := LB.out;have := HA1.out;have := HB1.out;have := HM.out;have := HB.out;have := HNN.out;have := HMD.out;omega) (by have := LA.out;have := LB.out;have := HA1.out;have := HB1.out;have := HM.out;have := HB.out;have := HNN.out;have := HMD.out;omega)).mono ?_
                rintro e2 w3 ⟨rfl,⟨C2,h1,h2,h3⟩,hg⟩
                have FIN : Aside0 (Merged cf P A B S blk w (.returned (.tuple #[])) w3) := ⟨⟨rfl,⟨C1 ++ C2,by rw [show P ++ (C1 ++ C2) ++ S = P ++ C1 ++ C2 ++ S by simp];exact h1,(CT.out.join TT.out HC1.out.1 HC1.out.2 h2 h3).1,(CT.out.join TT.out HC1.out.1 HC1.out.2 h2 h3).2⟩,only_trans G2.out hg⟩⟩
                clear h1 h2 h3 hg H2 G2
                go_wp2_with (fail)
                refine bodyPost_ret (results_none rfl _ _ _) rfl ?_
                exact FIN.out
              · have Tmide : decide (mid < e) = true := decide_eq_true (by omega)
                have Tmidei : decide ((mid : Int) < (e : Int)) = true := decide_eq_true (by omega)
                have Tmidel : (mid : Int) < (e : Int) := by omega
                have Tmiden : mid < e := by omega
                have Teb : decide (e < b) = false := decide_eq_false (by omega)
                have Tebi : decide ((e : Int) < (b : Int)) = false := decide_eq_false (by omega)
                have Tebl : (b : Int) ≤ (e : Int) := by omega
                have Tebn : b ≤ e := by omega
                have FL := Aside0.mk (CT.out.flat2 TT.out (by have := LA.out;have := LB.out;have := HA1.out;have := HB1.out;have := HM.out;have := HB.out;have := HNN.out;have := HMD.out;omega))
                have FIN : Aside0 (Merged cf P A B S blk w (.returned (.tuple #[])) w1) := ⟨⟨rfl,⟨C1 ++ (A2 ++ B2),by rw [show P ++ (C1 ++ (A2 ++ B2)) ++ S = P ++ C1 ++ (A2 ++ B2 ++ S) by simp];exact H2.out,(CT.out.join TT.out HC1.out.1 HC1.out.2 (List.Perm.refl _) FL.out).1,(CT.out.join TT.out HC1.out.1 HC1.out.2 (List.Perm.refl _) FL.out).2⟩,G2.out⟩⟩
                clear H2 G2 FL
                go_wp2_with (fail)
                refine bodyPost_ret (results_none rfl _ _ _) rfl ?_
                exact FIN.out
            · have Tmide : decide (mid < e) = false := decide_eq_false (by omega)
              have Tmidei : decide ((mid : Int) < (e : Int)) = false := decide_eq_false (by omega)
              have Tmidel : (e : Int) ≤ (mid : Int) := by omega
              have Tmiden : e ≤ mid := by omega
              have FL := Aside0.mk (CT.out.flat2 TT.out (by have := LA.out;have := LB.out;have := HA1.out;have := HB1.out;have := HM.out;have := HB.out;have := HNN.out;have := HMD.out;omega))
              have FIN : Aside0 (Merged cf P A B S blk w (.returned (.tuple #[])) w1) := ⟨⟨rfl,⟨C1 ++ (A2 ++ B2),by rw [show P ++ (C1 ++ (A2 ++ B2)) ++ S = P ++ C1 ++ (A2 ++ B2 ++ S) by simp];exact H2.out,(CT.out.join TT.out HC1.out.1 HC1.out.2 (List.Perm.refl _) FL.out).1,(CT.out.join TT.out HC1.out.1 HC1.out.2 (List.Perm.refl _) FL.out).2⟩,G2.out⟩⟩
              clear H2 G2 FL
              go_wp2_with (fail)
              refine bodyPost_ret (results_none rfl _ _ _) rfl ?_
              exact FIN.out
        · have Tim : decide (i < m) = true := decide_eq_true (by omega)
          have Timi : decide ((i : Int) < (m : Int)) = true := decide_eq_true (by omega)
          have Timl : (i : Int) < (m : Int) := by omega
          have Timn : i < m := by omega
          have Tme : decide (m < e) = false := decide_eq_false (by omega)
          have Tmei : decide ((m : Int) < (e : Int)) = false := decide_eq_false (by omega)
          have Tmel : (e : Int) ≤ (m : Int) := by omega
          have Tmen : e ≤ m := by omega
          have H1 := Aside0.mk (show RowAt wr blk (P ++ A1 ++ B1 ++ (A2 ++ B2 ++ S)) by have := H.out;rwa [CT.out.noturn EL.out HP.out HM.out HA1.out HB1.out (by omega)] at this)
          have G1 := HG
          clear H HG
          rcases Nat.lt_or_ge a i with q1 | q1
          · rcases Nat.lt_or_ge i mid with s1 | s1
            · have Tai : decide (a < i) = true := decide_eq_true (by omega)
              have Taii : decide ((a : Int) < (i : Int)) = true := decide_eq_true (by omega)
              have Tail : (a : Int) < (i : Int) := by omega
              have Tain : a < i := by omega
              have Timid : decide (i < mid) = true := decide_eq_true (by omega)
              have Timidi : decide ((i : Int) < (mid : Int)) = true := decide_eq_true (by omega)
              have Timidl : (i : Int) < (mid : Int) := by omega
              have Timidn : i < mid := by omega
              go_wp2_with (fail)
              refine (IH.out P A1 B1 (A2 ++ B2 ++ S) _ a i mid _ (by have := LA.out;have := LB.out;have := HA1.out;have := HB1.out;have := HM.out;have := HB.out;have := HNN.out;have := HMD.out;omega) H1.out (by have := HL.out;have := EL.out;rw [this] at HL;have := HL.out;have := LA.out;have := LB.out;simp at *;omega) (CT.out.two1 TT.out) rfl HP.out HA1.out HMD.out (by have := LA.out;have := LB.out;have := HA1.out;have := HB1.out;have := HM.out;have := HB.out;have := HNN.out;have := HMD.out;omega) (by have := LA.out;have := LB.out;have := HA1.out;have := HB1.out;have := HM.out;have := HB.out;have := HNN.out;have := HMD.out;omega)).mono ?_
              rintro e2 w2 ⟨rfl,⟨C1,h1,h2,h3⟩,hg⟩
              have HC1 := Aside0.mk (And.intro h2 h3)
              have H2 := Aside0.mk h1
              have G2 := Aside0.mk (only_trans G1.out hg)
              have HPC := Aside0.mk (show (P ++ C1).length = mid by have := h2.length_eq;have := HP.out;simp at *;have := LA.out;have := LB.out;have := HA1.out;have := HB1.out;have := HM.out;have := HB.out;have := HNN.out;have := HMD.out;omega)
              clear h1 h2 h3 hg H1 G1
              rcases Nat.lt_or_ge mid e with q2 | q2
              · rcases Nat.lt_or_ge e b with s2 | s2
                · have Tmide : decide (mid < e) = true := decide_eq_true (by omega)
                  have Tmidei : decide ((mid : Int) < (e : Int)) = true := decide_eq_true (by omega)
                  have Tmidel : (mid : Int) < (e : Int) := by omega
                  have Tmiden : mid < e := by omega
                  have Teb : decide (e < b) = true := decide_eq_true (by omega)
                  have Tebi : decide ((e : Int) < (b : Int)) = true := decide_eq_true (by omega)
                  have Tebl : (e : Int) < (b : Int) := by omega
                  have Tebn : e < b := by omega
                  go_wp2_with (fail)
                  refine (IH.out (P ++ C1) A2 B2 S _ mid e b _ (by have := LA.out;have := LB.out;have := HA1.out;have := HB1.out;have := HM.out;have := HB.out;have := HNN.out;have := HMD.out;omega) H2.out (by have := HL.out;have := EL.out;rw [this] at HL;have := HL.out;have := LA.out;have := LB.out;have := HC1.out.1.length_eq;simp at *;omega) (CT.out.two2 TT.out) (by simp) HPC.out (by have := LA.out;have := LB.out;have := HA1.out;have := HB1.out;have := HM.out;have := HB.out;have := HNN.out;have := HMD.out;omega) (by have := LA.out;have := LB.out;have := HA1.out;have := HB1.out;have := HM.out;have := HB.out;have := HNN.out;have := HMD.out;omega) (by have := LA.out;have := LB.out;have := HA1.out;have := HB1.out;have := HM.out;have := HB.out;have := HNN.out;have := HMD.out;omega) (by have := LA.out;have := LB.out;have := HA1.out;have := HB1.out;have := HM.out;have := HB.out;have := HNN.out;have := HMD.out;omega)).mono ?_
                  rintro e2 w3 ⟨rfl,⟨C2,h1,h2,h3⟩,hg⟩
                  have FIN : Aside0 (Merged cf P A B S blk w (.returned (.tuple #[])) w3) := ⟨⟨rfl,⟨C1 ++ C2,by rw [show P ++ (C1 ++ C2) ++ S = P ++ C1 ++ C2 ++ S by simp];exact h1,(CT.out.join TT.out HC1.out.1 HC1.out.2 h2 h3).1,(CT.out.join TT.out HC1.out.1 HC1.out.2 h2 h3).2⟩,only_trans G2.out hg⟩⟩
                  clear h1 h2 h3 hg H2 G2
                  go_wp2_with (fail)
                  refine bodyPost_ret (results_none rfl _ _ _) rfl ?_
                  exact FIN.out
                · have Tmide : decide (mid < e) = true := decide_eq_true (by omega)
                  have Tmidei : decide ((mid : Int) < (e : Int)) = true := decide_eq_true (by omega)
                  have Tmidel : (mid : Int) < (e : Int) := by omega
                  have Tmiden : mid < e := by omega
                  have Teb : decide (e < b) = false := decide_eq_false (by omega)
                  have Tebi : decide ((e : Int) < (b : Int)) = false := decide_eq_false (by omega)
                  have Tebl : (b : Int) ≤ (e : Int) := by omega
                  have Tebn : b ≤ e := by omega
                  have FL := Aside0.mk (CT.out.flat2 TT.out (by have := LA.out;have := LB.out;have := HA1.out;have := HB1.out;have := HM.out;have := HB.out;have := HNN.out;have := HMD.out;omega))
                  have FIN : Aside0 (Merged cf P A B S blk w (.returned (.tuple #[])) w2) := ⟨⟨rfl,⟨C1 ++ (A2 ++ B2),by rw [show P ++ (C1 ++ (A2 ++ B2)) ++ S = P ++ C1 ++ (A2 ++ B2 ++ S) by simp];exact H2.out,(CT.out.join TT.out HC1.out.1 HC1.out.2 (List.Perm.refl _) FL.out).1,(CT.out.join TT.out HC1.out.1 HC1.out.2 (List.Perm.refl _) FL.out).2⟩,G2.out⟩⟩
                  clear H2 G2 FL
                  go_wp2_with (fail)
                  refine bodyPost_ret (results_none rfl _ _ _) rfl ?_
                  exact FIN.out
              · have Tmide : decide (mid < e) = false := decide_eq_false (by omega)
                have Tmidei : decide ((mid : Int) < (e : Int)) = false := decide_eq_false (by omega)
                have Tmidel : (e : Int) ≤ (mid : Int) := by omega
                have Tmiden : e ≤ mid := by omega
                have FL := Aside0.mk (CT.out.flat2 TT.out (by have := LA.out;have := LB.out;have := HA1.out;have := HB1.out;have := HM.out;have := HB.out;have := HNN.out;have := HMD.out;omega))
                have FIN : Aside0 (Merged cf P A B S blk w (.returned (.tuple #[])) w2) := ⟨⟨rfl,⟨C1 ++ (A2 ++ B2),by rw [show P ++ (C1 ++ (A2 ++ B2)) ++ S = P ++ C1 ++ (A2 ++ B2 ++ S) by simp];exact H2.out,(CT.out.join TT.out HC1.out.1 HC1.out.2 (List.Perm.refl _) FL.out).1,(CT.out.join TT.out HC1.out.1 HC1.out.2 (List.Perm.refl _) FL.out).2⟩,G2.out⟩⟩
                clear H2 G2 FL
                go_wp2_with (fail)
                refine bodyPost_ret (results_none rfl _ _ _) rfl ?_
                exact FIN.out
            · have Tai : decide (a < i) = true := decide_eq_true (by omega)
              have Taii : decide ((a : Int) < (i : Int)) = true := decide_eq_true (by omega)
              have Tail : (a : Int) < (i : Int) := by omega
              have Tain : a < i := by omega
              have Timid : decide (i < mid) = false := decide_eq_false (by omega)
              have Timidi : decide ((i : Int) < (mid : Int)) = false := decide_eq_false (by omega)
              have Timidl : (mid : Int) ≤ (i : Int) := by omega
              have Timidn : mid ≤ i := by omega
              obtain ⟨C1,hC1⟩ : ∃ C1,C1 = A1 ++ B1 := ⟨_,rfl⟩
              have HC1 : Aside0 (C1.Perm (A1 ++ B1) ∧ Sorted cf C1) := ⟨by rw [hC1];exact ⟨List.Perm.refl _,CT.out.flat1 TT.out (by have := LA.out;have := LB.out;have := HA1.out;have := HB1.out;have := HM.out;have := HB.out;have := HNN.out;have := HMD.out;omega)⟩⟩
              have H2 : Aside0 (RowAt wr blk (P ++ C1 ++ (A2 ++ B2 ++ S))) := ⟨by have := H1.out;rw [hC1];rw [← List.append_assoc P A1 B1];exact this⟩
              have HPC := Aside0.mk (show (P ++ C1).length = mid by have := HP.out;rw [hC1];simp at *;have := LA.out;have := LB.out;have := HA1.out;have := HB1.out;have := HM.out;have := HB.out;have := HNN.out;have := HMD.out;omega)
              have G2 := G1
              clear hC1 H1 G1
              rcases Nat.lt_or_ge mid e with q2 | q2
              · rcases Nat.lt_or_ge e b with s2 | s2
                · have Tmide : decide (mid < e) = true := decide_eq_true (by omega)
                  have Tmidei : decide ((mid : Int) < (e : Int)) = true := decide_eq_true (by omega)
                  have Tmidel : (mid : Int) < (e : Int) := by omega
                  have Tmiden : mid < e := by omega
                  have Teb : decide (e < b) = true := decide_eq_true (by omega)
                  have Tebi : decide ((e : Int) < (b : Int)) = true := decide_eq_true (by omega)
                  have Tebl : (e : Int) < (b : Int) := by omega
                  have Tebn : e < b := by omega
                  go_wp2_with (fail)
                  refine (IH.out (P ++ C1) A2 B2 S _ mid e b _ (by have := LA.out;have := LB.out;have := HA1.out;have := HB1.out;have := HM.out;have := HB.out;have := HNN.out;have := HMD.out;omega) H2.out (by have := HL.out;have := EL.out;rw [this] at HL;have := HL.out;have := LA.out;have := LB.out;have := HC1.out.1.length_eq;simp at *;omega) (CT.out.two2 TT.out) (by simp) HPC.out (by have := LA.out;have := LB.out;have := HA1.out;have := HB1.out;have := HM.out;have := HB.out;have := HNN.out;have := HMD.out;omega) (by have := LA.out;have := LB.out;have := HA1.out;have := HB1.out;have := HM.out;have := HB.out;have := HNN.out;have := HMD.out;omega) (by have := LA.out;have := LB.out;have := HA1.out;have := HB1.out;have := HM.out;have := HB.out;have := HNN.out;have := HMD.out;omega) (by have := LA.out;have := LB.out;have := HA1.out;have := HB1.out;have := HM.out;have := HB.out;have := HNN.out;have := HMD.out;omega)).mono ?_
                  rintro e2 w3 ⟨rfl,⟨C2,h1,h2,h3⟩,hg⟩
                  have FIN : Aside0 (Merged cf P A B S blk w (.returned (.tuple #[])) w3) := ⟨⟨rfl,⟨C1 ++ C2,by rw [show P ++ (C1 ++ C2) ++ S = P ++ C1 ++ C2 ++ S by simp];exact h1,(CT.out.join TT.out HC1.out.1 HC1.out.2 h2 h3).1,(CT.out.join TT.out HC1.out.1 HC1.out.2 h2 h3).2⟩,only_trans G2.out hg⟩⟩
                  clear h1 h2 h3 hg H2 G2
                  go_wp2_with (fail)
                  refine bodyPost_ret (results_none rfl _ _ _) rfl ?_
                  exact FIN.out
                · have Tmide : decide (mid < e) = true := decide_eq_true (by omega)
                  have Tmidei : decide ((mid : Int) < (e : Int)) = true := decide_eq_true (by omega)
                  have Tmidel : (mid : Int) < (e : Int) := by omega
                  have Tmiden : mid < e := by omega
                  have Teb : decide (e < b) = false := decide_eq_false (by omega)
                  have Tebi : decide ((e : Int) < (b : Int)) = false := decide_eq_false (by omega)
                  have Tebl : (b : Int) ≤ (e : Int) := by omega
                  have Tebn : b ≤ e := by omega
                  have FL := Aside0.mk (CT.out.flat2 TT.out (by have := LA.out;have := LB.out;have := HA1.out;have := HB1.out;have := HM.out;have := HB.out;have := HNN.out;have := HMD.out;omega))
                  have FIN : Aside0 (Merged cf P A B S blk w (.returned (.tuple #[])) wr) := ⟨⟨rfl,⟨C1 ++ (A2 ++ B2),by rw [show P ++ (C1 ++ (A2 ++ B2)) ++ S = P ++ C1 ++ (A2 ++ B2 ++ S) by simp];exact H2.out,(CT.out.join TT.out HC1.out.1 HC1.out.2 (List.Perm.refl _) FL.out).1,(CT.out.join TT.out HC1.out.1 HC1.out.2 (List.Perm.refl _) FL.out).2⟩,G2.out⟩⟩
                  clear H2 G2 FL
                  go_wp2_with (fail)
                  refine bodyPost_ret (results_none rfl _ _ _) rfl ?_
                  exact FIN.out
              · have Tmide : decide (mid < e) = false := decide_eq_false (by omega)
                have Tmidei : decide ((mid : Int) < (e : Int)) = false := decide_eq_false (by omega)
                have Tmidel : (e : Int) ≤ (mid : Int) := by omega
                have Tmiden : e ≤ mid := by omega
                have FL := Aside0.mk (CT.out.flat2 TT.out (by have := LA.out;have := LB.out;have := HA1.out;have := HB1.out;have := HM.out;have := HB.out;have := HNN.out;have := HMD.out;omega))
                have FIN : Aside0 (Merged cf P A B S blk w (.returned (.tuple #[])) wr) := ⟨⟨rfl,⟨C1 ++ (A2 ++ B2),by rw [show P ++ (C1 ++ (A2 ++ B2)) ++ S = P ++ C1 ++ (A2 ++ B2 ++ S) by simp];exact H2.out,(CT.out.join TT.out HC1.out.1 HC1.out.2 (List.Perm.refl _) FL.out).1,(CT.out.join TT.out HC1.out.1 HC1.out.2 (List.Perm.refl _) FL.out).2⟩,G2.out⟩⟩
                clear H2 G2 FL
                go_wp2_with (fail)
                refine bodyPost_ret (results_none rfl _ _ _) rfl ?_
                exact FIN.out
          · have Tai : decide (a < i) = false := decide_eq_false (by omega)
            have Taii : decide ((a : Int) < (i : Int)) = false := decide_eq_false (by omega)
            have Tail : (i : Int) ≤ (a : Int) := by omega
            have Tain : i ≤ a := by omega
            obtain ⟨C1,hC1⟩ : ∃ C1,C1 = A1 ++ B1 := ⟨_,rfl⟩
            have HC1 : Aside0 (C1.Perm (A1 ++ B1) ∧ Sorted cf C1) := ⟨by rw [hC1];exact ⟨List.Perm.refl _,CT.out.flat1 TT.out (by have := LA.out;have := LB.out;have := HA1.out;have := HB1.out;have := HM.out;have := HB.out;have := HNN.out;have := HMD.out;omega)⟩⟩
            have H2 : Aside0 (RowAt wr blk (P ++ C1 ++ (A2 ++ B2 ++ S))) := ⟨by have := H1.out;rw [hC1];rw [← List.append_assoc P A1 B1];exact this⟩
            have HPC := Aside0.mk (show (P ++ C1).length = mid by have := HP.out;rw [hC1];simp at *;have := LA.out;have := LB.out;have := HA1.out;have := HB1.out;have := HM.out;have := HB.out;have := HNN.out;have := HMD.out;omega)
            have G2 := G1
            clear hC1 H1 G1
            rcases Nat.lt_or_ge mid e with q2 | q2
            · rcases Nat.lt_or_ge e b with s2 | s2
              · have Tmide : decide (mid < e) = true := decide_eq_true (by omega)
                have Tmidei : decide ((mid : Int) < (e : Int)) = true := decide_eq_true (by omega)
                have Tmidel : (mid : Int) < (e : Int) := by omega
                have Tmiden : mid < e := by omega
                have Teb : decide (e < b) = true := decide_eq_true (by omega)
                have Tebi : decide ((e : Int) < (b : Int)) = true := decide_eq_true (by omega)
                have Tebl : (e : Int) < (b : Int) := by omega
                have Tebn : e < b := by omega
                go_wp2_with (fail)
                refine (IH.out (P ++ C1) A2 B2 S _ mid e b _ (by have := LA.out;have := LB.out;have := HA1.out;have := HB1.out;have := HM.out;have := HB.out;have := HNN.out;have := HMD.out;omega) H2.out (by have := HL.out;have := EL.out;rw [this] at HL;have := HL.out;have := LA.out;have := LB.out;have := HC1.out.1.length_eq;simp at *;omega) (CT.out.two2 TT.out) (by simp) HPC.out (by have := LA.out;have := LB.out;have := HA1.out;have := HB1.out;have := HM.out;have := HB.out;have := HNN.out;have := HMD.out;omega) (by have := LA.out;have := LB.out;have := HA1.out;have := HB1.out;have := HM.out;have := HB.out;have := HNN.out;have := HMD.out;omega) (by have := LA.out;have := LB.out;have := HA1.out;have := HB1.out;have := HM.out;have := HB.out;have := HNN.out;have := HMD.out;omega) (by have := LA.out;have := LB.out;have := HA1.out;have := HB1.out;have := HM.out;have := HB.out;have := HNN.out;have := HMD.out;omega)).mono ?_
                rintro e2 w3 ⟨rfl,⟨C2,h1,h2,h3⟩,hg⟩
                have FIN : Aside0 (Merged cf P A B S blk w (.returned (.tuple #[])) w3) := ⟨⟨rfl,⟨C1 ++ C2,by rw [show P ++ (C1 ++ C2) ++ S = P ++ C1 ++ C2 ++ S by simp];exact h1,(CT.out.join TT.out HC1.out.1 HC1.out.2 h2 h3).1,(CT.out.join TT.out HC1.out.1 HC1.out.2 h2 h3).2⟩,only_trans G2.out hg⟩⟩
                clear h1 h2 h3 hg H2 G2
                go_wp2_with (fail)
                refine bodyPost_ret (results_none rfl _ _ _) rfl ?_
                exact FIN.out
              · have Tmide : decide (mid < e) = true := decide_eq_true (by omega)
                have Tmidei : decide ((mid : Int) < (e : Int)) = true := decide_eq_true (by omega)
                have Tmidel : (mid : Int) < (e : Int) := by omega
                have Tmiden : mid < e := by omega
                have Teb : decide (e < b) = false := decide_eq_false (by omega)
                have Tebi : decide ((e : Int) < (b : Int)) = false := decide_eq_false (by omega)
                have Tebl : (b : Int) ≤ (e : Int) := by omega
                have Tebn : b ≤ e := by omega
                have FL := Aside0.mk (CT.out.flat2 TT.out (by have := LA.out;have := LB.out;have := HA1.out;have := HB1.out;have := HM.out;have := HB.out;have := HNN.out;have := HMD.out;omega))
                have FIN : Aside0 (Merged cf P A B S blk w (.returned (.tuple #[])) wr) := ⟨⟨rfl,⟨C1 ++ (A2 ++ B2),by rw [show P ++ (C1 ++ (A2 ++ B2)) ++ S = P ++ C1 ++ (A2 ++ B2 ++ S) by simp];exact H2.out,(CT.out.join TT.out HC1.out.1 HC1.out.2 (List.Perm.refl _) FL.out).1,(CT.out.join TT.out HC1.out.1 HC1.out.2 (List.Perm.refl _) FL.out).2⟩,G2.out⟩⟩
                clear H2 G2 FL
                go_wp2_with (fail)
                refine bodyPost_ret (results_none rfl _ _ _) rfl ?_
                exact FIN.out
            · have Tmide : decide (mid < e) = false := decide_eq_false (by omega)
              have Tmidei : decide ((mid : Int) < (e : Int)) = false := decide_eq_false (by omega)
              have Tmidel : (e : Int) ≤ (mid : Int) := by omega
              have Tmiden : e ≤ mid := by omega
              have FL := Aside0.mk (CT.out.flat2 TT.out (by have := LA.out;have := LB.out;have := HA1.out;have := HB1.out;have := HM.out;have := HB.out;have := HNN.out;have := HMD.out;omega))
              have FIN : Aside0 (Merged cf P A B S blk w (.returned (.tuple #[])) wr) := ⟨⟨rfl,⟨C1 ++ (A2 ++ B2),by rw [show P ++ (C1 ++ (A2 ++ B2)) ++ S = P ++ C1 ++ (A2 ++ B2 ++ S) by simp];exact H2.out,(CT.out.join TT.out HC1.out.1 HC1.out.2 (List.Perm.refl _) FL.out).1,(CT.out.join TT.out HC1.out.1 HC1.out.2 (List.Perm.refl _) FL.out).2⟩,G2.out⟩⟩
              clear H2 G2 FL
              go_wp2_with (fail)
              refine bodyPost_ret (results_none rfl _ _ _) rfl ?_
              exact FIN.out
      · have Tim : decide (i < m) = false := decide_eq_false (by omega)
        have Timi : decide ((i : Int) < (m : Int)) = false := decide_eq_false (by omega)
        have Timl : (m : Int) ≤ (i : Int) := by omega
        have Timn : m ≤ i := by omega
        have H1 := Aside0.mk (show RowAt wr blk (P ++ A1 ++ B1 ++ (A2 ++ B2 ++ S)) by have := H.out;rwa [CT.out.noturn EL.out HP.out HM.out HA1.out HB1.out (by omega)] at this)
        have G1 := HG
        clear H HG
        rcases Nat.lt_or_ge a i with q1 | q1
        · rcases Nat.lt_or_ge i mid with s1 | s1
          · have Tai : decide (a < i) = true := decide_eq_true (by omega)
            have Taii : decide ((a : Int) < (i : Int)) = true := decide_eq_true (by omega)
            have Tail : (a : Int) < (i : Int) := by omega
            have Tain : a < i := by omega
            have Timid : decide (i < mid) = true := decide_eq_true (by omega)
            have Timidi : decide ((i : Int) < (mid : Int)) = true := decide_eq_true (by omega)
            have Timidl : (i : Int) < (mid : Int) := by omega
            have Timidn : i < mid := by omega
            go_wp2_with (fail)
            refine (IH.out P A1 B1 (A2 ++ B2 ++ S) _ a i mid _ (by have := LA.out;have := LB.out;have := HA1.out;have := HB1.out;have := HM.out;have := HB.out;have := HNN.out;have := HMD.out;omega) H1.out (by have := HL.out;have := EL.out;rw [this] at HL;have := HL.out;have := LA.out;have := LB.out;simp at *;omega) (CT.out.two1 TT.out) rfl HP.out HA1.out HMD.out (by have := LA.out;have := LB.out;have := HA1.out;have := HB1.out;have := HM.out;have := HB.out;have := HNN.out;have := HMD.out;omega) (by have := LA.out;have := LB.out;have := HA1.out;have := HB1.out;have := HM.out;have := HB.out;have := HNN.out;have := HMD.out;omega)).mono ?_
            rintro e2 w2 ⟨rfl,⟨C1,h1,h2,h3⟩,hg⟩
            have HC1 := Aside0.mk (And.intro h2 h3)
            have H2 := Aside0.mk h1
            have G2 := Aside0.mk (only_trans G1.out hg)
            have HPC := Aside0.mk (show (P ++ C1).length = mid by have := h2.length_eq;have := HP.out;simp at *;have := LA.out;have := LB.out;have := HA1.out;have := HB1.out;have := HM.out;have := HB.out;have := HNN.out;have := HMD.out;omega)
            clear h1 h2 h3 hg H1 G1
            rcases Nat.lt_or_ge mid e with q2 | q2
            · rcases Nat.lt_or_ge e b with s2 | s2
              · have Tmide : decide (mid < e) = true := decide_eq_true (by omega)
                have Tmidei : decide ((mid : Int) < (e : Int)) = true := decide_eq_true (by omega)
                have Tmidel : (mid : Int) < (e : Int) := by omega
                have Tmiden : mid < e := by omega
                have Teb : decide (e < b) = true := decide_eq_true (by omega)
                have Tebi : decide ((e : Int) < (b : Int)) = true := decide_eq_true (by omega)
                have Tebl : (e : Int) < (b : Int) := by omega
                have Tebn : e < b := by omega
                go_wp2_with (fail)
                refine (IH.out (P ++ C1) A2 B2 S _ mid e b _ (by have := LA.out;have := LB.out;have := HA1.out;have := HB1.out;have := HM.out;have := HB.out;have := HNN.out;have := HMD.out;omega) H2.out (by have := HL.out;have := EL.out;rw [this] at HL;have := HL.out;have := LA.out;have := LB.out;have := HC1.out.1.length_eq;simp at *;omega) (CT.out.two2 TT.out) (by simp) HPC.out (by have := LA.out;have := LB.out;have := HA1.out;have := HB1.out;have := HM.out;have := HB.out;have := HNN.out;have := HMD.out;omega) (by have := LA.out;have := LB.out;have := HA1.out;have := HB1.out;have := HM.out;have := HB.out;have := HNN.out;have := HMD.out;omega) (by have := LA.out;have := LB.out;have := HA1.out;have := HB1.out;have := HM.out;have := HB.out;have := HNN.out;have := HMD.out;omega) (by have := LA.out;have := LB.out;have := HA1.out;have := HB1.out;have := HM.out;have := HB.out;have := HNN.out;have := HMD.out;omega)).mono ?_
                rintro e2 w3 ⟨rfl,⟨C2,h1,h2,h3⟩,hg⟩
                have FIN : Aside0 (Merged cf P A B S blk w (.returned (.tuple #[])) w3) := ⟨⟨rfl,⟨C1 ++ C2,by rw [show P ++ (C1 ++ C2) ++ S = P ++ C1 ++ C2 ++ S by simp];exact h1,(CT.out.join TT.out HC1.out.1 HC1.out.2 h2 h3).1,(CT.out.join TT.out HC1.out.1 HC1.out.2 h2 h3).2⟩,only_trans G2.out hg⟩⟩
                clear h1 h2 h3 hg H2 G2
                go_wp2_with (fail)
                refine bodyPost_ret (results_none rfl _ _ _) rfl ?_
                exact FIN.out
              · have Tmide : decide (mid < e) = true := decide_eq_true (by omega)
                have Tmidei : decide ((mid : Int) < (e : Int)) = true := decide_eq_true (by omega)
                have Tmidel : (mid : Int) < (e : Int) := by omega
                have Tmiden : mid < e := by omega
                have Teb : decide (e < b) = false := decide_eq_false (by omega)
                have Tebi : decide ((e : Int) < (b : Int)) = false := decide_eq_false (by omega)
                have Tebl : (b : Int) ≤ (e : Int) := by omega
                have Tebn : b ≤ e := by omega
                have FL := Aside0.mk (CT.out.flat2 TT.out (by have := LA.out;have := LB.out;have := HA1.out;have := HB1.out;have := HM.out;have := HB.out;have := HNN.out;have := HMD.out;omega))
                have FIN : Aside0 (Merged cf P A B S blk w (.returned (.tuple #[])) w2) := ⟨⟨rfl,⟨C1 ++ (A2 ++ B2),by rw [show P ++ (C1 ++ (A2 ++ B2)) ++ S = P ++ C1 ++ (A2 ++ B2 ++ S) by simp];exact H2.out,(CT.out.join TT.out HC1.out.1 HC1.out.2 (List.Perm.refl _) FL.out).1,(CT.out.join TT.out HC1.out.1 HC1.out.2 (List.Perm.refl _) FL.out).2⟩,G2.out⟩⟩
                clear H2 G2 FL
                go_wp2_with (fail)
                refine bodyPost_ret (results_none rfl _ _ _) rfl ?_
                exact FIN.out
            · have Tmide : decide (mid < e) = false := decide_eq_false (by omega)
              have Tmidei : decide ((mid : Int) < (e : Int)) = false := decide_eq_false (by omega)
              have Tmidel : (e : Int) ≤ (mid : Int) := by omega
              have Tmiden : e ≤ mid := by omega
              have FL := Aside0.mk (CT.out.flat2 TT.out (by have := LA.out;have := LB.out;have := HA1.out;have := HB1.out;have := HM.out;have := HB.out;have := HNN.out;have := HMD.out;omega))
              have FIN : Aside0 (Merged cf P A B S blk w (.returned (.tuple #[])) w2) := ⟨⟨rfl,⟨C1 ++ (A2 ++ B2),by rw [show P ++ (C1 ++ (A2 ++ B2)) ++ S = P ++ C1 ++ (A2 ++ B2 ++ S) by simp];exact H2.out,(CT.out.join TT.out HC1.out.1 HC1.out.2 (List.Perm.refl _) FL.out).1,(CT.out.join TT.out HC1.out.1 HC1.out.2 (List.Perm.refl _) FL.out).2⟩,G2.out⟩⟩
              clear H2 G2 FL
              go_wp2_with (fail)
              refine bodyPost_ret (results_none rfl _ _ _) rfl ?_
              exact FIN.out
          · have Tai : decide (a < i) = true := decide_eq_true (by omega)
            have Taii : decide ((a : Int) < (i : Int)) = true := decide_eq_true (by omega)
            have Tail : (a : Int) < (i : Int) := by omega
            have Tain : a < i := by omega
            have Timid : decide (i < mid) = false := decide_eq_false (by omega)
            have Timidi : decide ((i : Int) < (mid : Int)) = false := decide_eq_false (by omega)
            have Timidl : (mid : Int) ≤ (i : Int) := by omega
            have Timidn : mid ≤ i := by omega
            obtain ⟨C1,hC1⟩ : ∃ C1,C1 = A1 ++ B1 := ⟨_,rfl⟩
            have HC1 : Aside0 (C1.Perm (A1 ++ B1) ∧ Sorted cf C1) := ⟨by rw [hC1];exact ⟨List.Perm.refl _,CT.out.flat1 TT.out (by have := LA.out;have := LB.out;have := HA1.out;have := HB1.out;have := HM.out;have := HB.out;have := HNN.out;have := HMD.out;omega)⟩⟩
            have H2 : Aside0 (RowAt wr blk (P ++ C1 ++ (A2 ++ B2 ++ S))) := ⟨by have := H1.out;rw [hC1];rw [← List.append_assoc P A1 B1];exact this⟩
            have HPC := Aside0.mk (show (P ++ C1).length = mid by have := HP.out;rw [hC1];simp at *;have := LA.out;have := LB.out;have := HA1.out;have := HB1.out;have := HM.out;have := HB.out;have := HNN.out;have := HMD.out;omega)
            have G2 := G1
            clear hC1 H1 G1
            rcases Nat.lt_or_ge mid e with q2 | q2
            · rcases Nat.lt_or_ge e b with s2 | s2
              · have Tmide : decide (mid < e) = true := decide_eq_true (by omega)
                have Tmidei : decide ((mid : Int) < (e : Int)) = true := decide_eq_true (by omega)
                have Tmidel : (mid : Int) < (e : Int) := by omega
                have Tmiden : mid < e := by omega
                have Teb : decide (e < b) = true := decide_eq_true (by omega)
                have Tebi : decide ((e : Int) < (b : Int)) = true := decide_eq_true (by omega)
                have Tebl : (e : Int) < (b : Int) := by omega
                have Tebn : e < b := by omega
                go_wp2_with (fail)
                refine (IH.out (P ++ C1) A2 B2 S _ mid e b _ (by have := LA.out;have := LB.out;have := HA1.out;have := HB1.out;have := HM.out;have := HB.out;have := HNN.out;have := HMD.out;omega) H2.out (by have := HL.out;have := EL.out;rw [this] at HL;have := HL.out;have := LA.out;have := LB.out;have := HC1.out.1.length_eq;simp at *;omega) (CT.out.two2 TT.out) (by simp) HPC.out (by have := LA.out;have := LB.out;have := HA1.out;have := HB1.out;have := HM.out;have := HB.out;have := HNN.out;have := HMD.out;omega) (by have := LA.out;have := LB.out;have := HA1.out;have := HB1.out;have := HM.out;have := HB.out;have := HNN.out;have := HMD.out;omega) (by have := LA.out;have := LB.out;have := HA1.out;have := HB1.out;have := HM.out;have := HB.out;have := HNN.out;have := HMD.out;omega) (by have := LA.out;have := LB.out;have := HA1.out;have := HB1.out;have := HM.out;have := HB.out;have := HNN.out;have := HMD.out;omega)).mono ?_
                rintro e2 w3 ⟨rfl,⟨C2,h1,h2,h3⟩,hg⟩
                have FIN : Aside0 (Merged cf P A B S blk w (.returned (.tuple #[])) w3) := ⟨⟨rfl,⟨C1 ++ C2,by rw [show P ++ (C1 ++ C2) ++ S = P ++ C1 ++ C2 ++ S by simp];exact h1,(CT.out.join TT.out HC1.out.1 HC1.out.2 h2 h3).1,(CT.out.join TT.out HC1.out.1 HC1.out.2 h2 h3).2⟩,only_trans G2.out hg⟩⟩
                clear h1 h2 h3 hg H2 G2
                go_wp2_with (fail)
                refine bodyPost_ret (results_none rfl _ _ _) rfl ?_
                exact FIN.out
              · have Tmide : decide (mid < e) = true := decide_eq_true (by omega)
                have Tmidei : decide ((mid : Int) < (e : Int)) = true := decide_eq_true (by omega)
                have Tmidel : (mid : Int) < (e : Int) := by omega
                have Tmiden : mid < e := by omega
                have Teb : decide (e < b) = false := decide_eq_false (by omega)
                have Tebi : decide ((e : Int) < (b : Int)) = false := decide_eq_false (by omega)
                have Tebl : (b : Int) ≤ (e : Int) := by omega
                have Tebn : b ≤ e := by omega
                have FL := Aside0.mk (CT.out.flat2 TT.out (by have := LA.out;have := LB.out;have := HA1.out;have := HB1.out;have := HM.out;have := HB.out;have := HNN.out;have := HMD.out;omega))
                have FIN : Aside0 (Merged cf P A B S blk w (.returned (.tuple #[])) wr) := ⟨⟨rfl,⟨C1 ++ (A2 ++ B2),by rw [show P ++ (C1 ++ (A2 ++ B2)) ++ S = P ++ C1 ++ (A2 ++ B2 ++ S) by simp];exact H2.out,(CT.out.join TT.out HC1.out.1 HC1.out.2 (List.Perm.refl _) FL.out).1,(CT.out.join TT.out HC1.out.1 HC1.out.2 (List.Perm.refl _) FL.out).2⟩,G2.out⟩⟩
                clear H2 G2 FL
                go_wp2_with (fail)
                refine bodyPost_ret (results_none rfl _ _ _) rfl ?_
                exact FIN.out
            · have Tmide : decide (mid < e) = false := decide_eq_false (by omega)
              have Tmidei : decide ((mid : Int) < (e : Int)) = false := decide_eq_false (by omega)
              have Tmidel : (e : Int) ≤ (mid : Int) := by omega
              have Tmiden : e ≤ mid := by omega
              have FL := Aside0.mk (CT.out.flat2 TT.out (by have := LA.out;have := LB.out;have := HA1.out;have := HB1.out;have := HM.out;have := HB.out;have := HNN.out;have := HMD.out;omega))
              have FIN : Aside0 (Merged cf P A B S blk w (.returned (.tuple #[])) wr) := ⟨⟨rfl,⟨C1 ++ (A2 ++ B2),by rw [show P ++ (C1 ++ (A2 ++ B2)) ++ S = P ++ C1 ++ (A2 ++ B2 ++ S) by simp];exact H2.out,(CT.out.join TT.out HC1.out.1 HC1.out.2 (List.Perm.refl _) FL.out).1,(CT.out.join TT.out HC1.out.1 HC1.out.2 (List.Perm.refl _) FL.out).2⟩,G2.out⟩⟩
              clear H2 G2 FL
              go_wp2_with (fail)
              refine bodyPost_ret (results_none rfl _ _ _) rfl ?_
              exact FIN.out
        · have Tai : decide (a < i) = false := decide_eq_false (by omega)
          have Taii : decide ((a : Int) < (i : Int)) = false := decide_eq_false (by omega)
          have Tail : (i : Int) ≤ (a : Int) := by omega
          have Tain : i ≤ a := by omega
          obtain ⟨C1,hC1⟩ : ∃ C1,C1 = A1 ++ B1 := ⟨_,rfl⟩
          have HC1 : Aside0 (C1.Perm (A1 ++ B1) ∧ Sorted cf C1) := ⟨by rw [hC1];exact ⟨List.Perm.refl _,CT.out.flat1 TT.out (by have := LA.out;have := LB.out;have := HA1.out;have := HB1.out;have := HM.out;have := HB.out;have := HNN.out;have := HMD.out;omega)⟩⟩
          have H2 : Aside0 (RowAt wr blk (P ++ C1 ++ (A2 ++ B2 ++ S))) := ⟨by have := H1.out;rw [hC1];rw [← List.append_assoc P A1 B1];exact this⟩
          have HPC := Aside0.mk (show (P ++ C1).length = mid by have := HP.out;rw [hC1];simp at *;have := LA.out;have := LB.out;have := HA1.out;have := HB1.out;have := HM.out;have := HB.out;have := HNN.out;have := HMD.out;omega)
          have G2 := G1
          clear hC1 H1 G1
          rcases Nat.lt_or_ge mid e with q2 | q2
          · rcases Nat.lt_or_ge e b with s2 | s2
            · have Tmide : decide (mid < e) = true := decide_eq_true (by omega)
              have Tmidei : decide ((mid : Int) < (e : Int)) = true := decide_eq_true (by omega)
              have Tmidel : (mid : Int) < (e : Int) := by omega
              have Tmiden : mid < e := by omega
              have Teb : decide (e < b) = true := decide_eq_true (by omega)
              have Tebi : decide ((e : Int) < (b : Int)) = true := decide_eq_true (by omega)
              have Tebl : (e : Int) < (b : Int) := by omega
              have Tebn : e < b := by omega
              go_wp2_with (fail)
              refine (IH.out (P ++ C1) A2 B2 S _ mid e b _ (by have := LA.out;have := LB.out;have := HA1.out;have := HB1.out;have := HM.out;have := HB.out;have := HNN.out;have := HMD.out;omega) H2.out (by have := HL.out;have := EL.out;rw [this] at HL;have := HL.out;have := LA.out;have := LB.out;have := HC1.out.1.length_eq;simp at *;omega) (CT.out.two2 TT.out) (by simp) HPC.out (by have := LA.out;have := LB.out;have := HA1.out;have := HB1.out;have := HM.out;have := HB.out;have := HNN.out;have := HMD.out;omega) (by have := LA.out;have := LB.out;have := HA1.out;have := HB1.out;have := HM.out;have := HB.out;have := HNN.out;have := HMD.out;omega) (by have := LA.out;have := LB.out;have := HA1.out;have := HB1.out;have := HM.out;have := HB.out;have := HNN.out;have := HMD.out;omega) (by have := LA.out;have := LB.out;have := HA1.out;have := HB1.out;have := HM.out;have := HB.out;have := HNN.out;have := HMD.out;omega)).mono ?_
              rintro e2 w3 ⟨rfl,⟨C2,h1,h2,h3⟩,hg⟩
              have FIN : Aside0 (Merged cf P A B S blk w (.returned (.tuple #[])) w3) := ⟨⟨rfl,⟨C1 ++ C2,by rw [show P ++ (C1 ++ C2) ++ S = P ++ C1 ++ C2 ++ S by simp];exact h1,(CT.out.join TT.out HC1.out.1 HC1.out.2 h2 h3).1,(CT.out.join TT.out HC1.out.1 HC1.out.2 h2 h3).2⟩,only_trans G2.out hg⟩⟩
              clear h1 h2 h3 hg H2 G2
              go_wp2_with (fail)
              refine bodyPost_ret (results_none rfl _ _ _) rfl ?_
              exact FIN.out
            · have Tmide : decide (mid < e) = true := decide_eq_true (by omega)
              have Tmidei : decide ((mid : Int) < (e : Int)) = true := decide_eq_true (by omega)
              have Tmidel : (mid : Int) < (e : Int) := by omega
              have Tmiden : mid < e := by omega
              have Teb : decide (e < b) = false := decide_eq_false (by omega)
              have Tebi : decide ((e : Int) < (b : Int)) = false := decide_eq_false (by omega)
              have Tebl : (b : Int) ≤ (e : Int) := by omega
              have Tebn : b ≤ e := by omega
              have FL := Aside0.mk (CT.out.flat2 TT.out (by have := LA.out;have := LB.out;have := HA1.out;have := HB1.out;have := HM.out;have := HB.out;have := HNN.out;have := HMD.out;omega))
              have FIN : Aside0 (Merged cf P A B S blk w (.returned (.tuple #[])) wr) := ⟨⟨rfl,⟨C1 ++ (A2 ++ B2),by rw [show P ++ (C1 ++ (A2 ++ B2)) ++ S = P ++ C1 ++ (A2 ++ B2 ++ S) by simp];exact H2.out,(CT.out.join TT.out HC1.out.1 HC1.out.2 (List.Perm.refl _) FL.out).1,(CT.out.join TT.out HC1.out.1 HC1.out.2 (List.Perm.refl _) FL.out).2⟩,G2.out⟩⟩
              clear H2 G2 FL
              go_wp2_with (fail)
              refine bodyPost_ret (results_none rfl _ _ _) rfl ?_
              exact FIN.out
          · have Tmide : decide (mid < e) = false := decide_eq_false (by omega)
            have Tmidei : decide ((mid : Int) < (e : Int)) = false := decide_eq_false (by omega)
            have Tmidel : (e : Int) ≤ (mid : Int) := by omega
            have Tmiden : e ≤ mid := by omega
            have FL := Aside0.mk (CT.out.flat2 TT.out (by have := LA.out;have := LB.out;have := HA1.out;have := HB1.out;have := HM.out;have := HB.out;have := HNN.out;have := HMD.out;omega))
            have FIN : Aside0 (Merged cf P A B S blk w (.returned (.tuple #[])) wr) := ⟨⟨rfl,⟨C1 ++ (A2 ++ B2),by rw [show P ++ (C1 ++ (A2 ++ B2)) ++ S = P ++ C1 ++ (A2 ++ B2 ++ S) by simp];exact H2.out,(CT.out.join TT.out HC1.out.1 HC1.out.2 (List.Perm.refl _) FL.out).1,(CT.out.join TT.out HC1.out.1 HC1.out.2 (List.Perm.refl _) FL.out).2⟩,G2.out⟩⟩
            clear H2 G2 FL
            go_wp2_with (fail)
            refine bodyPost_ret (results_none rfl _ _ _) rfl ?_
            exact FIN.out
end Go.Proofs.Ytcenlehfbgnphaa.Z
end
section
namespace Go.Proofs.Ytcenlehfbgnphaa.Z
set_option linter.unusedVariables false
set_option linter.unusedSimpArgs false
set_option linter.unnecessarySimpa false
open Go.RowKit Go.Proofs.YtcenlehfbgnphaaW.PrintWords Go.Proofs.YtcenlehfbgnphaaW.PrintLast Go.Proofs.YtcenlehfbgnphaaW.PrintMore
theorem sym_merge (cf : S45 → S45 → Int) (hC : CmpOk 74 cf) (blk cap n : Nat) (hn : n ≤ 1000000) : ∀ K,MergesTo cf blk cap n K := by
  intro K
  induction K with
  | zero => intro P A B S L a m b w hlt;exact absurd hlt (Nat.not_lt_zero _)
  | succ K ihK =>
    intro P A B S L a m b w hlt h hlen t eL hP hm hb hA hB
    have hbn : b ≤ n := by rw [eL] at hlen;simp at hlen;omega
    rcases Nat.lt_or_ge A.length 2 with c | c
    · obtain ⟨x,rfl⟩ := List.length_eq_one_iff.1 (show A.length = 1 by omega)
      exact merge1 cf hC blk cap a m b n P B S L x w h hlen hn t eL hP (by simp at hm;omega) hb hbn
    · rcases Nat.lt_or_ge B.length 2 with d | d
      · obtain ⟨y,rfl⟩ := List.length_eq_one_iff.1 (show B.length = 1 by omega)
        exact merge2 cf hC blk cap a m b n P A S L y w h hlen hn t eL hP hm c (by simp at hb;omega) hbn
      · have ih : MergesTo cf blk cap n (A.length + B.length) := fun P' A' B' S' L' a' m' b' w' hl' => ihK P' A' B' S' L' a' m' b' w' (by omega)
        rcases Nat.lt_or_ge (a + b) (2 * m) with e | e
        · exact merge30 cf hC blk cap a m b n P A B S L w ih h hlen hn t eL hP hm c d hb hbn e
        · exact merge31 cf hC blk cap a m b n P A B S L w ih h hlen hn t eL hP hm c d hb hbn e
set_option maxHeartbeats 4000000 in
set_option maxRecDepth 100000 in
theorem insertion0 (cf : S45 → S45 → Int) (blk cap a n : Nat) (L : List El) (w : World) (h : RowAt w blk L) (ha : a ≤ 1000000) :
    Calls Try.prog 114 #[.slice (some ⟨blk,0,none⟩) n cap,.int .i64 a,.int .i64 a,.func (.func 74) #[] #[]] w fun e w' => e = .returned (.tuple #[]) ∧ RowAt w' blk L ∧ w.grownBy w' (some blk) := by
  have H := Aside0.mk h
  have HG := Aside0.mk (only_refl w blk)
  clear h
  go_enter Try.func114,Try.ntmps114
  go_wp2
  go_loopw [8] (fun iv wr => iv = .int .i64 ((a : Int) + 1) ∧ Aside0 (RowAt wr blk L) ∧ Aside0 (w.grownBy wr (some blk))) (fun iv _ => 0)
  case atStart => exact ⟨rfl,H,HG⟩
  case round =>
    clear H HG
    obtain ⟨rfl,H,HG⟩ := hrel
    have b0 : decide ((a : Int) + 1 < (a : Int)) = false := decide_eq_false (by omega)
    have b1 : (a : Int) ≤ (a : Int) + 1 := by omega
    go_wp2
    go_end0
    exact ⟨rfl,H.out,HG.out⟩
structure Segs (cf : S45 → S45 → Int) (X : List El) (Gs : List (List El)) : Prop where
  perm : Gs.flatten.Perm X
  srt : ∀ g ∈ Gs,Sorted cf g
  apart : Gs.Pairwise (fun c d => ∀ x ∈ c,∀ y ∈ d,x.2 < y.2)
theorem Segs.two {cf : S45 → S45 → Int} {X : List El} {E D : List (List El)} {c d : List El} (o : Ord3 cf) (h : Segs cf X (E ++ c :: d :: D)) (P S : List El) : Two cf P c d S :=
  ⟨o,h.srt c (by simp),h.srt d (by simp),(List.pairwise_cons.1 (List.pairwise_append.1 h.apart).2.1).1 d (by simp)⟩
theorem Segs.merge {cf : S45 → S45 → Int} {X : List El} {E D : List (List El)} {c d C : List El} (h : Segs cf X (E ++ c :: d :: D)) (hp : C.Perm (c ++ d)) (hs : Sorted cf C) : Segs cf X (E ++ C :: D) := by
  refine ⟨?_,?_,?_⟩
  · refine List.Perm.trans ?_ h.perm
    rw [List.flatten_append,List.flatten_append,List.flatten_cons,List.flatten_cons,List.flatten_cons]
    refine List.Perm.append_left _ ?_
    rw [← List.append_assoc]
    exact List.Perm.append_right _ hp
  · intro g hg
    rcases List.mem_append.1 hg with hg | hg
    · exact h.srt g (by simp [hg])
    · rcases List.mem_cons.1 hg with rfl | hg
      · exact hs
      · exact h.srt g (by simp [hg])
  · obtain ⟨h1,h2,h3⟩ := List.pairwise_append.1 h.apart
    obtain ⟨k1,k2⟩ := List.pairwise_cons.1 h2
    obtain ⟨k3,k4⟩ := List.pairwise_cons.1 k2
    refine List.pairwise_append.2 ⟨h1,List.pairwise_cons.2 ⟨?_,k4⟩,?_⟩
    · intro g hg x hx y hy
      rcases List.mem_append.1 (hp.mem_iff.1 hx) with hx | hx
      · exact k1 g (by simp [hg]) x hx y hy
      · exact k3 g hg x hx y hy
    · intro e he g hg
      rcases List.mem_cons.1 hg with rfl | hg
      · intro x hx y hy
        rcases List.mem_append.1 (hp.mem_iff.1 hy) with hy | hy
        · exact h3 e he c (by simp) x hx y hy
        · exact h3 e he d (by simp) x hx y hy
      · exact h3 e he g (by simp [hg])
structure Half (cf : S45 → S45 → Int) (X : List El) (Gs : List (List El)) (R : List El) : Prop where
  perm : (Gs.flatten ++ R).Perm X
  srt : ∀ g ∈ Gs,Sorted cf g
  apart : Gs.Pairwise (fun c d => ∀ x ∈ c,∀ y ∈ d,x.2 < y.2)
  tags : Tags R
  ahead : ∀ g ∈ Gs,∀ x ∈ g,∀ y ∈ R,x.2 < y.2
theorem Half.start {cf : S45 → S45 → Int} {X : List El} (h : Tags X) : Half cf X [] X := ⟨List.Perm.refl _,by simp,List.Pairwise.nil,h,by simp⟩
theorem Half.step {cf : S45 → S45 → Int} {X R1 R2 C : List El} {Gs : List (List El)} (h : Half cf X Gs (R1 ++ R2)) (hp : C.Perm R1) (hs : Sorted cf C) : Half cf X (Gs ++ [C]) R2 := by
  obtain ⟨t1,t2,t3⟩ := List.pairwise_append.1 h.tags
  refine ⟨?_,?_,?_,t2,?_⟩
  · refine List.Perm.trans ?_ h.perm
    rw [List.flatten_append,List.append_assoc]
    refine List.Perm.append_left _ ?_
    simpa using List.Perm.append_right R2 hp
  · intro g hg
    rcases List.mem_append.1 hg with hg | hg
    · exact h.srt g hg
    · rw [List.mem_singleton.1 hg];exact hs
  · refine List.pairwise_append.2 ⟨h.apart,List.pairwise_singleton _ _,?_⟩
    intro c hc d hd x hx y hy
    rw [List.mem_singleton.1 hd] at hy
    exact h.ahead c hc x hx y (List.mem_append_left _ (hp.mem_iff.1 hy))
  · intro g hg x hx y hy
    rcases List.mem_append.1 hg with hg | hg
    · exact h.ahead g hg x hx y (List.mem_append_right _ hy)
    · rw [List.mem_singleton.1 hg] at hx
      exact t3 x (hp.mem_iff.1 hx) y hy
theorem Half.segs {cf : S45 → S45 → Int} {X R C : List El} {Gs : List (List El)} (h : Half cf X Gs R) (hp : C.Perm R) (hs : Sorted cf C) : Segs cf X (Gs ++ [C]) := by
  have k := Half.step (R1 := R) (R2 := []) (C := C) (show Half cf X Gs (R ++ []) by rw [List.append_nil];exact h) hp hs
  exact ⟨by simpa using k.perm,k.srt,k.apart⟩
def AllLen (s : Nat) (Gs : List (List El)) : Prop := ∀ g ∈ Gs,g.length = s
theorem AllLen.flat {s : Nat} : ∀ {Gs : List (List El)},AllLen s Gs → Gs.flatten.length = Gs.length * s
  | [],_ => by simp
  | g :: Gs,h => by
    have e := AllLen.flat (s := s) (Gs := Gs) fun d hd => h d (by simp [hd])
    have := h g (by simp)
    rw [List.flatten_cons,List.length_append,e,this,List.length_cons,Nat.succ_mul,Nat.add_comm]
theorem AllLen.app {s : Nat} {Gs : List (List El)} {C : List El} (h : AllLen s Gs) (hc : C.length = s) : AllLen s (Gs ++ [C]) := by
  intro g hg
  rcases List.mem_append.1 hg with hg | hg
  · exact h g hg
  · rw [List.mem_singleton.1 hg];exact hc
end Go.Proofs.Ytcenlehfbgnphaa.Z
end
section
namespace Go.Proofs.Ytcenlehfbgnphaa.Z
set_option linter.unusedVariables false
set_option linter.unusedSimpArgs false
set_option linter.unnecessarySimpa false
open Go.RowKit Go.Proofs.YtcenlehfbgnphaaW.PrintWords Go.Proofs.YtcenlehfbgnphaaW.PrintLast Go.Proofs.YtcenlehfbgnphaaW.PrintMore
theorem insertionA (cf : S45 → S45 → Int) (hC : CmpOk 74 cf) (blk cap a b n : Nat) (P X S L : List El) (w : World) (h : RowAt w blk L) (hlen : L.length = n) (hn : n ≤ 1000000) (eL : L = P ++ X ++ S) (hP : P.length = a) (hX : a + X.length = b) (ht : Tags X) :
    Calls Try.prog 114 #[.slice (some ⟨blk,0,none⟩) n cap,.int .i64 a,.int .i64 b,.func (.func 74) #[] #[]] w fun e w' => e = .returned (.tuple #[]) ∧ (∃ C,RowAt w' blk (P ++ C ++ S) ∧ C.Perm X ∧ Sorted cf C) ∧ w.grownBy w' (some blk) := by
  by_cases hne : X = []
  · subst hne
    have e : a = b := by simpa using hX
    subst e
    refine (insertion0 cf blk cap a n L w h (by rw [eL] at hlen;simp at hlen;omega)).mono ?_
    rintro e w' ⟨rfl,h1,h2⟩
    exact ⟨rfl,⟨[],by rw [eL] at h1;exact h1,List.Perm.refl _,List.Pairwise.nil⟩,h2⟩
  · exact insertion cf hC blk cap a b n P X S L w h hlen hn eL hP hX hne ht
theorem AllLen.big {s : Nat} {Ds : List (List El)} (h : AllLen s Ds) (r : Nat) (hr : r < s) (hb : 2 * s ≤ Ds.flatten.length + r) : ∃ c d D,Ds = c :: d :: D ∧ c.length = s ∧ d.length = s ∧ AllLen s D := by
  match Ds,h with
  | [],_ => simp at hb;omega
  | [c],h => have := h c (by simp);simp at hb;omega
  | c :: d :: D,h => exact ⟨c,d,D,rfl,h c (by simp),h d (by simp),fun g hg => h g (by simp [hg])⟩
theorem AllLen.small {s : Nat} {Ds : List (List El)} (h : AllLen s Ds) (r : Nat) (hb : Ds.flatten.length + r < 2 * s) : Ds = [] ∨ ∃ d,Ds = [d] ∧ d.length = s := by
  match Ds,h with
  | [],_ => exact Or.inl rfl
  | [c],h => exact Or.inr ⟨c,rfl,h c (by simp)⟩
  | c :: d :: D,h =>
    have := h c (by simp)
    have := h d (by simp)
    simp at hb
    omega
structure MidAt (cf : S45 → S45 → Int) (X : List El) (s a : Nat) (Es Ds : List (List El)) (R : List El) (n : Nat) (L : List El) : Prop where
  segs : Segs cf X (Es ++ (Ds ++ [R]))
  le : AllLen (2 * s) Es
  ld : AllLen s Ds
  lr : R.length < s
  la : Es.flatten.length = a
  ll : a + (Ds.flatten.length + R.length) = n
  flat : L = (Es ++ (Ds ++ [R])).flatten
structure OutAt (cf : S45 → S45 → Int) (X : List El) (s : Nat) (n : Nat) (L : List El) : Prop where
  out : ∃ Gs R,Segs cf X (Gs ++ [R]) ∧ AllLen s Gs ∧ R.length < s ∧ Gs.flatten.length + R.length = n ∧ L = (Gs ++ [R]).flatten
theorem OutAt.enter {cf : S45 → S45 → Int} {X : List El} {s n : Nat} {L : List El} (h : OutAt cf X s n L) : ∃ Ds R,MidAt cf X s 0 [] Ds R n L := by
  obtain ⟨Gs,R,h1,h2,h3,h4,h5⟩ := h.out
  exact ⟨Gs,R,h1,fun g hg => absurd hg (by simp),h2,h3,rfl,by omega,h5⟩
theorem OutAt.done {cf : S45 → S45 → Int} {X : List El} {s n : Nat} {L : List El} (h : OutAt cf X s n L) (hs : n ≤ s) (hp : 0 < s) : L.Perm X ∧ Sorted cf L := by
  obtain ⟨Gs,R,h1,h2,h3,h4,h5⟩ := h.out
  subst h5
  refine ⟨h1.perm,?_⟩
  rcases h2.small R.length (by omega) with rfl | ⟨d,rfl,hd⟩
  · simpa using h1.srt R (by simp)
  · have : R = [] := List.length_eq_zero_iff.1 (by simp at h4;omega)
    subst this
    simpa using h1.srt d (by simp)
theorem MidAt.len {cf : S45 → S45 → Int} {X : List El} {s a n : Nat} {Es Ds : List (List El)} {R L : List El} (h : MidAt cf X s a Es Ds R n L) : L.length = n := by
  have h1 := h.la
  have h2 := h.ll
  rw [h.flat,List.flatten_append,List.flatten_append,List.length_append,List.length_append]
  simp [-List.length_flatten]
  omega
theorem MidAt.step {cf : S45 → S45 → Int} {X : List El} {s a n : Nat} {Es D : List (List El)} {c d R L C : List El} (h : MidAt cf X s a Es (c :: d :: D) R n L) (hp : C.Perm (c ++ d)) (hs : Sorted cf C) : MidAt cf X s (a + 2 * s) (Es ++ [C]) D R n (Es.flatten ++ C ++ (D ++ [R]).flatten) := by
  have hc := h.ld c (by simp)
  have hd := h.ld d (by simp)
  have hl : C.length = 2 * s := by rw [hp.length_eq,List.length_append];omega
  have h1 := h.la
  have h2 := h.ll
  refine ⟨?_,h.le.app hl,fun g hg => h.ld g (by simp [hg]),h.lr,?_,?_,?_⟩
  · have := h.segs.merge (E := Es) (D := D ++ [R]) hp hs
    simpa using this
  · rw [List.flatten_append,List.length_append];simp [-List.length_flatten];omega
  · simp [-List.length_flatten] at h2 ⊢;omega
  · simp
theorem MidAt.two {cf : S45 → S45 → Int} {X : List El} {s a n : Nat} {Es D : List (List El)} {c d R L : List El} (o : Ord3 cf) (h : MidAt cf X s a Es (c :: d :: D) R n L) : Two cf Es.flatten c d (D ++ [R]).flatten ∧ L = Es.flatten ++ c ++ d ++ (D ++ [R]).flatten :=
  ⟨Segs.two (E := Es) (D := D ++ [R]) o h.segs _ _,by rw [h.flat];simp⟩
theorem MidAt.two1 {cf : S45 → S45 → Int} {X : List El} {s a n : Nat} {Es : List (List El)} {d R L : List El} (o : Ord3 cf) (h : MidAt cf X s a Es [d] R n L) : Two cf Es.flatten d R [] ∧ L = Es.flatten ++ d ++ R ++ [] :=
  ⟨Segs.two (E := Es) (D := []) o h.segs _ _,by rw [h.flat];simp⟩
theorem MidAt.last1 {cf : S45 → S45 → Int} {X : List El} {s a n : Nat} {Es : List (List El)} {d R L C : List El} (h : MidAt cf X s a Es [d] R n L) (hp : C.Perm (d ++ R)) (hs : Sorted cf C) : OutAt cf X (2 * s) n (Es.flatten ++ C ++ []) := by
  have hd := h.ld d (by simp)
  have hr := h.lr
  have h1 := h.la
  have h2 := h.ll
  have hl := hp.length_eq
  rw [List.length_append] at hl
  refine ⟨Es,C,h.segs.merge (E := Es) (D := []) hp hs,h.le,by omega,by simp at h2;omega,by simp⟩
theorem MidAt.last0 {cf : S45 → S45 → Int} {X : List El} {s a n : Nat} {Es : List (List El)} {R L : List El} (h : MidAt cf X s a Es [] R n L) : OutAt cf X (2 * s) n L := by
  have hr := h.lr
  have h1 := h.la
  have h2 := h.ll
  exact ⟨Es,R,h.segs,h.le,by omega,by simp at h2;omega,h.flat⟩
theorem MidAt.last2 {cf : S45 → S45 → Int} {X : List El} {s a n : Nat} {Es : List (List El)} {d L : List El} (h : MidAt cf X s a Es [d] [] n L) : OutAt cf X (2 * s) n L := by
  have := h.last1 (C := d) (by rw [List.append_nil]) (h.segs.srt d (by simp))
  have e : L = Es.flatten ++ d ++ [] := by rw [h.flat];simp
  rw [e];exact this
structure BegAt (cf : S45 → S45 → Int) (X : List El) (a n : Nat) (L : List El) : Prop where
  out : ∃ Gs R,Half cf X Gs R ∧ AllLen 20 Gs ∧ Gs.flatten.length = a ∧ a + R.length = n ∧ L = Gs.flatten ++ R
set_option maxHeartbeats 8000000 in
set_option maxRecDepth 100000 in
theorem stable (cf : S45 → S45 → Int) (hC : CmpOk 74 cf) (blk cap n : Nat) (X : List El) (w : World) (h : RowAt w blk X) (hlen : X.length = n) (hn : n ≤ 1000000) (ht : Tags X) :
    Calls Try.prog 97 #[.slice (some ⟨blk,0,none⟩) n cap,.int .i64 n,.func (.func 74) #[] #[]] w fun e w' => e = .returned (.tuple #[]) ∧ (∃ C,RowAt w' blk C ∧ C.Perm X ∧ Sorted cf C) ∧ w.grownBy w' (some blk) := by
  have H := Aside0.mk h
  have HG := Aside0.mk (only_refl w blk)
  have HH : Aside0 (BegAt cf X 0 n X) := ⟨⟨[],X,Half.start ht,fun g hg => absurd hg (by simp),rfl,by omega,rfl⟩⟩
  clear h ht hlen
  go_enter Try.func97,Try.ntmps97
  go_wp2
  go_loopw [7,8] (fun iv jv wr => ∃ (a b : Nat) (L : List El),iv = .int .i64 (a : Int) ∧ jv = .int .i64 (b : Int) ∧ a ≤ n ∧ b ≤ a + 20 ∧ a + 20 ≤ b ∧ Aside0 (BegAt cf X a n L) ∧ Aside0 (RowAt wr blk L) ∧ Aside0 (w.grownBy wr (some blk))) (fun iv jv _ => n - (intOf iv).toNat)
  case atStart => exact ⟨0,20,X,rfl,rfl,by omega,by omega,by omega,HH,H,HG⟩
  case round =>
    clear H HG HH
    obtain ⟨a,b,L,rfl,rfl,han,hb1,hb2,HH,H,HG⟩ := hrel
    obtain ⟨Gs,R,hH,hA,hGa,hR,hL⟩ := HH.out.out
    have HLen := Aside0.mk (show L.length = n by rw [hL,List.length_append];omega)
    by_cases hbn : b ≤ n
    · have T1 : decide (b ≤ n) = true := decide_eq_true (by omega)
      have T2 : decide ((b : Int) ≤ (n : Int)) = true := decide_eq_true (by omega)
      have T3 : (b : Int) ≤ (n : Int) := by omega
      have T4 : b ≤ n := by omega
      obtain ⟨R1,R2,rfl,hR1⟩ : ∃ R1 R2,R = R1 ++ R2 ∧ R1.length = 20 := ⟨R.take 20,R.drop 20,(List.take_append_drop _ _).symm,by simp;omega⟩
      have HX := Aside0.mk (show a + R1.length = b by omega)
      have EL := Aside0.mk (show L = Gs.flatten ++ R1 ++ R2 by rw [hL];simp)
      have H1 := Aside0.mk hH
      have H2 := Aside0.mk hA
      have H3 := Aside0.mk hGa
      have H4 := Aside0.mk (show b + R2.length = n by simp at hR;omega)
      have H5 := Aside0.mk hR1
      clear hH hA hGa hR hL hR1
      go_wp2_with (fail)
      refine (insertionA cf hC blk cap a b n Gs.flatten R1 R2 L _ H.out HLen.out hn EL.out H3.out HX.out (List.pairwise_append.1 H1.out.tags).1).mono ?_
      rintro e w1 ⟨rfl,⟨C,h1,h2,h3⟩,hg⟩
      have HN : Aside0 (BegAt cf X b n (Gs.flatten ++ C ++ R2)) := ⟨⟨Gs ++ [C],R2,H1.out.step h2 h3,H2.out.app (h2.length_eq.trans H5.out),by have := H3.out;have := H5.out;have := h2.length_eq;rw [List.flatten_append,List.length_append];simp [-List.length_flatten];omega,H4.out,by simp⟩⟩
      have R3 := Aside0.mk h1
      have G3 := Aside0.mk (only_trans HG.out hg)
      clear h1 h2 h3 hg H HG HH
      go_wp2_with (fail)
      go_roundw
      case rel => exact ⟨b,b + 20,_,rfl,by go_num,hbn,by omega,by omega,HN,R3,G3⟩
      case measure => simp [intOf];omega
    · have T1 : decide (b ≤ n) = false := decide_eq_false (by omega)
      have T2 : decide ((b : Int) ≤ (n : Int)) = false := decide_eq_false (by omega)
      have T3 : (n : Int) < (b : Int) := by omega
      have T4 : n < b := by omega
      have EL := Aside0.mk (show L = Gs.flatten ++ R ++ [] by rw [hL];simp)
      have H1 := Aside0.mk hH
      have H2 := Aside0.mk hA
      have H3 := Aside0.mk hGa
      have H4 := Aside0.mk hR
      clear hH hA hGa hR hL
      go_wp2_with (fail)
      refine (insertionA cf hC blk cap a n n Gs.flatten R [] L _ H.out HLen.out hn EL.out H3.out H4.out H1.out.tags).mono ?_
      rintro e w1 ⟨rfl,⟨C,h1,h2,h3⟩,hg⟩
      have HN : Aside0 (OutAt cf X 20 n (Gs.flatten ++ C ++ [])) := ⟨⟨Gs,C,H1.out.segs h2 h3,H2.out,by have := h2.length_eq;have := H4.out;omega,by have := h2.length_eq;have := H3.out;have := H4.out;omega,by simp⟩⟩
      obtain ⟨L1,hL1⟩ : ∃ L1,Gs.flatten ++ C ++ [] = L1 := ⟨_,rfl⟩
      rw [hL1] at HN h1
      have R3 := Aside0.mk h1
      have G3 := Aside0.mk (only_trans HG.out hg)
      clear h1 h2 h3 hg H HG HH T1 T2 T3 T4 hL1 EL H1 H2 H3 H4 HLen hbn hb1 hb2
      go_wp2_with (fail)
      go_loopw [6] (fun iv wr => ∃ (s : Nat) (L : List El),iv = .int .i64 (s : Int) ∧ 20 ≤ s ∧ s ≤ 2 * n + 20 ∧ Aside0 (OutAt cf X s n L) ∧ Aside0 (RowAt wr blk L) ∧ Aside0 (w.grownBy wr (some blk))) (fun iv _ => 2 * n + 21 - (intOf iv).toNat)
      case atStart => exact ⟨20,L1,rfl,by omega,by omega,HN,R3,G3⟩
      case round =>
        clear HN R3 G3
        obtain ⟨s,L,rfl,hs1,hs2,HO,H,HG⟩ := hrel
        by_cases hsn : s < n
        · have T1 : decide (s < n) = true := decide_eq_true (by omega)
          have T2 : decide ((s : Int) < (n : Int)) = true := decide_eq_true (by omega)
          have T3 : (s : Int) < (n : Int) := by omega
          have T4 : s < n := by omega
          obtain ⟨Ds,R,hM⟩ := HO.out.enter
          have HM := Aside0.mk hM
          clear hM HO
          go_wp2_with (fail)
          go_loopw [7,8] (fun iv jv wr => ∃ (a b : Nat) (Es Ds : List (List El)) (L : List El),iv = .int .i64 (a : Int) ∧ jv = .int .i64 (b : Int) ∧ a ≤ n ∧ b ≤ a + 2 * s ∧ a + 2 * s ≤ b ∧ Aside0 (MidAt cf X s a Es Ds R n L) ∧ Aside0 (RowAt wr blk L) ∧ Aside0 (w.grownBy wr (some blk))) (fun iv jv _ => n - (intOf iv).toNat)
          case atStart => exact ⟨0,2 * s,[],Ds,L,rfl,by go_num,by omega,by omega,by omega,HM,H,HG⟩
          case round =>
            clear HM H HG
            obtain ⟨a,b,Es,Ds,L,rfl,rfl,han,hb1,hb2,HM,H,HG⟩ := hrel
            obtain ⟨m,hm⟩ : ∃ m : Nat,(a : Int) + (s : Int) = (m : Int) := ⟨a + s,by omega⟩
            by_cases hbn : b ≤ n
            · have Tb1 : decide (b ≤ n) = true := decide_eq_true (by omega)
              have Tb2 : decide ((b : Int) ≤ (n : Int)) = true := decide_eq_true (by omega)
              have Tb3 : (b : Int) ≤ (n : Int) := by omega
              have Tb4 : b ≤ n := by omega
              obtain ⟨c,d,D,rfl,hc,hd,hD⟩ := HM.out.ld.big R.length HM.out.lr (by have := HM.out.ll;omega)
              have TW := Aside0.mk (HM.out.two hC.ord)
              have HC := Aside0.mk hc
              have HD := Aside0.mk hd
              clear hc hd hD
              go_wp2_with (fail)
              refine (sym_merge cf hC blk cap n hn (c.length + d.length + 1) Es.flatten c d (D ++ [R]).flatten L a m b _ (by omega) H.out HM.out.len TW.out.1 TW.out.2 HM.out.la (by have := HC.out;omega) (by have := HD.out;omega) (by have := HC.out;omega) (by have := HD.out;omega)).mono ?_
              rintro e w1 ⟨rfl,⟨C,h1,h2,h3⟩,hg⟩
              have HN := Aside0.mk (show MidAt cf X s b (Es ++ [C]) D R n _ by rw [show b = a + 2 * s by omega];exact HM.out.step h2 h3)
              have R3 := Aside0.mk h1
              have G3 := Aside0.mk (only_trans HG.out hg)
              clear h1 h2 h3 hg H HG HM TW
              go_wp2_with (fail)
              go_roundw
              case rel => exact ⟨b,b + 2 * s,_,_,_,rfl,by go_num,hbn,by omega,by omega,HN,R3,G3⟩
              case measure => simp [intOf];omega
            · have Tb1 : decide (b ≤ n) = false := decide_eq_false (by omega)
              have Tb2 : decide ((b : Int) ≤ (n : Int)) = false := decide_eq_false (by omega)
              have Tb3 : (n : Int) < (b : Int) := by omega
              have Tb4 : n < b := by omega
              have sm := HM.out.ld.small R.length (by have := HM.out.ll;omega)
              by_cases hmn : m < n
              · have Tm1 : decide (m < n) = true := decide_eq_true (by omega)
                have Tm2 : decide ((m : Int) < (n : Int)) = true := decide_eq_true (by omega)
                have Tm3 : (m : Int) < (n : Int) := by omega
                have Tm4 : m < n := by omega
                have HDs : Aside0 (∃ d,Ds = [d] ∧ d.length = s ∧ R.length ≠ 0) := ⟨by
                  have hll := HM.out.ll
                  have hlr := HM.out.lr
                  rcases sm with rfl | ⟨d,rfl,hd⟩
                  · simp at hll;omega
                  · exact ⟨d,rfl,hd,by simp at hll;omega⟩⟩
                obtain ⟨d,rfl,hd,hR0⟩ := HDs.out
                have HD := Aside0.mk hd
                have HR0 := Aside0.mk hR0
                have TW := Aside0.mk (HM.out.two1 hC.ord)
                clear sm hd hR0 HDs
                go_wp2_with (fail)
                refine (sym_merge cf hC blk cap n hn (d.length + R.length + 1) Es.flatten d R [] L a m n _ (by omega) H.out HM.out.len TW.out.1 TW.out.2 HM.out.la (by have := HD.out;omega) (by have := HM.out.ll;have := HD.out;simp at *;omega) (by have := HD.out;omega) HR0.out).mono ?_
                rintro e w1 ⟨rfl,⟨C,h1,h2,h3⟩,hg⟩
                have HN := Aside0.mk (HM.out.last1 h2 h3)
                have R3 := Aside0.mk h1
                have G3 := Aside0.mk (only_trans HG.out hg)
                clear h1 h2 h3 hg H HG HM TW
                go_wp2_with (fail)
                go_roundw
                case rel => exact ⟨2 * s,_,by go_num,by omega,by omega,HN,R3,G3⟩
                case measure => simp [intOf];omega
              · have Tm1 : decide (m < n) = false := decide_eq_false (by omega)
                have Tm2 : decide ((m : Int) < (n : Int)) = false := decide_eq_false (by omega)
                have Tm3 : (n : Int) ≤ (m : Int) := by omega
                have Tm4 : n ≤ m := by omega
                have HN : Aside0 (OutAt cf X (2 * s) n L) := ⟨by
                  have hll := HM.out.ll
                  rcases sm with rfl | ⟨d,rfl,hd⟩
                  · exact HM.out.last0
                  · have : R = [] := List.length_eq_zero_iff.1 (by simp at hll;omega)
                    subst this
                    exact HM.out.last2⟩
                clear sm HM
                go_wp2_with (fail)
                go_roundw
                case rel => exact ⟨2 * s,_,by go_num,by omega,by omega,HN,H,HG⟩
                case measure => simp [intOf];omega
        · have T1 : decide (s < n) = false := decide_eq_false (by omega)
          have T2 : decide ((s : Int) < (n : Int)) = false := decide_eq_false (by omega)
          have T3 : (n : Int) ≤ (s : Int) := by omega
          have T4 : n ≤ s := by omega
          have HD := Aside0.mk (HO.out.done (by omega) (by omega))
          go_wp2_with (fail)
          go_end0
          exact ⟨rfl,⟨L,H.out,HD.out.1,HD.out.2⟩,HG.out⟩
end Go.Proofs.Ytcenlehfbgnphaa.Z
end
section
namespace Go.Proofs.Ytcenlehfbgnphaa.Z
set_option linter.unusedVariables false
set_option linter.unusedSimpArgs false
open Go.RowKit
def rdF (b : Nat) : Ieee.Datum := FloatKind.f64.format.read b
def ordF (a b : Nat) : Option Ordering := FloatKind.f64.format.order a b
theorem ordF_eq (a b : Nat) : ordF a b = (rdF a).order (rdF b) := rfl
def cls (b : Nat) : Int := match rdF b with
  | .nan _ _ => 0
  | .infinity s => if s then 1 else 6
  | .number s m _ => if m = 0 then (if s then 3 else 4) else (if s then 2 else 5)
def scl (b : Nat) : Int := match rdF b with
  | .number s m i => Ieee.signed s m (i + 1074).toNat
  | _ => 0
theorem sw : Ieee.Format.signWeight Ieee.double = 2 ^ 63 := rfl
theorem bn : Ieee.Format.binade Ieee.double = 2 ^ 52 := rfl
theorem ir : Ieee.Format.infRung Ieee.double = 2047 * 2 ^ 52 := rfl
theorem lp : Ieee.Format.leastPlace Ieee.double = -1074 := by decide
theorem rd_cases (b : Nat) (hb : b < 2 ^ 64) : ∃ (s : Bool) (r : Nat),r < 2 ^ 63 ∧ b = (if s then 2 ^ 63 else 0) + r ∧
    ((r < 2 ^ 52 ∧ rdF b = .number s r (-1074)) ∨ (2 ^ 52 ≤ r ∧ r < 2047 * 2 ^ 52 ∧ rdF b = .number s (2 ^ 52 + r % 2 ^ 52) (-1074 + (r / 2 ^ 52 - 1 : Nat))) ∨ (r = 2047 * 2 ^ 52 ∧ rdF b = .infinity s) ∨ (2047 * 2 ^ 52 < r ∧ ∃ t,rdF b = .nan s t)) := by
  refine ⟨b / 2 ^ 63 % 2 == 1,b % 2 ^ 63,Nat.mod_lt _ (by decide),?_,?_⟩
  · by_cases h : b < 2 ^ 63
    · have e : b / 2 ^ 63 = 0 := Nat.div_eq_of_lt h
      rw [e]
      simp [Nat.mod_eq_of_lt h]
    · have e : b / 2 ^ 63 = 1 := by omega
      rw [e]
      simp
      omega
  · have hr : rdF b = (if b % 2 ^ 63 < 2 ^ 52 then Ieee.Datum.number (b / 2 ^ 63 % 2 == 1) (b % 2 ^ 63) (-1074) else if b % 2 ^ 63 < 2047 * 2 ^ 52 then .number (b / 2 ^ 63 % 2 == 1) (2 ^ 52 + b % 2 ^ 63 % 2 ^ 52) (-1074 + (b % 2 ^ 63 / 2 ^ 52 - 1 : Nat)) else if b % 2 ^ 63 = 2047 * 2 ^ 52 then .infinity (b / 2 ^ 63 % 2 == 1) else .nan (b / 2 ^ 63 % 2 == 1) (b % 2 ^ 63 - 2047 * 2 ^ 52)) := by
      show Ieee.Format.read Ieee.double b = _
      unfold Ieee.Format.read
      simp only [sw,bn,ir,lp]
      rfl
    by_cases h1 : b % 2 ^ 63 < 2 ^ 52
    · rw [if_pos h1] at hr;exact .inl ⟨h1,hr⟩
    · rw [if_neg h1] at hr
      by_cases h2 : b % 2 ^ 63 < 2047 * 2 ^ 52
      · rw [if_pos h2] at hr;exact .inr (.inl ⟨by omega,h2,hr⟩)
      · rw [if_neg h2] at hr
        by_cases h3 : b % 2 ^ 63 = 2047 * 2 ^ 52
        · rw [if_pos h3] at hr;exact .inr (.inr (.inl ⟨h3,hr⟩))
        · rw [if_neg h3] at hr;exact .inr (.inr (.inr ⟨by omega,_,hr⟩))
theorem rd_num {b : Nat} (hb : b < 2 ^ 64) {s : Bool} {m : Nat} {i : Int} (h : rdF b = .number s m i) : -1074 ≤ i ∧ i ≤ 971 ∧ m < 2 ^ 53 ∧ (m = 0 → b = if s then 2 ^ 63 else 0) ∧ (s = true → 2 ^ 63 ≤ b) ∧ (s = false → b < 2 ^ 63) := by
  obtain ⟨s',r,hr,e,h1 | ⟨g0,g1,h2⟩ | ⟨_,h3⟩ | ⟨_,t,h4⟩⟩ := rd_cases b hb
  · rw [h1.2] at h
    injection h with ha hb' hc
    subst ha;subst hb';subst hc
    refine ⟨by omega,by omega,by omega,fun z => by rw [e,z];rfl,fun z => by rw [e,z];simp,fun z => by rw [e,z];simp;omega⟩
  · rw [h2] at h
    injection h with ha hb' hc
    subst ha;subst hb';subst hc
    refine ⟨by omega,by omega,by omega,fun z => by omega,fun z => by rw [e,z];simp,fun z => by rw [e,z];simp;omega⟩
  · rw [h3] at h;cases h
  · rw [h4] at h;cases h
theorem signed_shift (s : Bool) (m a c : Nat) : Ieee.signed s m (a + c) = Ieee.signed s m a * ((2 ^ c : Nat) : Int) := by
  unfold Ieee.signed
  rw [Nat.shiftLeft_eq,Nat.shiftLeft_eq,Nat.pow_add,← Nat.mul_assoc]
  cases s
  · simp only [Bool.false_eq_true,if_false];rw [Int.natCast_mul]
  · simp only [if_true];rw [Int.natCast_mul,Int.neg_mul]
def cmpI (x y : Int) : Ordering := if x < y then .lt else if x = y then .eq else .gt
theorem compare_int (x y : Int) : compare x y = cmpI x y := rfl
theorem cmpI_mul (x y p : Int) (hp : 0 < p) : cmpI (x * p) (y * p) = cmpI x y := by
  unfold cmpI
  have h1 : x * p < y * p ↔ x < y := ⟨fun h => Int.lt_of_mul_lt_mul_right h (Int.le_of_lt hp),fun h => Int.mul_lt_mul_of_pos_right h hp⟩
  have h2 : x * p = y * p ↔ x = y := ⟨fun h => Int.eq_of_mul_eq_mul_right (by omega) h,fun h => by rw [h]⟩
  simp only [h1,h2]
theorem ord_num {a b : Nat} (ha : a < 2 ^ 64) (hb : b < 2 ^ 64) {s t : Bool} {m n : Nat} {i j : Int} (h1 : rdF a = .number s m i) (h2 : rdF b = .number t n j) : ordF a b = some (cmpI (scl a) (scl b)) := by
  obtain ⟨p0,_⟩ := rd_num ha h1
  obtain ⟨q0,_⟩ := rd_num hb h2
  rw [ordF_eq,h1,h2]
  unfold scl
  rw [h1,h2]
  simp only [Ieee.Datum.order]
  rw [compare_int]
  have e1 : (i + 1074).toNat = (i - min i j).toNat + (min i j + 1074).toNat := by omega
  have e2 : (j + 1074).toNat = (j - min i j).toNat + (min i j + 1074).toNat := by omega
  rw [e1,e2,signed_shift,signed_shift,cmpI_mul _ _ _ (by have := Nat.two_pow_pos (min i j + 1074).toNat;omega)]
theorem rd_zero : rdF 0 = .number false 0 (-1074) := by decide +kernel
theorem rd_max : rdF 9218868437227405311 = .number false (2 ^ 53 - 1) 971 := by decide +kernel
theorem rd_nmax : rdF 18442240474082181119 = .number true (2 ^ 53 - 1) 971 := by decide +kernel
def pw : Nat := 2045
theorem pw_val : pw = 2045 := rfl
def mxN : Nat := 9007199254740991 * 2 ^ pw
theorem scl_zero : scl 0 = 0 := by unfold scl;rw [rd_zero];rfl
theorem scl_of {b : Nat} {s : Bool} {m : Nat} {i : Int} (h : rdF b = .number s m i) : scl b = if s then -((m * 2 ^ (i + 1074).toNat : Nat) : Int) else ((m * 2 ^ (i + 1074).toNat : Nat) : Int) := by
  unfold scl
  rw [h]
  simp only [Ieee.signed,Nat.shiftLeft_eq]
theorem e971 : ((971 : Int) + 1074).toNat = pw := rfl
theorem scl_max : scl 9218868437227405311 = (mxN : Int) := by
  rw [scl_of rd_max,e971]
  generalize hp : pw = q
  unfold mxN
  rw [hp]
  rfl
theorem scl_nmax : scl 18442240474082181119 = -(mxN : Int) := by
  rw [scl_of rd_nmax,e971]
  generalize hp : pw = q
  unfold mxN
  rw [hp]
  rfl
theorem scl_num {b : Nat} (hb : b < 2 ^ 64) {s : Bool} {m : Nat} {i : Int} (h : rdF b = .number s m i) : (m = 0 → scl b = 0) ∧ (m ≠ 0 → s = true → scl b < 0) ∧ (m ≠ 0 → s = false → 0 < scl b) ∧ -(mxN : Int) ≤ scl b ∧ scl b ≤ (mxN : Int) := by
  obtain ⟨p0,p1,p2,_⟩ := rd_num hb h
  have hu : (i + 1074).toNat ≤ pw := by have := pw_val;omega
  have hv := scl_of h
  generalize (i + 1074).toNat = u at *
  have hm : m * 2 ^ u ≤ mxN := Nat.mul_le_mul (by omega) (Nat.pow_le_pow_right (by decide) hu)
  have hp : m ≠ 0 → 0 < m * 2 ^ u := fun hz => Nat.mul_pos (by omega) (Nat.two_pow_pos _)
  have h0 : m = 0 → m * 2 ^ u = 0 := fun z => by rw [z,Nat.zero_mul]
  generalize m * 2 ^ u = x at *
  generalize mxN = y at *
  generalize scl b = v at *
  cases s with
  | false =>
    rw [if_neg Bool.false_ne_true] at hv
    refine ⟨fun z => ?_,fun _ c => ?_,fun z _ => ?_,?_,?_⟩
    · have := h0 z;omega
    · cases c
    · have := hp z;omega
    · omega
    · omega
  | true =>
    rw [if_pos rfl] at hv
    refine ⟨fun z => ?_,fun z _ => ?_,fun _ c => ?_,?_,?_⟩
    · have := h0 z;omega
    · have := hp z;omega
    · cases c
    · omega
    · omega
inductive Kind (b : Nat) : Prop where
  | nan (t : Bool) (f : Nat) (h : rdF b = .nan t f) (c : cls b = 0) : Kind b
  | inf (s : Bool) (h : rdF b = .infinity s) (c : cls b = if s then 1 else 6) (z : scl b = 0) : Kind b
  | neg (m : Nat) (i : Int) (h : rdF b = .number true m i) (c : cls b = 2) (z : scl b < 0) : Kind b
  | zero (s : Bool) (i : Int) (h : rdF b = .number s 0 i) (c : cls b = if s then 3 else 4) (z : scl b = 0) (w : b = if s then 2 ^ 63 else 0) : Kind b
  | pos (m : Nat) (i : Int) (h : rdF b = .number false m i) (c : cls b = 5) (z : 0 < scl b) : Kind b
theorem kind_of (b : Nat) (hb : b < 2 ^ 64) : Kind b := by
  have hn : ∀ s m i,rdF b = .number s m i → Kind b := by
    intro s m i h
    obtain ⟨z0,z1,z2,_⟩ := scl_num hb h
    have hc : cls b = if m = 0 then (if s then 3 else 4) else (if s then 2 else 5) := by unfold cls;rw [h]
    by_cases e : m = 0
    · subst e
      exact .zero s i h (by rw [hc];rfl) (z0 rfl) ((rd_num hb h).2.2.2.1 rfl)
    · rw [if_neg e] at hc
      cases s
      · exact .pos m i h hc (z2 e rfl)
      · exact .neg m i h hc (z1 e rfl)
  obtain ⟨s,r,hr,e,h1 | ⟨g0,g1,h2⟩ | ⟨_,h3⟩ | ⟨_,t,h4⟩⟩ := rd_cases b hb
  · exact hn _ _ _ h1.2
  · exact hn _ _ _ h2
  · exact .inf s h3 (by unfold cls;rw [h3]) (by unfold scl;rw [h3])
  · exact .nan s t h4 (by unfold cls;rw [h4])
theorem ord_inf_num {a b : Nat} {s : Bool} {t : Bool} {n : Nat} {j : Int} (h1 : rdF a = .infinity s) (h2 : rdF b = .number t n j) : ordF a b = some (if s then .lt else .gt) := by rw [ordF_eq,h1,h2];rfl
theorem ord_nan {a b : Nat} {t : Bool} {f : Nat} (h1 : rdF a = .nan t f) : ordF a b = none := by rw [ordF_eq,h1];rfl
theorem ord_inf_inf {a b : Nat} {s t : Bool} (h1 : rdF a = .infinity s) (h2 : rdF b = .infinity t) : ordF a b = some (compare t.toNat s.toNat) := by rw [ordF_eq,h1,h2];rfl
theorem c0 : (0 : Nat) < 2 ^ 64 := by decide
theorem cM : 9218868437227405311 < 2 ^ 64 := by decide
theorem cN : 18442240474082181119 < 2 ^ 64 := by decide
structure Tests (b : Nat) : Prop where
  nan : (ordF b b == some .eq) = !decide (cls b = 0)
  lt0 : (ordF b 0 == some .lt) = decide (cls b = 1 ∨ cls b = 2)
  gt0 : (ordF b 0 == some .gt) = decide (cls b = 5 ∨ cls b = 6)
  gtM : (ordF b 9218868437227405311 == some .gt) = decide (cls b = 6)
  ltN : (ordF b 18442240474082181119 == some .lt) = decide (cls b = 1)
  bit : cls b = 3 ∨ cls b = 4 → b = if cls b = 3 then 2 ^ 63 else 0
  lo : 0 ≤ cls b
  hi : cls b ≤ 6
theorem cmpI_lt {x y : Int} : (some (cmpI x y) == some Ordering.lt) = decide (x < y) := by
  unfold cmpI
  by_cases h : x < y
  · rw [if_pos h,decide_eq_true h];rfl
  · rw [if_neg h,decide_eq_false h];split <;> rfl
theorem cmpI_gt {x y : Int} : (some (cmpI x y) == some Ordering.gt) = decide (y < x) := by
  unfold cmpI
  by_cases h : x < y
  · rw [if_pos h,decide_eq_false (by omega)];rfl
  · rw [if_neg h]
    by_cases e : x = y
    · rw [if_pos e,decide_eq_false (by omega)];rfl
    · rw [if_neg e,decide_eq_true (by omega)];rfl
theorem cmpI_self (x : Int) : (some (cmpI x x) == some Ordering.eq) = true := by
  unfold cmpI
  rw [if_neg (by omega),if_pos rfl];rfl
theorem tests_of (b : Nat) (hb : b < 2 ^ 64) : Tests b := by
  have num : ∀ s m i,rdF b = .number s m i → ordF b b = some (cmpI (scl b) (scl b)) ∧ ordF b 0 = some (cmpI (scl b) 0) ∧ ordF b 9218868437227405311 = some (cmpI (scl b) (mxN : Int)) ∧ ordF b 18442240474082181119 = some (cmpI (scl b) (-(mxN : Int))) ∧ -(mxN : Int) ≤ scl b ∧ scl b ≤ (mxN : Int) := by
    intro s m i h
    have h1 := ord_num hb hb h h
    have h2 := ord_num hb c0 h rd_zero
    have h3 := ord_num hb cM h rd_max
    have h4 := ord_num hb cN h rd_nmax
    rw [scl_zero] at h2
    rw [scl_max] at h3
    rw [scl_nmax] at h4
    exact ⟨h1,h2,h3,h4,(scl_num hb h).2.2.2⟩
  cases kind_of b hb with
  | nan t f h c =>
    refine ⟨?_,?_,?_,?_,?_,?_,?_,?_⟩ <;> (try rw [ord_nan h]) <;> rw [c] <;> first | decide | (intro q;omega)
  | inf s h c z =>
    have e0 : ordF b 0 = some (if s then .lt else .gt) := ord_inf_num h rd_zero
    have e1 : ordF b 9218868437227405311 = some (if s then .lt else .gt) := ord_inf_num h rd_max
    have e2 : ordF b 18442240474082181119 = some (if s then .lt else .gt) := ord_inf_num h rd_nmax
    have e3 := ord_inf_inf h h
    cases s
    · refine ⟨?_,?_,?_,?_,?_,?_,?_,?_⟩ <;> (try rw [e0]) <;> (try rw [e1]) <;> (try rw [e2]) <;> (try rw [e3]) <;> rw [c] <;> first | decide | (intro q;simp at q)
    · refine ⟨?_,?_,?_,?_,?_,?_,?_,?_⟩ <;> (try rw [e0]) <;> (try rw [e1]) <;> (try rw [e2]) <;> (try rw [e3]) <;> rw [c] <;> first | decide | (intro q;simp at q)
  | neg m i h c z =>
    obtain ⟨h1,h2,h3,h4,g0,g1⟩ := num _ _ _ h
    refine ⟨?_,?_,?_,?_,?_,?_,?_,?_⟩
    · rw [h1,cmpI_self,c];rfl
    · rw [h2,cmpI_lt,c,decide_eq_true z];rfl
    · rw [h2,cmpI_gt,c,decide_eq_false (by omega)];rfl
    · rw [h3,cmpI_gt,c,decide_eq_false (by omega)];rfl
    · rw [h4,cmpI_lt,c,decide_eq_false (by omega)];rfl
    · rw [c];intro q;omega
    · rw [c];decide
    · rw [c];decide
  | zero s i h c z w =>
    obtain ⟨h1,h2,h3,h4,g0,g1⟩ := num _ _ _ h
    have hm : (0 : Int) ≤ (mxN : Int) := by omega
    have cc : cls b = 3 ∨ cls b = 4 := by rw [c];cases s <;> decide
    refine ⟨?_,?_,?_,?_,?_,?_,?_,?_⟩
    · rw [h1,cmpI_self,decide_eq_false (by omega)];rfl
    · rw [h2,cmpI_lt,decide_eq_false (by omega),decide_eq_false (by omega)]
    · rw [h2,cmpI_gt,decide_eq_false (by omega),decide_eq_false (by omega)]
    · rw [h3,cmpI_gt,decide_eq_false (by omega),decide_eq_false (by omega)]
    · rw [h4,cmpI_lt,decide_eq_false (by omega),decide_eq_false (by omega)]
    · intro _;rw [c,w];cases s <;> rfl
    · omega
    · omega
  | pos m i h c z =>
    obtain ⟨h1,h2,h3,h4,g0,g1⟩ := num _ _ _ h
    refine ⟨?_,?_,?_,?_,?_,?_,?_,?_⟩
    · rw [h1,cmpI_self,c];rfl
    · rw [h2,cmpI_lt,c,decide_eq_false (by omega)];rfl
    · rw [h2,cmpI_gt,c,decide_eq_true z];rfl
    · rw [h3,cmpI_gt,c,decide_eq_false (by omega)];rfl
    · rw [h4,cmpI_lt,c,decide_eq_false (by omega)];rfl
    · rw [c];intro q;omega
    · rw [c];decide
    · rw [c];decide
theorem ord_same {a b : Nat} (ha : a < 2 ^ 64) (hb : b < 2 ^ 64) (h : cls a = cls b) : (ordF a b == some .lt) = decide (cls a ≠ 0 ∧ scl a < scl b) ∧ (ordF a b == some .gt) = decide (cls a ≠ 0 ∧ scl b < scl a) := by
  have fin : ∀ s m i t n j,rdF a = .number s m i → rdF b = .number t n j → cls a ≠ 0 → (ordF a b == some .lt) = decide (cls a ≠ 0 ∧ scl a < scl b) ∧ (ordF a b == some .gt) = decide (cls a ≠ 0 ∧ scl b < scl a) := by
    intro s m i t n j h1 h2 h3
    rw [ord_num ha hb h1 h2,cmpI_lt,cmpI_gt,decide_eq_decide,decide_eq_decide]
    exact ⟨⟨fun q => ⟨h3,q⟩,fun q => q.2⟩,⟨fun q => ⟨h3,q⟩,fun q => q.2⟩⟩
  cases kind_of a ha with
  | nan t f h1 c => rw [ord_nan h1,c];simp
  | inf s h1 c z =>
    cases kind_of b hb with
    | inf t h2 c' z' =>
      have : s = t := by cases s <;> cases t <;> simp_all
      subst this
      rw [ord_inf_inf h1 h2,z,z']
      cases s <;> simp <;> decide
    | nan t f h2 c' => exfalso;rw [c,c'] at h;cases s <;> simp at h
    | neg m i h2 c' z' => exfalso;rw [c,c'] at h;cases s <;> simp at h
    | zero t i h2 c' z' w' => exfalso;rw [c,c'] at h;cases s <;> cases t <;> simp at h
    | pos m i h2 c' z' => exfalso;rw [c,c'] at h;cases s <;> simp at h
  | neg m i h1 c z =>
    cases kind_of b hb with
    | inf t h2 c' z' => exfalso;rw [c,c'] at h;cases t <;> simp at h
    | nan t f h2 c' => exfalso;rw [c,c'] at h;simp at h
    | neg m i h2 c' z' => exact fin _ _ _ _ _ _ h1 h2 (by omega)
    | zero t i h2 c' z' w' => exact fin _ _ _ _ _ _ h1 h2 (by omega)
    | pos m i h2 c' z' => exact fin _ _ _ _ _ _ h1 h2 (by omega)
  | zero s i h1 c z w =>
    have cc : cls a = 3 ∨ cls a = 4 := by rw [c];cases s <;> decide
    cases kind_of b hb with
    | inf t h2 c' z' => exfalso;rw [c'] at h;cases t <;> simp at h <;> omega
    | nan t f h2 c' => exfalso;omega
    | neg m i h2 c' z' => exact fin _ _ _ _ _ _ h1 h2 (by omega)
    | zero t i h2 c' z' w' => exact fin _ _ _ _ _ _ h1 h2 (by omega)
    | pos m i h2 c' z' => exact fin _ _ _ _ _ _ h1 h2 (by omega)
  | pos m i h1 c z =>
    cases kind_of b hb with
    | inf t h2 c' z' => exfalso;rw [c,c'] at h;cases t <;> simp at h
    | nan t f h2 c' => exfalso;rw [c,c'] at h;simp at h
    | neg m i h2 c' z' => exact fin _ _ _ _ _ _ h1 h2 (by omega)
    | zero t i h2 c' z' w' => exact fin _ _ _ _ _ _ h1 h2 (by omega)
    | pos m i h2 c' z' => exact fin _ _ _ _ _ _ h1 h2 (by omega)
def cmpF (a b : Nat) : Int := if cls a < cls b then -1 else if cls b < cls a then 1 else if cls a = 0 then 0 else if scl a < scl b then -1 else if scl b < scl a then 1 else 0
theorem cmpF_self (a : Nat) : cmpF a a = 0 := by unfold cmpF;simp
theorem cmpF_anti (a b : Nat) : cmpF b a = -cmpF a b := by
  unfold cmpF
  repeat' split
  all_goals omega
theorem cmpF_trans (a b c : Nat) (h1 : cmpF a b ≤ 0) (h2 : cmpF b c ≤ 0) : cmpF a c ≤ 0 := by
  unfold cmpF at *
  repeat' split at h1
  all_goals (repeat' split at h2)
  all_goals (repeat' split)
  all_goals omega
def ngF (b : Nat) : Nat := Op.negFloat .f64 b
theorem xor_top {b : Nat} (hb : b < 2 ^ 63) : b ^^^ 2 ^ 63 = 2 ^ 63 + b := by
  have e : 2 ^ 63 + b = 2 ^ 63 ||| b := by
    have := Nat.two_pow_add_eq_or_of_lt hb 1
    rwa [Nat.mul_one] at this
  rw [e]
  apply Nat.eq_of_testBit_eq
  intro j
  rw [Nat.testBit_xor,Nat.testBit_or,Nat.testBit_two_pow]
  by_cases h : 63 = j
  · subst h
    rw [Nat.testBit_lt_two_pow hb]
    rfl
  · rw [decide_eq_false h]
    simp
theorem ng_val (b : Nat) (hb : b < 2 ^ 64) : ngF b = if b < 2 ^ 63 then 2 ^ 63 + b else b - 2 ^ 63 := by
  show b ^^^ 2 ^ 63 = _
  by_cases h : b < 2 ^ 63
  · rw [if_pos h,xor_top h]
  · rw [if_neg h]
    have e := xor_top (b := b - 2 ^ 63) (by omega)
    have e2 : 2 ^ 63 + (b - 2 ^ 63) = b := by omega
    rw [e2] at e
    have e3 : b ^^^ 2 ^ 63 = ((b - 2 ^ 63) ^^^ 2 ^ 63) ^^^ 2 ^ 63 := by rw [e]
    rw [e3,Nat.xor_assoc,Nat.xor_self,Nat.xor_zero]
theorem ng_lt (b : Nat) (hb : b < 2 ^ 64) : ngF b < 2 ^ 64 := by rw [ng_val b hb];split <;> omega
theorem cls_inf (b : Nat) (hb : b < 2 ^ 64) : (cls b = 6 ↔ b = 2047 * 2 ^ 52) ∧ (cls b = 1 ↔ b = 2 ^ 63 + 2047 * 2 ^ 52) := by
  have num : ∀ s m i,rdF b = .number s m i → cls b ≠ 6 ∧ cls b ≠ 1 := by
    intro s m i h
    unfold cls
    rw [h]
    simp only
    split <;> split <;> decide
  obtain ⟨s,r,hr,e,h1 | ⟨g0,g1,h2⟩ | ⟨g3,h3⟩ | ⟨g4,t,h4⟩⟩ := rd_cases b hb
  · obtain ⟨n1,n2⟩ := num _ _ _ h1.2
    have := h1.1
    refine ⟨⟨fun q => absurd q n1,fun q => ?_⟩,⟨fun q => absurd q n2,fun q => ?_⟩⟩ <;> exfalso <;> cases s <;> simp at e <;> omega
  · obtain ⟨n1,n2⟩ := num _ _ _ h2
    refine ⟨⟨fun q => absurd q n1,fun q => ?_⟩,⟨fun q => absurd q n2,fun q => ?_⟩⟩ <;> exfalso <;> cases s <;> simp at e <;> omega
  · have hc : cls b = if s then 1 else 6 := by unfold cls;rw [h3]
    rw [hc,e,g3]
    cases s <;> simp
  · have hc : cls b = 0 := by unfold cls;rw [h4]
    rw [hc]
    refine ⟨⟨fun q => by omega,fun q => ?_⟩,⟨fun q => by omega,fun q => ?_⟩⟩ <;> exfalso <;> cases s <;> simp at e <;> omega
theorem t_ninf (b : Nat) (hb : b < 2 ^ 64) : (ordF (ngF b) 9218868437227405311 == some .gt) = decide (cls b = 1) := by
  rw [(tests_of (ngF b) (ng_lt b hb)).gtM,decide_eq_decide,(cls_inf b hb).2,(cls_inf (ngF b) (ng_lt b hb)).1,ng_val b hb]
  split <;> omega
end Go.Proofs.Ytcenlehfbgnphaa.Z
end
section
namespace Go.Proofs.Ytcenlehfbgnphaa.Z
set_option linter.unusedVariables false
set_option linter.unusedSimpArgs false
open Go.RowKit Go.Proofs.YtcenlehfbgnphaaW.PrintWords Go.Proofs.YtcenlehfbgnphaaW.PrintLast Go.Proofs.YtcenlehfbgnphaaW.PrintMore
theorem f64bits (b : Nat) (w : World) : (callFunc 68 #[.float .f64 b]).run Try.prog w = .ok (.value (.int .u64 (b : Int))) w := by
  kernel_rfl
theorem T_nan {b : Nat} (T : Tests b) : (FloatKind.f64.format.order b b != some Ordering.eq) = decide (cls b = 0) := by
  have h := T.nan
  unfold ordF at h
  rw [bne,h,Bool.not_not]
set_option maxHeartbeats 2000000 in
set_option maxRecDepth 100000 in
theorem class0 (b : Nat) (w : World) (h0 : (FloatKind.f64.format.order b b != some Ordering.eq) = true) : Calls Try.prog 32 #[.float .f64 b] w fun e w' => e = .returned (.int .i64 0) ∧ w = w' := by
  have hng : ∀ w : World,(Op.unary UnOp.neg (Value.float FloatKind.f64 b)).run Try.prog w = .ok (.float .f64 (ngF b)) w := fun _ => rfl
  have hbt := f64bits b
  go_enter Try.func32,Try.ntmps32
  go_wp2
  go_ret
  exact ⟨rfl,rfl⟩
set_option maxHeartbeats 2000000 in
set_option maxRecDepth 100000 in
theorem class1 (b : Nat) (w : World) (h0 : (FloatKind.f64.format.order b b != some Ordering.eq) = false) (h1 : (FloatKind.f64.format.order (ngF b) 9218868437227405311 == some Ordering.gt) = true) : Calls Try.prog 32 #[.float .f64 b] w fun e w' => e = .returned (.int .i64 1) ∧ w = w' := by
  have hng : ∀ w : World,(Op.unary UnOp.neg (Value.float FloatKind.f64 b)).run Try.prog w = .ok (.float .f64 (ngF b)) w := fun _ => rfl
  have hbt := f64bits b
  go_enter Try.func32,Try.ntmps32
  go_wp2
  go_ret
  exact ⟨rfl,rfl⟩
set_option maxHeartbeats 2000000 in
set_option maxRecDepth 100000 in
theorem class6 (b : Nat) (w : World) (h0 : (FloatKind.f64.format.order b b != some Ordering.eq) = false) (h1 : (FloatKind.f64.format.order (ngF b) 9218868437227405311 == some Ordering.gt) = false) (h2 : (FloatKind.f64.format.order b 9218868437227405311 == some Ordering.gt) = true) : Calls Try.prog 32 #[.float .f64 b] w fun e w' => e = .returned (.int .i64 6) ∧ w = w' := by
  have hng : ∀ w : World,(Op.unary UnOp.neg (Value.float FloatKind.f64 b)).run Try.prog w = .ok (.float .f64 (ngF b)) w := fun _ => rfl
  have hbt := f64bits b
  go_enter Try.func32,Try.ntmps32
  go_wp2
  go_ret
  exact ⟨rfl,rfl⟩
set_option maxHeartbeats 2000000 in
set_option maxRecDepth 100000 in
theorem class2 (b : Nat) (w : World) (h0 : (FloatKind.f64.format.order b b != some Ordering.eq) = false) (h1 : (FloatKind.f64.format.order (ngF b) 9218868437227405311 == some Ordering.gt) = false) (h2 : (FloatKind.f64.format.order b 9218868437227405311 == some Ordering.gt) = false) (h3 : (FloatKind.f64.format.order b 0 == some Ordering.lt) = true) : Calls Try.prog 32 #[.float .f64 b] w fun e w' => e = .returned (.int .i64 2) ∧ w = w' := by
  have hng : ∀ w : World,(Op.unary UnOp.neg (Value.float FloatKind.f64 b)).run Try.prog w = .ok (.float .f64 (ngF b)) w := fun _ => rfl
  have hbt := f64bits b
  go_enter Try.func32,Try.ntmps32
  go_wp2
  go_ret
  exact ⟨rfl,rfl⟩
set_option maxHeartbeats 2000000 in
set_option maxRecDepth 100000 in
theorem class5 (b : Nat) (w : World) (h0 : (FloatKind.f64.format.order b b != some Ordering.eq) = false) (h1 : (FloatKind.f64.format.order (ngF b) 9218868437227405311 == some Ordering.gt) = false) (h2 : (FloatKind.f64.format.order b 9218868437227405311 == some Ordering.gt) = false) (h3 : (FloatKind.f64.format.order b 0 == some Ordering.lt) = false) (h4 : (FloatKind.f64.format.order b 0 == some Ordering.gt) = true) : Calls Try.prog 32 #[.float .f64 b] w fun e w' => e = .returned (.int .i64 5) ∧ w = w' := by
  have hng : ∀ w : World,(Op.unary UnOp.neg (Value.float FloatKind.f64 b)).run Try.prog w = .ok (.float .f64 (ngF b)) w := fun _ => rfl
  have hbt := f64bits b
  go_enter Try.func32,Try.ntmps32
  go_wp2
  go_ret
  exact ⟨rfl,rfl⟩
set_option maxHeartbeats 2000000 in
set_option maxRecDepth 100000 in
theorem class3 (b : Nat) (w : World) (h0 : (FloatKind.f64.format.order b b != some Ordering.eq) = false) (h1 : (FloatKind.f64.format.order (ngF b) 9218868437227405311 == some Ordering.gt) = false) (h2 : (FloatKind.f64.format.order b 9218868437227405311 == some Ordering.gt) = false) (h3 : (FloatKind.f64.format.order b 0 == some Ordering.lt) = false) (h4 : (FloatKind.f64.format.order b 0 == some Ordering.gt) = false) (h5 : decide (wrap64 (b : Int) < 0) = true) : Calls Try.prog 32 #[.float .f64 b] w fun e w' => e = .returned (.int .i64 3) ∧ w = w' := by
  have hng : ∀ w : World,(Op.unary UnOp.neg (Value.float FloatKind.f64 b)).run Try.prog w = .ok (.float .f64 (ngF b)) w := fun _ => rfl
  have hbt := f64bits b
  go_enter Try.func32,Try.ntmps32
  go_wp2
  go_ret
  exact ⟨rfl,rfl⟩
set_option maxHeartbeats 2000000 in
set_option maxRecDepth 100000 in
theorem class4 (b : Nat) (w : World) (h0 : (FloatKind.f64.format.order b b != some Ordering.eq) = false) (h1 : (FloatKind.f64.format.order (ngF b) 9218868437227405311 == some Ordering.gt) = false) (h2 : (FloatKind.f64.format.order b 9218868437227405311 == some Ordering.gt) = false) (h3 : (FloatKind.f64.format.order b 0 == some Ordering.lt) = false) (h4 : (FloatKind.f64.format.order b 0 == some Ordering.gt) = false) (h5 : decide (wrap64 (b : Int) < 0) = false) : Calls Try.prog 32 #[.float .f64 b] w fun e w' => e = .returned (.int .i64 4) ∧ w = w' := by
  have hng : ∀ w : World,(Op.unary UnOp.neg (Value.float FloatKind.f64 b)).run Try.prog w = .ok (.float .f64 (ngF b)) w := fun _ => rfl
  have hbt := f64bits b
  go_enter Try.func32,Try.ntmps32
  go_wp2
  go_ret
  exact ⟨rfl,rfl⟩
set_option maxHeartbeats 2000000 in
set_option maxRecDepth 100000 in
theorem rclass0 (b : Nat) (w : World) (h0 : (FloatKind.f64.format.order b b != some Ordering.eq) = true) : Calls Try.prog 33 #[.float .f64 b] w fun e w' => e = .returned (.int .i64 0) ∧ w = w' := by
  have hng : ∀ w : World,(Op.unary UnOp.neg (Value.float FloatKind.f64 b)).run Try.prog w = .ok (.float .f64 (ngF b)) w := fun _ => rfl
  have hbt := f64bits b
  go_enter Try.func33,Try.ntmps33
  go_wp2
  go_ret
  exact ⟨rfl,rfl⟩
set_option maxHeartbeats 2000000 in
set_option maxRecDepth 100000 in
theorem rclass1 (b : Nat) (w : World) (h0 : (FloatKind.f64.format.order b b != some Ordering.eq) = false) (h1 : (FloatKind.f64.format.order b 18442240474082181119 == some Ordering.lt) = true) : Calls Try.prog 33 #[.float .f64 b] w fun e w' => e = .returned (.int .i64 1) ∧ w = w' := by
  have hng : ∀ w : World,(Op.unary UnOp.neg (Value.float FloatKind.f64 b)).run Try.prog w = .ok (.float .f64 (ngF b)) w := fun _ => rfl
  have hbt := f64bits b
  go_enter Try.func33,Try.ntmps33
  go_wp2
  go_ret
  exact ⟨rfl,rfl⟩
set_option maxHeartbeats 2000000 in
set_option maxRecDepth 100000 in
theorem rclass2 (b : Nat) (w : World) (h0 : (FloatKind.f64.format.order b b != some Ordering.eq) = false) (h1 : (FloatKind.f64.format.order b 18442240474082181119 == some Ordering.lt) = false) (h2 : (FloatKind.f64.format.order b 0 == some Ordering.lt) = true) : Calls Try.prog 33 #[.float .f64 b] w fun e w' => e = .returned (.int .i64 2) ∧ w = w' := by
  have hng : ∀ w : World,(Op.unary UnOp.neg (Value.float FloatKind.f64 b)).run Try.prog w = .ok (.float .f64 (ngF b)) w := fun _ => rfl
  have hbt := f64bits b
  go_enter Try.func33,Try.ntmps33
  go_wp2
  go_ret
  exact ⟨rfl,rfl⟩
set_option maxHeartbeats 2000000 in
set_option maxRecDepth 100000 in
theorem rclass6 (b : Nat) (w : World) (h0 : (FloatKind.f64.format.order b b != some Ordering.eq) = false) (h1 : (FloatKind.f64.format.order b 18442240474082181119 == some Ordering.lt) = false) (h2 : (FloatKind.f64.format.order b 0 == some Ordering.lt) = false) (h3 : (FloatKind.f64.format.order b 9218868437227405311 == some Ordering.gt) = true) : Calls Try.prog 33 #[.float .f64 b] w fun e w' => e = .returned (.int .i64 6) ∧ w = w' := by
  have hng : ∀ w : World,(Op.unary UnOp.neg (Value.float FloatKind.f64 b)).run Try.prog w = .ok (.float .f64 (ngF b)) w := fun _ => rfl
  have hbt := f64bits b
  go_enter Try.func33,Try.ntmps33
  go_wp2
  go_ret
  exact ⟨rfl,rfl⟩
set_option maxHeartbeats 2000000 in
set_option maxRecDepth 100000 in
theorem rclass5 (b : Nat) (w : World) (h0 : (FloatKind.f64.format.order b b != some Ordering.eq) = false) (h1 : (FloatKind.f64.format.order b 18442240474082181119 == some Ordering.lt) = false) (h2 : (FloatKind.f64.format.order b 0 == some Ordering.lt) = false) (h3 : (FloatKind.f64.format.order b 9218868437227405311 == some Ordering.gt) = false) (h4 : (FloatKind.f64.format.order b 0 == some Ordering.gt) = true) : Calls Try.prog 33 #[.float .f64 b] w fun e w' => e = .returned (.int .i64 5) ∧ w = w' := by
  have hng : ∀ w : World,(Op.unary UnOp.neg (Value.float FloatKind.f64 b)).run Try.prog w = .ok (.float .f64 (ngF b)) w := fun _ => rfl
  have hbt := f64bits b
  go_enter Try.func33,Try.ntmps33
  go_wp2
  go_ret
  exact ⟨rfl,rfl⟩
set_option maxHeartbeats 2000000 in
set_option maxRecDepth 100000 in
theorem rclass3 (b : Nat) (w : World) (h0 : (FloatKind.f64.format.order b b != some Ordering.eq) = false) (h1 : (FloatKind.f64.format.order b 18442240474082181119 == some Ordering.lt) = false) (h2 : (FloatKind.f64.format.order b 0 == some Ordering.lt) = false) (h3 : (FloatKind.f64.format.order b 9218868437227405311 == some Ordering.gt) = false) (h4 : (FloatKind.f64.format.order b 0 == some Ordering.gt) = false) (h5 : ((b : Int) != 0) = true) : Calls Try.prog 33 #[.float .f64 b] w fun e w' => e = .returned (.int .i64 3) ∧ w = w' := by
  have hng : ∀ w : World,(Op.unary UnOp.neg (Value.float FloatKind.f64 b)).run Try.prog w = .ok (.float .f64 (ngF b)) w := fun _ => rfl
  have hbt := f64bits b
  go_enter Try.func33,Try.ntmps33
  go_wp2
  go_ret
  exact ⟨rfl,rfl⟩
set_option maxHeartbeats 2000000 in
set_option maxRecDepth 100000 in
theorem rclass4 (b : Nat) (w : World) (h0 : (FloatKind.f64.format.order b b != some Ordering.eq) = false) (h1 : (FloatKind.f64.format.order b 18442240474082181119 == some Ordering.lt) = false) (h2 : (FloatKind.f64.format.order b 0 == some Ordering.lt) = false) (h3 : (FloatKind.f64.format.order b 9218868437227405311 == some Ordering.gt) = false) (h4 : (FloatKind.f64.format.order b 0 == some Ordering.gt) = false) (h5 : ((b : Int) != 0) = false) : Calls Try.prog 33 #[.float .f64 b] w fun e w' => e = .returned (.int .i64 4) ∧ w = w' := by
  have hng : ∀ w : World,(Op.unary UnOp.neg (Value.float FloatKind.f64 b)).run Try.prog w = .ok (.float .f64 (ngF b)) w := fun _ => rfl
  have hbt := f64bits b
  go_enter Try.func33,Try.ntmps33
  go_wp2
  go_ret
  exact ⟨rfl,rfl⟩
theorem T1 {b : Nat} (hb : b < 2 ^ 64) : (FloatKind.f64.format.order (ngF b) 9218868437227405311 == some Ordering.gt) = decide (cls b = 1) := t_ninf b hb
theorem T2 {b : Nat} (T : Tests b) : (FloatKind.f64.format.order b 9218868437227405311 == some Ordering.gt) = decide (cls b = 6) := T.gtM
theorem T3 {b : Nat} (T : Tests b) : (FloatKind.f64.format.order b 0 == some Ordering.lt) = decide (cls b = 1 ∨ cls b = 2) := T.lt0
theorem T4 {b : Nat} (T : Tests b) : (FloatKind.f64.format.order b 0 == some Ordering.gt) = decide (cls b = 5 ∨ cls b = 6) := T.gt0
theorem T5 {b : Nat} (T : Tests b) : (FloatKind.f64.format.order b 18442240474082181119 == some Ordering.lt) = decide (cls b = 1) := T.ltN
theorem T6 {b : Nat} (hb : b < 2 ^ 64) (T : Tests b) (h : cls b = 3 ∨ cls b = 4) : decide (wrap64 (b : Int) < 0) = decide (cls b = 3) := by
  have e := T.bit h
  rw [decide_eq_decide]
  by_cases c : cls b = 3
  · rw [if_pos c] at e
    refine ⟨fun _ => c,fun _ => ?_⟩
    rw [e]
    decide +kernel
  · rw [if_neg c] at e
    refine ⟨fun q => ?_,fun q => absurd q c⟩
    rw [e] at q
    exact absurd q (by decide +kernel)
theorem T7 {b : Nat} (T : Tests b) (h : cls b = 3 ∨ cls b = 4) : ((b : Int) != 0) = decide (cls b = 3) := by
  have e := T.bit h
  by_cases c : cls b = 3
  · rw [if_pos c] at e
    rw [decide_eq_true c,e]
    decide
  · rw [if_neg c] at e
    rw [decide_eq_false c,e]
    decide
theorem rate_class (b : Nat) (hb : b < 2 ^ 64) (w : World) : Calls Try.prog 32 #[.float .f64 b] w fun e w' => e = .returned (.int .i64 (cls b)) ∧ w = w' := by
  have T := tests_of b hb
  have t0 := T_nan T
  have t1 := T1 hb
  have t2 := T2 T
  have t3 := T3 T
  have t4 := T4 T
  have t6 := T6 hb T
  have lo := T.lo
  have hi := T.hi
  rcases (show cls b = 0 ∨ cls b = 1 ∨ cls b = 2 ∨ cls b = 3 ∨ cls b = 4 ∨ cls b = 5 ∨ cls b = 6 by omega) with c | c | c | c | c | c | c <;> rw [c] at t0 t1 t2 t3 t4 t6 ⊢
  · exact class0 b w t0
  · exact class1 b w t0 t1
  · exact class2 b w t0 t1 t2 t3
  · exact class3 b w t0 t1 t2 t3 t4 (t6 (.inl rfl))
  · exact class4 b w t0 t1 t2 t3 t4 (t6 (.inr rfl))
  · exact class5 b w t0 t1 t2 t3 t4
  · exact class6 b w t0 t1 t2
theorem ref_class (b : Nat) (hb : b < 2 ^ 64) (w : World) : Calls Try.prog 33 #[.float .f64 b] w fun e w' => e = .returned (.int .i64 (cls b)) ∧ w = w' := by
  have T := tests_of b hb
  have t0 := T_nan T
  have t1 := T5 T
  have t2 := T2 T
  have t3 := T3 T
  have t4 := T4 T
  have t6 := T7 T
  have lo := T.lo
  have hi := T.hi
  rcases (show cls b = 0 ∨ cls b = 1 ∨ cls b = 2 ∨ cls b = 3 ∨ cls b = 4 ∨ cls b = 5 ∨ cls b = 6 by omega) with c | c | c | c | c | c | c <;> rw [c] at t0 t1 t2 t3 t4 t6 ⊢
  · exact rclass0 b w t0
  · exact rclass1 b w t0 t1
  · exact rclass2 b w t0 t1 t3
  · exact rclass3 b w t0 t1 t3 t2 t4 (t6 (.inl rfl))
  · exact rclass4 b w t0 t1 t3 t2 t4 (t6 (.inr rfl))
  · exact rclass5 b w t0 t1 t3 t2 t4
  · exact rclass6 b w t0 t1 t3 t2
set_option maxHeartbeats 2000000 in
set_option maxRecDepth 100000 in
theorem cmp1 (a b : Nat) (x y : Int) (w : World) (ca : ∀ w,Calls Try.prog 32 #[.float .f64 a] w fun e w' => e = .returned (.int .i64 x) ∧ w = w') (cb : ∀ w,Calls Try.prog 32 #[.float .f64 b] w fun e w' => e = .returned (.int .i64 y) ∧ w = w') (h0 : (x != y) = true) (h1 : decide (x < y) = true) : Calls Try.prog 34 #[.float .f64 a,.float .f64 b] w fun e w' => e = .returned (.int .i64 (-1)) ∧ w = w' := by
  have CA := Aside0.mk ca
  have CB := Aside0.mk cb
  clear ca cb
  go_enter Try.func34,Try.ntmps34
  go_wp2_with (fail)
  refine (CA.out _).mono ?_
  rintro e w' ⟨rfl,rfl⟩
  go_wp2_with (fail)
  refine (CB.out _).mono ?_
  rintro e w' ⟨rfl,rfl⟩
  go_wp2
  go_ret
  exact ⟨rfl,rfl⟩
set_option maxHeartbeats 2000000 in
set_option maxRecDepth 100000 in
theorem cmp2 (a b : Nat) (x y : Int) (w : World) (ca : ∀ w,Calls Try.prog 32 #[.float .f64 a] w fun e w' => e = .returned (.int .i64 x) ∧ w = w') (cb : ∀ w,Calls Try.prog 32 #[.float .f64 b] w fun e w' => e = .returned (.int .i64 y) ∧ w = w') (h0 : (x != y) = true) (h1 : decide (x < y) = false) (h2 : decide (y < x) = true) : Calls Try.prog 34 #[.float .f64 a,.float .f64 b] w fun e w' => e = .returned (.int .i64 1) ∧ w = w' := by
  have CA := Aside0.mk ca
  have CB := Aside0.mk cb
  clear ca cb
  go_enter Try.func34,Try.ntmps34
  go_wp2_with (fail)
  refine (CA.out _).mono ?_
  rintro e w' ⟨rfl,rfl⟩
  go_wp2_with (fail)
  refine (CB.out _).mono ?_
  rintro e w' ⟨rfl,rfl⟩
  go_wp2
  go_ret
  exact ⟨rfl,rfl⟩
set_option maxHeartbeats 2000000 in
set_option maxRecDepth 100000 in
theorem cmp3 (a b : Nat) (x y : Int) (w : World) (ca : ∀ w,Calls Try.prog 32 #[.float .f64 a] w fun e w' => e = .returned (.int .i64 x) ∧ w = w') (cb : ∀ w,Calls Try.prog 32 #[.float .f64 b] w fun e w' => e = .returned (.int .i64 y) ∧ w = w') (h0 : (x != y) = false) (h1 : (x == 0) = true) (h2 : decide (x < y) = false) (h3 : decide (y < x) = false) : Calls Try.prog 34 #[.float .f64 a,.float .f64 b] w fun e w' => e = .returned (.int .i64 0) ∧ w = w' := by
  have CA := Aside0.mk ca
  have CB := Aside0.mk cb
  clear ca cb
  go_enter Try.func34,Try.ntmps34
  go_wp2_with (fail)
  refine (CA.out _).mono ?_
  rintro e w' ⟨rfl,rfl⟩
  go_wp2_with (fail)
  refine (CB.out _).mono ?_
  rintro e w' ⟨rfl,rfl⟩
  go_wp2
  go_ret
  exact ⟨rfl,rfl⟩
set_option maxHeartbeats 2000000 in
set_option maxRecDepth 100000 in
theorem cmp4 (a b : Nat) (x y : Int) (w : World) (ca : ∀ w,Calls Try.prog 32 #[.float .f64 a] w fun e w' => e = .returned (.int .i64 x) ∧ w = w') (cb : ∀ w,Calls Try.prog 32 #[.float .f64 b] w fun e w' => e = .returned (.int .i64 y) ∧ w = w') (h0 : (x != y) = false) (h1 : (x == 0) = false) (h2 : (FloatKind.f64.format.order a a != some Ordering.eq) = false) (h3 : (FloatKind.f64.format.order b b != some Ordering.eq) = false) (h4 : (FloatKind.f64.format.order a b == some Ordering.lt) = true) : Calls Try.prog 34 #[.float .f64 a,.float .f64 b] w fun e w' => e = .returned (.int .i64 (-1)) ∧ w = w' := by
  have CA := Aside0.mk ca
  have CB := Aside0.mk cb
  clear ca cb
  go_enter Try.func34,Try.ntmps34
  go_wp2_with (fail)
  refine (CA.out _).mono ?_
  rintro e w' ⟨rfl,rfl⟩
  go_wp2_with (fail)
  refine (CB.out _).mono ?_
  rintro e w' ⟨rfl,rfl⟩
  go_wp2
  go_ret
  exact ⟨rfl,rfl⟩
set_option maxHeartbeats 2000000 in
set_option maxRecDepth 100000 in
theorem cmp5 (a b : Nat) (x y : Int) (w : World) (ca : ∀ w,Calls Try.prog 32 #[.float .f64 a] w fun e w' => e = .returned (.int .i64 x) ∧ w = w') (cb : ∀ w,Calls Try.prog 32 #[.float .f64 b] w fun e w' => e = .returned (.int .i64 y) ∧ w = w') (h0 : (x != y) = false) (h1 : (x == 0) = false) (h2 : (FloatKind.f64.format.order a a != some Ordering.eq) = false) (h3 : (FloatKind.f64.format.order b b != some Ordering.eq) = false) (h4 : (FloatKind.f64.format.order a b == some Ordering.lt) = false) (h5 : (FloatKind.f64.format.order a b == some Ordering.gt) = true) : Calls Try.prog 34 #[.float .f64 a,.float .f64 b] w fun e w' => e = .returned (.int .i64 1) ∧ w = w' := by
  have CA := Aside0.mk ca
  have CB := Aside0.mk cb
  clear ca cb
  go_enter Try.func34,Try.ntmps34
  go_wp2_with (fail)
  refine (CA.out _).mono ?_
  rintro e w' ⟨rfl,rfl⟩
  go_wp2_with (fail)
  refine (CB.out _).mono ?_
  rintro e w' ⟨rfl,rfl⟩
  go_wp2
  go_ret
  exact ⟨rfl,rfl⟩
set_option maxHeartbeats 2000000 in
set_option maxRecDepth 100000 in
theorem cmp6 (a b : Nat) (x y : Int) (w : World) (ca : ∀ w,Calls Try.prog 32 #[.float .f64 a] w fun e w' => e = .returned (.int .i64 x) ∧ w = w') (cb : ∀ w,Calls Try.prog 32 #[.float .f64 b] w fun e w' => e = .returned (.int .i64 y) ∧ w = w') (h0 : (x != y) = false) (h1 : (x == 0) = false) (h2 : (FloatKind.f64.format.order a a != some Ordering.eq) = false) (h3 : (FloatKind.f64.format.order b b != some Ordering.eq) = false) (h4 : (FloatKind.f64.format.order a b == some Ordering.lt) = false) (h5 : (FloatKind.f64.format.order a b == some Ordering.gt) = false) : Calls Try.prog 34 #[.float .f64 a,.float .f64 b] w fun e w' => e = .returned (.int .i64 0) ∧ w = w' := by
  have CA := Aside0.mk ca
  have CB := Aside0.mk cb
  clear ca cb
  go_enter Try.func34,Try.ntmps34
  go_wp2_with (fail)
  refine (CA.out _).mono ?_
  rintro e w' ⟨rfl,rfl⟩
  go_wp2_with (fail)
  refine (CB.out _).mono ?_
  rintro e w' ⟨rfl,rfl⟩
  go_wp2
  go_ret
  exact ⟨rfl,rfl⟩
set_option maxHeartbeats 2000000 in
set_option maxRecDepth 100000 in
theorem rcmp1 (a b : Nat) (x y : Int) (w : World) (ca : ∀ w,Calls Try.prog 33 #[.float .f64 a] w fun e w' => e = .returned (.int .i64 x) ∧ w = w') (cb : ∀ w,Calls Try.prog 33 #[.float .f64 b] w fun e w' => e = .returned (.int .i64 y) ∧ w = w') (h0 : decide (x < y) = true) : Calls Try.prog 35 #[.float .f64 a,.float .f64 b] w fun e w' => e = .returned (.int .i64 (-1)) ∧ w = w' := by
  have CA := Aside0.mk ca
  have CB := Aside0.mk cb
  clear ca cb
  go_enter Try.func35,Try.ntmps35
  go_wp2_with (fail)
  refine (CA.out _).mono ?_
  rintro e w' ⟨rfl,rfl⟩
  go_wp2_with (fail)
  refine (CB.out _).mono ?_
  rintro e w' ⟨rfl,rfl⟩
  go_wp2
  go_ret
  exact ⟨rfl,rfl⟩
set_option maxHeartbeats 2000000 in
set_option maxRecDepth 100000 in
theorem rcmp2 (a b : Nat) (x y : Int) (w : World) (ca : ∀ w,Calls Try.prog 33 #[.float .f64 a] w fun e w' => e = .returned (.int .i64 x) ∧ w = w') (cb : ∀ w,Calls Try.prog 33 #[.float .f64 b] w fun e w' => e = .returned (.int .i64 y) ∧ w = w') (h0 : decide (x < y) = false) (h1 : (x == y) = false) (h2 : decide (y < x) = true) : Calls Try.prog 35 #[.float .f64 a,.float .f64 b] w fun e w' => e = .returned (.int .i64 1) ∧ w = w' := by
  have CA := Aside0.mk ca
  have CB := Aside0.mk cb
  clear ca cb
  go_enter Try.func35,Try.ntmps35
  go_wp2_with (fail)
  refine (CA.out _).mono ?_
  rintro e w' ⟨rfl,rfl⟩
  go_wp2_with (fail)
  refine (CB.out _).mono ?_
  rintro e w' ⟨rfl,rfl⟩
  go_wp2
  go_ret
  exact ⟨rfl,rfl⟩
set_option maxHeartbeats 2000000 in
set_option maxRecDepth 100000 in
theorem rcmp3 (a b : Nat) (x y : Int) (w : World) (ca : ∀ w,Calls Try.prog 33 #[.float .f64 a] w fun e w' => e = .returned (.int .i64 x) ∧ w = w') (cb : ∀ w,Calls Try.prog 33 #[.float .f64 b] w fun e w' => e = .returned (.int .i64 y) ∧ w = w') (h0 : decide (x < y) = false) (h1 : (x == y) = true) (h2 : (FloatKind.f64.format.order a b == some Ordering.lt) = true) : Calls Try.prog 35 #[.float .f64 a,.float .f64 b] w fun e w' => e = .returned (.int .i64 (-1)) ∧ w = w' := by
  have CA := Aside0.mk ca
  have CB := Aside0.mk cb
  clear ca cb
  go_enter Try.func35,Try.ntmps35
  go_wp2_with (fail)
  refine (CA.out _).mono ?_
  rintro e w' ⟨rfl,rfl⟩
  go_wp2_with (fail)
  refine (CB.out _).mono ?_
  rintro e w' ⟨rfl,rfl⟩
  go_wp2
  go_ret
  exact ⟨rfl,rfl⟩
set_option maxHeartbeats 2000000 in
set_option maxRecDepth 100000 in
theorem rcmp4 (a b : Nat) (x y : Int) (w : World) (ca : ∀ w,Calls Try.prog 33 #[.float .f64 a] w fun e w' => e = .returned (.int .i64 x) ∧ w = w') (cb : ∀ w,Calls Try.prog 33 #[.float .f64 b] w fun e w' => e = .returned (.int .i64 y) ∧ w = w') (h0 : decide (x < y) = false) (h1 : (x == y) = true) (h2 : (FloatKind.f64.format.order a b == some Ordering.lt) = false) (h3 : decide (y < x) = false) (h4 : (FloatKind.f64.format.order a b == some Ordering.gt) = true) : Calls Try.prog 35 #[.float .f64 a,.float .f64 b] w fun e w' => e = .returned (.int .i64 1) ∧ w = w' := by
  have CA := Aside0.mk ca
  have CB := Aside0.mk cb
  clear ca cb
  go_enter Try.func35,Try.ntmps35
  go_wp2_with (fail)
  refine (CA.out _).mono ?_
  rintro e w' ⟨rfl,rfl⟩
  go_wp2_with (fail)
  refine (CB.out _).mono ?_
  rintro e w' ⟨rfl,rfl⟩
  go_wp2
  go_ret
  exact ⟨rfl,rfl⟩
set_option maxHeartbeats 2000000 in
set_option maxRecDepth 100000 in
theorem rcmp5 (a b : Nat) (x y : Int) (w : World) (ca : ∀ w,Calls Try.prog 33 #[.float .f64 a] w fun e w' => e = .returned (.int .i64 x) ∧ w = w') (cb : ∀ w,Calls Try.prog 33 #[.float .f64 b] w fun e w' => e = .returned (.int .i64 y) ∧ w = w') (h0 : decide (x < y) = false) (h1 : (x == y) = true) (h2 : (FloatKind.f64.format.order a b == some Ordering.lt) = false) (h3 : decide (y < x) = false) (h4 : (FloatKind.f64.format.order a b == some Ordering.gt) = false) : Calls Try.prog 35 #[.float .f64 a,.float .f64 b] w fun e w' => e = .returned (.int .i64 0) ∧ w = w' := by
  have CA := Aside0.mk ca
  have CB := Aside0.mk cb
  clear ca cb
  go_enter Try.func35,Try.ntmps35
  go_wp2_with (fail)
  refine (CA.out _).mono ?_
  rintro e w' ⟨rfl,rfl⟩
  go_wp2_with (fail)
  refine (CB.out _).mono ?_
  rintro e w' ⟨rfl,rfl⟩
  go_wp2
  go_ret
  exact ⟨rfl,rfl⟩
theorem rate_compare (a b : Nat) (ha : a < 2 ^ 64) (hb : b < 2 ^ 64) (w : World) : Calls Try.prog 34 #[.float .f64 a,.float .f64 b] w fun e w' => e = .returned (.int .i64 (cmpF a b)) ∧ w = w' := by
  have ca := rate_class a ha
  have cb := rate_class b hb
  have na := T_nan (tests_of a ha)
  have nb := T_nan (tests_of b hb)
  have hs := ord_same ha hb
  unfold cmpF
  generalize cls a = x at *
  generalize cls b = y at *
  rcases Int.lt_trichotomy x y with c | c | c
  · rw [if_pos c]
    exact cmp1 a b x y w ca cb (by rw [bne_iff_ne];omega) (decide_eq_true c)
  · subst c
    obtain ⟨h1,h2⟩ := hs rfl
    rw [if_neg (by omega),if_neg (by omega)]
    by_cases z : x = 0
    · rw [if_pos z]
      exact cmp3 a b x x w ca cb (by simp) (by simp [z]) (by simp) (by simp)
    · rw [if_neg z]
      have z0 : (x == 0) = false := by simp [z]
      rw [decide_eq_false z] at na nb
      by_cases l : scl a < scl b
      · rw [if_pos l]
        exact cmp4 a b x x w ca cb (by simp) z0 na nb (by unfold ordF at h1;rw [h1];exact decide_eq_true ⟨z,l⟩)
      · rw [if_neg l]
        have l0 : (FloatKind.f64.format.order a b == some Ordering.lt) = false := by unfold ordF at h1;rw [h1];exact decide_eq_false (fun q => l q.2)
        by_cases g : scl b < scl a
        · rw [if_pos g]
          exact cmp5 a b x x w ca cb (by simp) z0 na nb l0 (by unfold ordF at h2;rw [h2];exact decide_eq_true ⟨z,g⟩)
        · rw [if_neg g]
          exact cmp6 a b x x w ca cb (by simp) z0 na nb l0 (by unfold ordF at h2;rw [h2];exact decide_eq_false (fun q => g q.2))
  · rw [if_neg (by omega),if_pos c]
    exact cmp2 a b x y w ca cb (by rw [bne_iff_ne];omega) (decide_eq_false (by omega)) (decide_eq_true c)
theorem ref_compare (a b : Nat) (ha : a < 2 ^ 64) (hb : b < 2 ^ 64) (w : World) : Calls Try.prog 35 #[.float .f64 a,.float .f64 b] w fun e w' => e = .returned (.int .i64 (cmpF a b)) ∧ w = w' := by
  have ca := ref_class a ha
  have cb := ref_class b hb
  have hs := ord_same ha hb
  unfold cmpF
  generalize cls a = x at *
  generalize cls b = y at *
  rcases Int.lt_trichotomy x y with c | c | c
  · rw [if_pos c]
    exact rcmp1 a b x y w ca cb (decide_eq_true c)
  · subst c
    obtain ⟨h1,h2⟩ := hs rfl
    unfold ordF at h1 h2
    rw [if_neg (by omega),if_neg (by omega)]
    have n0 : decide (x < x) = false := decide_eq_false (by omega)
    by_cases z : x = 0
    · rw [if_pos z]
      exact rcmp5 a b x x w ca cb n0 (by simp) (by rw [h1];exact decide_eq_false (fun q => q.1 z)) n0 (by rw [h2];exact decide_eq_false (fun q => q.1 z))
    · rw [if_neg z]
      by_cases l : scl a < scl b
      · rw [if_pos l]
        exact rcmp3 a b x x w ca cb n0 (by simp) (by rw [h1];exact decide_eq_true ⟨z,l⟩)
      · rw [if_neg l]
        have l0 : (FloatKind.f64.format.order a b == some Ordering.lt) = false := by rw [h1];exact decide_eq_false (fun q => l q.2)
        by_cases g : scl b < scl a
        · rw [if_pos g]
          exact rcmp4 a b x x w ca cb n0 (by simp) l0 n0 (by rw [h2];exact decide_eq_true ⟨z,g⟩)
        · rw [if_neg g]
          exact rcmp5 a b x x w ca cb n0 (by simp) l0 n0 (by rw [h2];exact decide_eq_false (fun q => g q.2))
  · rw [if_neg (by omega),if_pos c]
    exact rcmp2 a b x y w ca cb (decide_eq_false (by omega)) (by simp;omega) (decide_eq_true c)
end Go.Proofs.Ytcenlehfbgnphaa.Z
end
section
namespace Go.Proofs.Ytcenlehfbgnphaa.Z
set_option linter.unusedVariables false
set_option linter.unusedSimpArgs false
open Go.RowKit Go.Proofs.YtcenlehfbgnphaaW.PrintWords Go.Proofs.YtcenlehfbgnphaaW.PrintLast Go.Proofs.YtcenlehfbgnphaaW.PrintMore
def shQ (a l : Int) : Option Nat := FloatKind.f64.format.div (floatOfInt .f64 a) (floatOfInt .f64 l)
structure IsShare (a l : Int) (r : Nat) : Prop where
  lt : r < 2 ^ 64
  num : ∀ q,shQ a l = some q → r = q
  nan : shQ a l = none → cls r = 0
def nanV (w : World) (x y : Nat) : Nat := Question.cut (.nanBits .f64 x y) (w.tape w.drawn (.nanBits .f64 x y))
theorem cls_nan (b : Nat) (hb : b < 2 ^ 64) (h : 2047 * 2 ^ 52 < b % 2 ^ 63) : cls b = 0 := by
  obtain ⟨s,r,hr,e2,h1 | ⟨g0,g1,h2⟩ | ⟨g3,h3⟩ | ⟨g4,t,h4⟩⟩ := rd_cases b hb
  · have := h1.1
    exfalso;cases s <;> simp at e2 <;> omega
  · exfalso;cases s <;> simp at e2 <;> omega
  · exfalso;cases s <;> simp at e2 <;> omega
  · unfold cls;rw [h4]
theorem nan_arith (t : Nat) : (t % 2) * 2 ^ 63 + 9218868437227405312 + 1 + (t / 2) % 4503599627370495 < 2 ^ 64 ∧ 2047 * 2 ^ 52 < ((t % 2) * 2 ^ 63 + 9218868437227405312 + 1 + (t / 2) % 4503599627370495) % 2 ^ 63 := by
  rcases Nat.mod_two_eq_zero_or_one t with h | h <;> rw [h] <;> omega
theorem cut_nan (x y t : Nat) : Question.cut (.nanBits .f64 x y) t = (t % 2) * 2 ^ 63 + 9218868437227405312 + 1 + (t / 2) % 4503599627370495 := rfl
theorem nanV_ok (w : World) (x y : Nat) : nanV w x y < 2 ^ 64 ∧ cls (nanV w x y) = 0 := by
  unfold nanV
  rw [cut_nan]
  have h := nan_arith (w.tape w.drawn (.nanBits .f64 x y))
  exact ⟨h.1,cls_nan _ h.1 h.2⟩
theorem lt_of_wf {b : Nat} (h : (Lit.float .f64 b).wf = true) : b < 2 ^ 64 := by
  simpa [Lit.wf] using h
theorem run_quo_some {x y q : Nat} (h : FloatKind.f64.format.div x y = some q) (w : World) : (binOp .quo 46 (.float .f64 x) (.float .f64 y)).run Try.prog w = .ok (.float .f64 q) w := run_float_arith w .quo 46 .f64 x y q h
theorem run_quo_none {x y : Nat} (h : FloatKind.f64.format.div x y = none) (w : World) : (binOp .quo 46 (.float .f64 x) (.float .f64 y)).run Try.prog w = .ok (.float .f64 (nanV w x y)) w.drew := by
  simp [binOp,Op.floatArith,h]
  rw [if_neg (show ¬ ((Question.nanBits FloatKind.f64 x y).forced = true) from Bool.false_ne_true)]
  rfl
set_option maxHeartbeats 2000000 in
set_option maxRecDepth 100000 in
theorem rate_share (s0 s1 : ByteArray) (a l : Int) (w : World) : Calls Try.prog 29 #[.agg #[.string s0,.string s1,.int .i64 a,.int .i64 l]] w fun e w' => ∃ r,e = .returned (.float .f64 r) ∧ IsShare a l r ∧ Below w.heap.size w w' := by
  have hu45 := Try.underlying45
  cases h : shQ a l with
  | none =>
    have hq := run_quo_none h
    have HN := Aside0.mk h
    clear h
    go_enter Try.func29,Try.ntmps29
    go_wp2
    go_ret
    exact ⟨_,rfl,⟨(nanV_ok _ _ _).1,fun q e => (by rw [HN.out] at e;cases e),fun _ => (nanV_ok _ _ _).2⟩,below_drew1 (below_alloc (Below.refl _ _) _)⟩
  | some q =>
    have hq := run_quo_some h
    have HN := Aside0.mk h
    clear h
    go_enter Try.func29,Try.ntmps29
    go_wp2
    go_ret
    exact ⟨q,rfl,⟨lt_of_wf (floatBits_wf (op := .quo) HN.out),fun q' e => (by rw [HN.out] at e;exact Option.some.inj e),fun e => (by rw [HN.out] at e;cases e)⟩,below_alloc (Below.refl _ _) _⟩
set_option maxHeartbeats 2000000 in
set_option maxRecDepth 100000 in
theorem ref_share (s0 s1 : ByteArray) (a l : Int) (w : World) : Calls Try.prog 31 #[.agg #[.string s0,.string s1,.int .i64 a,.int .i64 l]] w fun e w' => ∃ r,e = .returned (.float .f64 r) ∧ IsShare a l r ∧ Below w.heap.size w w' := by
  have hu45 := Try.underlying45
  cases h : shQ a l with
  | none =>
    have hq := run_quo_none h
    have HN := Aside0.mk h
    clear h
    go_enter Try.func31,Try.ntmps31
    go_wp2
    go_ret
    exact ⟨_,rfl,⟨(nanV_ok _ _ _).1,fun q e => (by rw [HN.out] at e;cases e),fun _ => (nanV_ok _ _ _).2⟩,below_drew1 (below_alloc (Below.refl _ _) _)⟩
  | some q =>
    have hq := run_quo_some h
    have HN := Aside0.mk h
    clear h
    go_enter Try.func31,Try.ntmps31
    go_wp2
    go_ret
    exact ⟨q,rfl,⟨lt_of_wf (floatBits_wf (op := .quo) HN.out),fun q' e => (by rw [HN.out] at e;exact Option.some.inj e),fun e => (by rw [HN.out] at e;cases e)⟩,below_alloc (Below.refl _ _) _⟩
end Go.Proofs.Ytcenlehfbgnphaa.Z
end
section
namespace Go.Proofs.Ytcenlehfbgnphaa.Z
set_option linter.unusedVariables false
set_option linter.unusedSimpArgs false
open Go.RowKit Go.Proofs.YtcenlehfbgnphaaW.PrintWords Go.Proofs.YtcenlehfbgnphaaW.PrintLast Go.Proofs.YtcenlehfbgnphaaW.PrintMore
set_option maxHeartbeats 2000000 in
set_option maxRecDepth 100000 in
theorem rate_u (a b : Int) (w : World) : Calls Try.prog 71 #[.int .i64 a,.int .i64 b] w fun e w' => e = .returned (.agg #[.string (⟨#[]⟩ : ByteArray),.string (⟨#[]⟩ : ByteArray),.int .i64 a,.int .i64 b]) ∧ Below w.heap.size w w' := by
  obtain ⟨B,hB⟩ : ∃ B,w.heap.size = B := ⟨_,rfl⟩
  have e0 := blk_new w (.cells #[.string (⟨#[]⟩ : ByteArray),.string (⟨#[]⟩ : ByteArray),.int .i64 0,.int .i64 0] 45)
  have eB : Below B w (w.alloc (.cells #[.string (⟨#[]⟩ : ByteArray),.string (⟨#[]⟩ : ByteArray),.int .i64 0,.int .i64 0] 45)) := by
    rw [← hB];exact below_alloc (Below.refl _ _) _
  rw [hB] at e0
  have E0 := Aside0.mk e0
  have EB := Aside0.mk eB
  have HB0 := Aside0.mk hB
  have c0 := blk_cell E0.out 0
  have c1 := blk_cell E0.out 1
  have c2 := blk_cell E0.out 2
  have c3 := blk_cell E0.out 3
  have z0 := blk_frozen E0.out 0
  have z1 := blk_frozen E0.out 1
  have z2 := blk_frozen E0.out 2
  have z3 := blk_frozen E0.out 3
  simp only [List.getElem?_toArray,List.getElem?_cons_zero,List.getElem?_cons_succ] at c0 c1 c2 c3
  clear e0 eB
  go_enter Try.func71,Try.ntmps71
  go_wp2_with (fail)
  clear hB
  refine bodyPost_ret (results_cell_row rfl _ _ B 45 #[.string (⟨#[]⟩ : ByteArray),.string (⟨#[]⟩ : ByteArray),.int .i64 a,.int .i64 b] (0,0) _ rfl (by have hz := blk_new w (.cells #[.string (⟨#[]⟩ : ByteArray),.string (⟨#[]⟩ : ByteArray),.int .i64 a,.int .i64 b] 45);rw [HB0.out] at hz;exact hz) Try.underlying45 rfl (by kernel_rfl)) rfl ?_
  exact ⟨rfl,below_alloc (Below.refl _ _) _⟩
theorem sh30 : shQ 3 0 = some 9218868437227405312 := by decide +kernel
theorem sh02 : shQ 0 (-2) = some 9223372036854775808 := by decide +kernel
theorem sh34 : shQ 3 4 = some 4604930618986332160 := by decide +kernel
theorem sh00 : shQ 0 0 = none := by decide +kernel
theorem class_at (b : Nat) (x : Int) (hb : b < 2 ^ 64) (hx : cls b = x) (w : World) : Calls Try.prog 32 #[.float .f64 b] w fun e w' => e = .returned (.int .i64 x) ∧ w = w' := by rw [← hx];exact rate_class b hb w
theorem compare_at (a b : Nat) (x : Int) (ha : a < 2 ^ 64) (hb : b < 2 ^ 64) (hx : cmpF a b = x) (w : World) : Calls Try.prog 34 #[.float .f64 a,.float .f64 b] w fun e w' => e = .returned (.int .i64 x) ∧ w = w' := by rw [← hx];exact rate_compare a b ha hb w
theorem ng_inf : ngF 9218868437227405312 = 18442240474082181120 := by decide +kernel
set_option maxHeartbeats 4000000 in
set_option maxRecDepth 100000 in
theorem rate_known (w : World) : Calls Try.prog 36 #[] w fun e w' => e = .returned (.bool true) ∧ Below w.heap.size w w' := by
  have hng : ∀ w : World,(Op.unary UnOp.neg (Value.float FloatKind.f64 9218868437227405312)).run Try.prog w = .ok (.float .f64 18442240474082181120) w := fun _ => by rw [← ng_inf];rfl
  have heq : (FloatKind.f64.format.order 4604930618986332160 4604930618986332160 == some Ordering.eq) = true := by decide +kernel
  have HB := Aside0.mk (Below.refl w.heap.size w)
  go_enter Try.func36,Try.ntmps36
  go_wp2_with (fail)
  refine (rate_u 3 0 _).mono ?_
  rintro e w1 ⟨rfl,hb⟩
  have HB1 := Aside0.mk (below_step HB.out hb)
  clear hb HB
  have HB := HB1
  clear HB1
  go_wp2_with (fail)
  refine (rate_share _ _ 3 0 _).mono ?_
  rintro e w1 ⟨ra,rfl,hra,hb⟩
  have HB1 := Aside0.mk (below_step HB.out hb)
  clear hb HB
  have HB := HB1
  clear HB1
  obtain rfl := hra.num _ sh30
  clear hra
  go_wp2_with (fail)
  refine (rate_u 0 0 _).mono ?_
  rintro e w1 ⟨rfl,hb⟩
  have HB1 := Aside0.mk (below_step HB.out hb)
  clear hb HB
  have HB := HB1
  clear HB1
  go_wp2_with (fail)
  refine (rate_share _ _ 0 0 _).mono ?_
  rintro e w1 ⟨rb,rfl,hrb,hb⟩
  have HB1 := Aside0.mk (below_step HB.out hb)
  clear hb HB
  have HB := HB1
  clear HB1
  have HR := Aside0.mk (And.intro hrb.lt (hrb.nan sh00))
  clear hrb
  go_wp2_with (fail)
  refine (rate_u 0 (-2) _).mono ?_
  rintro e w1 ⟨rfl,hb⟩
  have HB1 := Aside0.mk (below_step HB.out hb)
  clear hb HB
  have HB := HB1
  clear HB1
  go_wp2_with (fail)
  refine (rate_share _ _ 0 (-2) _).mono ?_
  rintro e w1 ⟨rc,rfl,hrc,hb⟩
  have HB1 := Aside0.mk (below_step HB.out hb)
  clear hb HB
  have HB := HB1
  clear HB1
  obtain rfl := hrc.num _ sh02
  clear hrc
  go_wp2_with (fail)
  refine (class_at 9218868437227405312 6 (by decide) (by decide +kernel) _).mono ?_
  rintro e w' ⟨rfl,rfl⟩
  go_wp2_with (fail)
  refine (class_at rb 0 HR.out.1 HR.out.2 _).mono ?_
  rintro e w' ⟨rfl,rfl⟩
  go_wp2_with (fail)
  refine (class_at 9223372036854775808 3 (by decide) (by decide +kernel) _).mono ?_
  rintro e w' ⟨rfl,rfl⟩
  go_wp2_with (fail)
  refine (class_at 0 4 (by decide) (by decide +kernel) _).mono ?_
  rintro e w' ⟨rfl,rfl⟩
  go_wp2_with (fail)
  refine (class_at 18442240474082181120 1 (by decide) (by decide +kernel) _).mono ?_
  rintro e w' ⟨rfl,rfl⟩
  go_wp2_with (fail)
  refine (class_at 4607182418800017408 5 (by decide) (by decide +kernel) _).mono ?_
  rintro e w' ⟨rfl,rfl⟩
  go_wp2_with (fail)
  refine (class_at 13830554455654793216 2 (by decide) (by decide +kernel) _).mono ?_
  rintro e w' ⟨rfl,rfl⟩
  go_wp2_with (fail)
  refine (compare_at rb 18442240474082181120 (-1) HR.out.1 (by decide) (by unfold cmpF;rw [HR.out.2,show cls 18442240474082181120 = 1 by decide +kernel];rfl) _).mono ?_
  rintro e w' ⟨rfl,rfl⟩
  go_wp2_with (fail)
  refine (compare_at 9223372036854775808 0 (-1) (by decide) (by decide) (by decide +kernel) _).mono ?_
  rintro e w' ⟨rfl,rfl⟩
  go_wp2_with (fail)
  refine (compare_at rb rb 0 HR.out.1 HR.out.1 (cmpF_self rb) _).mono ?_
  rintro e w' ⟨rfl,rfl⟩
  go_wp2_with (fail)
  refine (rate_u 3 4 _).mono ?_
  rintro e w1 ⟨rfl,hb⟩
  have HB1 := Aside0.mk (below_step HB.out hb)
  clear hb HB
  have HB := HB1
  clear HB1
  go_wp2_with (fail)
  refine (rate_share _ _ 3 4 _).mono ?_
  rintro e w1 ⟨rd,rfl,hrd,hb⟩
  have HB1 := Aside0.mk (below_step HB.out hb)
  clear hb HB
  have HB := HB1
  clear HB1
  obtain rfl := hrd.num _ sh34
  clear hrd
  go_wp2_with (fail)
  go_ret
  exact ⟨rfl,HB.out⟩
end Go.Proofs.Ytcenlehfbgnphaa.Z
end
section
namespace Go.Proofs.Ytcenlehfbgnphaa.Z
set_option linter.unusedVariables false
set_option linter.unusedSimpArgs false
open Go.RowKit Go.Proofs.YtcenlehfbgnphaaW.PrintWords Go.Proofs.YtcenlehfbgnphaaW.PrintLast Go.Proofs.YtcenlehfbgnphaaW.PrintMore
structure SameW (w w' : World) : Prop where
  heap : w'.heap = w.heap
  os : w'.os = w.os
  tape : w'.tape = w.tape
  output : w'.output = w.output
set_option maxHeartbeats 2000000 in
set_option maxRecDepth 100000 in
theorem ref_same (a b : Nat) (ha : a < 2 ^ 64) (hb : b < 2 ^ 64) (w : World) : Calls Try.prog 30 #[.float .f64 a,.float .f64 b] w fun e w' => e = .returned (.bool (cmpF a b == 0)) ∧ w = w' := by
  have CC := Aside0.mk (ref_compare a b ha hb)
  go_enter Try.func30,Try.ntmps30
  go_wp2_with (fail)
  refine (CC.out _).mono ?_
  rintro e w' ⟨rfl,rfl⟩
  go_wp2
  go_ret
  exact ⟨rfl,rfl⟩
structure TellS (B : Nat) (s0 s1 : ByteArray) (u l : Int) (w w' : World) : Prop where
  box : w'.heap[B]? = some (.cells #[.string s0,.string s1,.int .i64 u,.int .i64 l] 45 (0,0))
  below : Below B w w'
theorem TellS.next {B : Nat} {s0 s1 : ByteArray} {u l : Int} {w w1 w2 W : World} (h : TellS B s0 s1 u l w w1) (hb : Below W.heap.size W w2) (e : SameW w1 W := by exact ⟨rfl,rfl,rfl,rfl⟩) : TellS B s0 s1 u l w w2 := by
  have hlt : B < W.heap.size := by rw [e.heap];exact blk_lt h.box
  refine ⟨(hb.block B hlt).trans (by rw [e.heap];exact h.box),?_⟩
  have h1 : Below B w W := ⟨e.os.trans h.below.os,e.tape.trans h.below.tape,e.output.trans h.below.output,by rw [e.heap];exact h.below.size,fun k hk => by rw [e.heap];exact h.below.block k hk⟩
  exact h1.trans (hb.mono (Nat.le_of_lt hlt))
theorem TellS.cells {B : Nat} {s0 s1 : ByteArray} {u l : Int} {w w' : World} (h : TellS B s0 s1 u l w w') : w'.cell? ⟨B,0,none⟩ = some (.string s0) ∧ w'.cell? ⟨B,1,none⟩ = some (.string s1) ∧ w'.cell? ⟨B,2,none⟩ = some (.int .i64 u) ∧ w'.cell? ⟨B,3,none⟩ = some (.int .i64 l) :=
  ⟨(blk_cell h.box 0).trans rfl,(blk_cell h.box 1).trans rfl,(blk_cell h.box 2).trans rfl,(blk_cell h.box 3).trans rfl⟩
end Go.Proofs.Ytcenlehfbgnphaa.Z
end
section
namespace Go.Proofs.Ytcenlehfbgnphaa.Z
set_option linter.unusedVariables false
set_option linter.unusedSimpArgs false
set_option linter.unnecessarySimpa false
open Go.RowKit Go.Proofs.YtcenlehfbgnphaaW.PrintWords Go.Proofs.YtcenlehfbgnphaaW.PrintLast Go.Proofs.YtcenlehfbgnphaaW.PrintMore
def shrQ (a l : Int) : Nat := (shQ a l).getD 9221120237041090561
theorem shrQ_eq {a l : Int} {r : Nat} (h : IsShare a l r) : r = shrQ a l ∨ (cls r = 0 ∧ cls (shrQ a l) = 0) := by
  unfold shrQ
  cases e : shQ a l with
  | none => exact Or.inr ⟨h.nan e,cls_nan _ (by decide) (by decide)⟩
  | some q => exact Or.inl (h.num q e)
theorem cmpF_left {a l : Int} {r : Nat} (h : IsShare a l r) (x : Nat) : cmpF r x = cmpF (shrQ a l) x := by
  rcases shrQ_eq h with e | ⟨e1,e2⟩
  · rw [← e]
  · unfold cmpF;rw [e1,e2];simp
theorem cmpF_shr {a l b m : Int} {r s : Nat} (h : IsShare a l r) (k : IsShare b m s) : cmpF r s = cmpF (shrQ a l) (shrQ b m) := by
  rw [cmpF_left h,cmpF_anti s,cmpF_left k,← cmpF_anti]
def cfR (u v : S45) : Int := cmpF (shrQ v.f2 v.f3) (shrQ u.f2 u.f3)
theorem cfR_ord : Ord3 cfR := ⟨fun x y => cmpF_anti _ _,fun x y z h1 h2 => cmpF_trans _ _ _ h2 h1⟩
structure TwoBox (B C : Nat) (a0 a1 : ByteArray) (a2 a3 : Int) (b0 b1 : ByteArray) (b2 b3 : Int) (N : Nat) (w w' : World) : Prop where
  x : w'.heap[B]? = some (.cells #[.string a0,.string a1,.int .i64 a2,.int .i64 a3] 45 (0,0))
  y : w'.heap[C]? = some (.cells #[.string b0,.string b1,.int .i64 b2,.int .i64 b3] 45 (0,0))
  below : Below N w w'
  le : N ≤ w'.heap.size
theorem TwoBox.next {B C : Nat} {a0 a1 : ByteArray} {a2 a3 : Int} {b0 b1 : ByteArray} {b2 b3 : Int} {N : Nat} {w w1 w2 W : World} (h : TwoBox B C a0 a1 a2 a3 b0 b1 b2 b3 N w w1) (hb : Below W.heap.size W w2) (e : SameW w1 W := by exact ⟨rfl,rfl,rfl,rfl⟩) : TwoBox B C a0 a1 a2 a3 b0 b1 b2 b3 N w w2 := by
  have h1 : Below N w W := ⟨e.os.trans h.below.os,e.tape.trans h.below.tape,e.output.trans h.below.output,by rw [e.heap];exact h.below.size,fun k hk => by rw [e.heap];exact h.below.block k hk⟩
  have hs : N ≤ W.heap.size := by rw [e.heap];exact h.le
  refine ⟨(hb.block B (by rw [e.heap];exact blk_lt h.x)).trans (by rw [e.heap];exact h.x),(hb.block C (by rw [e.heap];exact blk_lt h.y)).trans (by rw [e.heap];exact h.y),h1.trans (hb.mono hs),Nat.le_trans hs hb.size⟩
theorem TwoBox.cells {B C : Nat} {a0 a1 : ByteArray} {a2 a3 : Int} {b0 b1 : ByteArray} {b2 b3 : Int} {N : Nat} {w w' : World} (h : TwoBox B C a0 a1 a2 a3 b0 b1 b2 b3 N w w') :
    w'.cell? ⟨B,0,none⟩ = some (.string a0) ∧ w'.cell? ⟨B,1,none⟩ = some (.string a1) ∧ w'.cell? ⟨B,2,none⟩ = some (.int .i64 a2) ∧ w'.cell? ⟨B,3,none⟩ = some (.int .i64 a3) ∧ w'.cell? ⟨C,0,none⟩ = some (.string b0) ∧ w'.cell? ⟨C,1,none⟩ = some (.string b1) ∧ w'.cell? ⟨C,2,none⟩ = some (.int .i64 b2) ∧ w'.cell? ⟨C,3,none⟩ = some (.int .i64 b3) :=
  ⟨(blk_cell h.x 0).trans rfl,(blk_cell h.x 1).trans rfl,(blk_cell h.x 2).trans rfl,(blk_cell h.x 3).trans rfl,(blk_cell h.y 0).trans rfl,(blk_cell h.y 1).trans rfl,(blk_cell h.y 2).trans rfl,(blk_cell h.y 3).trans rfl⟩
theorem twobox_new (a0 a1 : ByteArray) (a2 a3 : Int) (b0 b1 : ByteArray) (b2 b3 : Int) (w : World) : TwoBox w.heap.size (w.heap.size + 1) a0 a1 a2 a3 b0 b1 b2 b3 w.heap.size w ((w.alloc (.cells #[.string a0,.string a1,.int .i64 a2,.int .i64 a3] 45)).alloc (.cells #[.string b0,.string b1,.int .i64 b2,.int .i64 b3] 45)) := by
  have e1 := blk_new w (.cells #[.string a0,.string a1,.int .i64 a2,.int .i64 a3] 45)
  have e2 := blk_new (w.alloc (.cells #[.string a0,.string a1,.int .i64 a2,.int .i64 a3] 45)) (.cells #[.string b0,.string b1,.int .i64 b2,.int .i64 b3] 45)
  have s : (w.alloc (.cells #[.string a0,.string a1,.int .i64 a2,.int .i64 a3] 45)).heap.size = w.heap.size + 1 := Array.size_push _
  have hb : Below w.heap.size w ((w.alloc (.cells #[.string a0,.string a1,.int .i64 a2,.int .i64 a3] 45)).alloc (.cells #[.string b0,.string b1,.int .i64 b2,.int .i64 b3] 45)) := below_alloc (below_alloc (Below.refl _ _) _) _
  rw [s] at e2
  exact ⟨blk_alloc e1 _,e2,hb,hb.size⟩
set_option maxHeartbeats 8000000 in
set_option maxRecDepth 100000 in
theorem rank_cmp (a0 a1 : ByteArray) (a2 a3 : Int) (b0 b1 : ByteArray) (b2 b3 : Int) (w : World) :
    Calls Try.prog 74 #[.agg #[.string a0,.string a1,.int .i64 a2,.int .i64 a3],.agg #[.string b0,.string b1,.int .i64 b2,.int .i64 b3]] w fun e w' => e = .returned (.int .i64 (cmpF (shrQ b2 b3) (shrQ a2 a3))) ∧ Below w.heap.size w w' := by
  have hu45 := Try.underlying45
  obtain ⟨B,hB⟩ : ∃ B,w.heap.size = B := ⟨_,rfl⟩
  obtain ⟨C,hC⟩ : ∃ C,B + 1 = C := ⟨_,rfl⟩
  have I0 := twobox_new a0 a1 a2 a3 b0 b1 b2 b3 w
  rw [hB,hC] at I0
  have HB0 := Aside0.mk hB
  go_enter Try.func74,Try.ntmps74
  go_wp2_with (fail)
  clear hB hC
  generalize (w.alloc (.cells #[.string a0,.string a1,.int .i64 a2,.int .i64 a3] 45)).alloc (.cells #[.string b0,.string b1,.int .i64 b2,.int .i64 b3] 45) = w1 at *
  have I1 := I0
  clear I0
  obtain ⟨c0,c1,c2,c3,d0,d1,d2,d3⟩ := I1.cells
  go_region_held3 (fun w' => w'.cell? ⟨B,0,none⟩ = some (.string a0) ∧ w'.cell? ⟨B,1,none⟩ = some (.string a1) ∧ w'.cell? ⟨B,2,none⟩ = some (.int .i64 a2) ∧ w'.cell? ⟨B,3,none⟩ = some (.int .i64 a3) ∧ w'.cell? ⟨C,0,none⟩ = some (.string b0) ∧ w'.cell? ⟨C,1,none⟩ = some (.string b1) ∧ w'.cell? ⟨C,2,none⟩ = some (.int .i64 b2) ∧ w'.cell? ⟨C,3,none⟩ = some (.int .i64 b3)) (first | go_keep | exact ⟨by assumption,by assumption,by assumption,by assumption,by assumption,by assumption,by assumption,by assumption⟩) (first | (go_at_call 29;first | ((with_reducible refine (rate_share b0 b1 b2 b3 _).mono ?_);rintro e w2 ⟨rv,rfl,hrv,hb1⟩;have I2 := I1.next hb1;clear I1 hb1;have I1 := I2;clear I2;obtain ⟨c0,c1,c2,c3,d0,d1,d2,d3⟩ := I1.cells) | ((with_reducible refine (rate_share a0 a1 a2 a3 _).mono ?_);rintro e w2 ⟨ru,rfl,hru,hb1⟩;have I2 := I1.next hb1;clear I1 hb1;have I1 := I2;clear I2;obtain ⟨c0,c1,c2,c3,d0,d1,d2,d3⟩ := I1.cells)) | (go_at_call 34;(with_reducible refine (rate_compare rv ru hrv.lt hru.lt _).mono ?_);rintro e w' ⟨rfl,rfl⟩))
  have HI := Aside0.mk I1.below
  rw [cmpF_shr hrv hru]
  go_wp2
  go_ret
  exact ⟨rfl,by rw [HB0.out];exact HI.out⟩
theorem rank_ok : CmpOk 74 cfR := ⟨cfR_ord,fun u v W => rank_cmp u.f0 u.f1 u.f2 u.f3 v.f0 v.f1 v.f2 v.f3 W⟩
set_option maxHeartbeats 4000000 in
set_option maxRecDepth 100000 in
theorem sort_func (cf : S45 → S45 → Int) (hC : CmpOk 74 cf) (blk cap n : Nat) (X : List El) (w : World) (h : RowAt w blk X) (hlen : X.length = n) (hn : n ≤ 1000000) (ht : Tags X) :
    Calls Try.prog 73 #[.slice (some ⟨blk,0,none⟩) n cap,.func (.func 74) #[] #[]] w fun e w' => e = .returned (.tuple #[]) ∧ (∃ C,RowAt w' blk C ∧ C.Perm X ∧ Sorted cf C) ∧ w.grownBy w' (some blk) := by
  have H := Aside0.mk (stable cf hC blk cap n X w h hlen hn ht)
  clear h hlen ht
  go_enter Try.func73,Try.ntmps73
  go_wp2_with (fail)
  refine H.out.mono ?_
  rintro e w1 ⟨rfl,h1,h2⟩
  have R1 := Aside0.mk h1
  have R2 := Aside0.mk h2
  clear h1 h2
  go_wp2_with (fail)
  go_end0
  exact ⟨rfl,R1.out,R2.out⟩
end Go.Proofs.Ytcenlehfbgnphaa.Z
end
section
namespace Go.Proofs.Ytcenlehfbgnphaa.Z
set_option linter.unusedVariables false
set_option linter.unusedSimpArgs false
set_option linter.unnecessarySimpa false
open Go.RowKit Go.Proofs.YtcenlehfbgnphaaW.PrintWords Go.Proofs.YtcenlehfbgnphaaW.PrintLast Go.Proofs.YtcenlehfbgnphaaW.PrintMore
theorem eq_nil1 (a : Addr) (n c : Nat) (w : World) : (binOp .eql 53 (.slice (some a) n c) (.slice none 0 0)).run Try.prog w = .ok (.bool false) w := by
  first | kernel_rfl | rfl | simp [binOp]
theorem R_made0 (w : World) : Kd.R k45 45 (w.alloc (.cells #[] 45)) w.heap.size (fun _ => True) (.slice (some ⟨w.heap.size,0,none⟩) 0 0) [] := by
  refine ⟨fun _ _ => trivial,[],?_,?_⟩
  · have h2 := World.ownsRow_lit (base := w.heap.size) (e := 45) (size := 4) w #[] 0 (Nat.le_refl _) (by decide) rfl
    have h3 : World.ownsRow (w.alloc (Obj.cells #[] 45)) w.heap.size 45 4 (Value.slice (some ⟨w.heap.size,0,none⟩) 0 0) 0 [] := by simpa using h2
    exact h3
  · exact ⟨rfl,by simp⟩
set_option maxHeartbeats 4000000 in
set_option maxRecDepth 100000 in
theorem clone_some (a : Addr) (n c : Nat) (l : List S45) (w : World) (hr : Kd.C k45 w (some a) n l) (hn : n ≤ 1000000) : Calls Try.prog 72 #[.slice (some a) n c] w fun e w' => ∃ v,e = .returned v ∧ Kd.R k45 45 w' w.heap.size (fun _ => True) v l ∧ Below w.heap.size w w' := by
  have hq := eq_nil1 a n c w
  have HR := Aside0.mk hr
  have HO := Aside0.mk (R_made0 w)
  have HB := Aside0.mk (Below.refl w.heap.size w)
  clear hr
  go_enter Try.func72,Try.ntmps72
  go_wp2_with (first | ((with_reducible refine gate_builtin (b := .append) (xs := #[.tmp 5,.tmp 6]) rfl ?_);at_builtin;refine Kd.R_append_rows k45 (w0 := w) w.heap.size rfl (.tmp 5) (.tmp 6) 53 45 (.agg #[(.string ⟨#[]⟩),(.string ⟨#[]⟩),(.int .i64 0),(.int .i64 0)]) 48 rfl Try.underlying53 info45 rfl (by decide) (by omega) (.slice (some ⟨w.heap.size,0,none⟩) 0 0) [] l (some a) n c (fun _ => True) (fun _ => False) rfl rfl HO.out (Kd.C_alloc HR.out _) (fun x cs h => by rw [k45_open h];exact k45_mkM _ _ _ _) (fun _ h => h.elim) (fun _ _ => trivial) (below_alloc HB.out _) (by simp) (by simp;omega) ?_;intro v1 w1 hv hb hg hat;have R1 := Aside0.mk hv;have B1 := Aside0.mk hb;clear hv hb hg hat))
  go_ret
  exact ⟨_,rfl,R1.out,B1.out⟩
end Go.Proofs.Ytcenlehfbgnphaa.Z
end
section
namespace Go.Proofs.Ytcenlehfbgnphaa.Z
set_option linter.unusedVariables false
set_option linter.unusedSimpArgs false
set_option linter.unnecessarySimpa false
open Go.RowKit Go.Proofs.YtcenlehfbgnphaaW.PrintWords Go.Proofs.YtcenlehfbgnphaaW.PrintLast Go.Proofs.YtcenlehfbgnphaaW.PrintMore
set_option maxHeartbeats 4000000 in
set_option maxRecDepth 100000 in
theorem insertionE (A : Option Addr) (cap : Nat) (w : World) :
    Calls Try.prog 114 #[.slice A 0 cap,.int .i64 0,.int .i64 0,.func (.func 74) #[] #[]] w fun e w' => e = .returned (.tuple #[]) ∧ Below w.heap.size w w' := by
  have HB := Aside0.mk (Below.refl w.heap.size w)
  go_enter Try.func114,Try.ntmps114
  go_wp2
  go_loopw [8] (fun iv wr => iv = .int .i64 1 ∧ Aside0 (Below w.heap.size w wr)) (fun iv _ => 0)
  case atStart => exact ⟨rfl,HB⟩
  case round =>
    clear HB
    obtain ⟨rfl,HB⟩ := hrel
    go_wp2
    go_end0
    exact ⟨rfl,HB.out⟩
set_option maxHeartbeats 4000000 in
set_option maxRecDepth 100000 in
theorem stableE (A : Option Addr) (cap : Nat) (w : World) :
    Calls Try.prog 97 #[.slice A 0 cap,.int .i64 0,.func (.func 74) #[] #[]] w fun e w' => e = .returned (.tuple #[]) ∧ Below w.heap.size w w' := by
  have HB := Aside0.mk (Below.refl w.heap.size w)
  go_enter Try.func97,Try.ntmps97
  go_wp2
  go_loopw [7,8] (fun iv jv wr => iv = .int .i64 0 ∧ jv = .int .i64 20 ∧ Aside0 (Below w.heap.size w wr)) (fun iv jv _ => 0)
  case atStart => exact ⟨rfl,rfl,HB⟩
  case round =>
    clear HB
    obtain ⟨rfl,rfl,HB⟩ := hrel
    go_wp2_with (fail)
    refine (insertionE A cap wr).mono ?_
    rintro e w1 ⟨rfl,hb⟩
    have HB1 := Aside0.mk (HB.out.trans (hb.mono HB.out.size))
    clear HB hb
    go_wp2_with (fail)
    go_loopw [6] (fun iv wr => iv = .int .i64 20 ∧ Aside0 (Below w.heap.size w wr)) (fun iv _ => 0)
    case atStart => exact ⟨rfl,HB1⟩
    case round =>
      clear HB1
      obtain ⟨rfl,HB⟩ := hrel
      go_wp2
      go_end0
      exact ⟨rfl,HB.out⟩
set_option maxHeartbeats 4000000 in
set_option maxRecDepth 100000 in
theorem sort_funcE (A : Option Addr) (cap : Nat) (w : World) :
    Calls Try.prog 73 #[.slice A 0 cap,.func (.func 74) #[] #[]] w fun e w' => e = .returned (.tuple #[]) ∧ Below w.heap.size w w' := by
  have H := Aside0.mk (stableE A cap w)
  go_enter Try.func73,Try.ntmps73
  go_wp2_with (fail)
  refine H.out.mono ?_
  rintro e w1 ⟨rfl,h1⟩
  have R1 := Aside0.mk h1
  clear h1
  go_wp2_with (fail)
  go_end0
  exact ⟨rfl,R1.out⟩
theorem atL_zip (l : List S45) (i : Nat) (u : S45) (h : l[i]? = some u) : atL l.zipIdx i = (u,i) := by
  unfold atL
  rw [List.getD_eq_getElem?_getD,List.getElem?_zipIdx,h]
  simp
theorem tags_zip (l : List S45) : Tags l.zipIdx := by
  unfold Tags
  rw [List.pairwise_iff_getElem]
  intro i j hi hj hij
  simp
  exact hij
theorem R_row {w : World} {base : Nat} {ok : Nat → Prop} {v : Value} {l : List S45} (h : Kd.R k45 45 w base ok v l) : (v = .slice none 0 0 ∧ l = []) ∨ ∃ g cap,v = .slice (some ⟨g,0,none⟩) l.length cap ∧ base ≤ g ∧ l.length ≤ cap ∧ RowAt w g l.zipIdx := by
  obtain ⟨_,inner,⟨h1,h2⟩,h3,h4⟩ := h
  rcases h2 with ⟨e1,e2⟩ | ⟨g,cap,cur,e1,e2,e3,e4,e5,e6,e7⟩
  · exact Or.inl ⟨e1,List.length_eq_zero_iff.1 e2⟩
  · refine Or.inr ⟨g,cap,e1,e2,e4,cur,e3,?_⟩
    intro i hi
    rw [List.length_zipIdx] at hi
    have hu := List.getElem?_eq_getElem hi
    have hm := k45_openM (h4 i _ hu)
    rw [atL_zip l i _ hu]
    have get (k : Nat) (hk : k < 4) : cur[i * 4 + k]? = ((inner.drop (i * 4)).take 4)[k]? := by
      rw [List.getElem?_take_of_lt hk,List.getElem?_drop,← e7,List.getElem?_take_of_lt (show i * 4 + k < l.length * k45.sz from by show i * 4 + k < l.length * 4;omega)]
      simp
    have hm' : (inner.drop (i * 4)).take 4 = _ := hm
    rw [hm'] at get
    exact ⟨get 0 (by omega),get 1 (by omega),get 2 (by omega),get 3 (by omega)⟩
theorem RowAt.reads {w : World} {g : Nat} {L : List El} (h : RowAt w g L) (hn : L.length ≤ 1000000) : Kd.C k45 w (some ⟨g,0,none⟩) L.length (L.map Prod.fst) := by
  obtain ⟨cells,hb,hc⟩ := h.out
  refine ⟨by simp,by omega,fun _ => ⟨_,rfl,?_⟩⟩
  intro j p hp
  have hj : j < L.length := by
    have := (List.getElem?_eq_some_iff.1 hp).1
    simpa using this
  have ep : (atL L j).1 = p := by
    rw [List.getElem?_map,List.getElem?_eq_getElem hj] at hp
    unfold atL
    rw [List.getD_eq_getElem?_getD,List.getElem?_eq_getElem hj]
    simpa using hp
  subst ep
  obtain ⟨h0,h1,h2,h3⟩ := hc j hj
  refine ⟨_,rfl,k45_mk w _,?_⟩
  intro i u hu
  have e : (Addr.add ⟨g,0,none⟩ (j * k45.sz + i)) = ⟨g,j * 4 + i,none⟩ := by
    rw [Addr.add_lit,Nat.zero_add]
    rfl
  rw [e]
  match i,hu with
  | 0,hu => cases hu;exact (blk_cell hb _).trans h0
  | 1,hu => cases hu;exact (blk_cell hb _).trans h1
  | 2,hu => cases hu;exact (blk_cell hb _).trans h2
  | 3,hu => cases hu;exact (blk_cell hb _).trans h3
structure Ranked (l : List S45) (C : List El) : Prop where
  perm : C.Perm l.zipIdx
  srt : Sorted cfR C
theorem below_of_grown {w w1 w2 : World} {g : Nat} (h : Below w.heap.size w w1) (hg : w1.grownBy w2 (some g)) (hge : w.heap.size ≤ g) : Below w.heap.size w w2 :=
  ⟨hg.os.trans h.os,hg.tape.trans h.tape,hg.output.trans h.output,Nat.le_trans h.size hg.size,fun k hk => by
    have ne : some k ≠ some g := by
      intro e
      have : k = g := by simpa using e
      omega
    exact (hg.block k (Nat.lt_of_lt_of_le hk h.size) ne).trans (h.block k hk)⟩
set_option maxHeartbeats 4000000 in
set_option maxRecDepth 100000 in
theorem rank_some (a : Addr) (n c : Nat) (l : List S45) (w : World) (hr : Kd.C k45 w (some a) n l) (hn : n ≤ 1000000) :
    Calls Try.prog 37 #[.slice (some a) n c] w fun e w' => ∃ A cap C,e = .returned (.slice A n cap) ∧ n ≤ cap ∧ Ranked l C ∧ Kd.C k45 w' A n (C.map Prod.fst) ∧ Below w.heap.size w w' := by
  have hl : l.length = n := hr.1
  have CL := Aside0.mk (clone_some a n c l w hr hn)
  clear hr
  go_enter Try.func37,Try.ntmps37
  go_wp2_with (fail)
  refine CL.out.mono ?_
  rintro e w1 ⟨v,rfl,hv,hb⟩
  have B1 := Aside0.mk hb
  rcases R_row hv with ⟨rfl,rfl⟩ | ⟨g,cap,rfl,hg,hcap,hrow⟩
  · have h0 : n = 0 := hl.symm
    subst h0
    clear hv hb hl CL
    go_wp2_with (fail)
    refine (sort_funcE none 0 w1).mono ?_
    rintro e w2 ⟨rfl,hb⟩
    have B2 := Aside0.mk (B1.out.trans (hb.mono B1.out.size))
    clear hb B1
    go_wp2_with (fail)
    go_ret
    exact ⟨none,0,[],rfl,Nat.le_refl _,⟨List.Perm.refl _,List.Pairwise.nil⟩,⟨rfl,by omega,fun h => absurd h (Nat.lt_irrefl 0)⟩,B2.out⟩
  · rw [hl] at hcap
    rw [hl]
    have HG := Aside0.mk hg
    have HC := Aside0.mk hcap
    have HL := Aside0.mk hl
    have HR := Aside0.mk hrow
    clear hv hb CL hg hcap hl hrow
    go_wp2_with (fail)
    refine (sort_func cfR rank_ok g cap n l.zipIdx w1 HR.out (by rw [List.length_zipIdx];exact HL.out) hn (tags_zip l)).mono ?_
    rintro e w2 ⟨rfl,⟨C,h1,h2,h3⟩,hgr⟩
    have B2 := Aside0.mk (below_of_grown B1.out hgr HG.out)
    have R2 := Aside0.mk h1
    have R3 : Aside0 (Ranked l C) := ⟨⟨h2,h3⟩⟩
    have LC := Aside0.mk (show C.length = n by rw [h2.length_eq,List.length_zipIdx];exact HL.out)
    clear h1 h2 h3 hgr B1 HR
    go_wp2_with (fail)
    go_ret
    exact ⟨_,_,C,rfl,HC.out,R3.out,by have := R2.out.reads (by rw [LC.out];exact hn);rw [LC.out] at this;exact this,B2.out⟩
end Go.Proofs.Ytcenlehfbgnphaa.Z
end
section
namespace Go.Proofs.Ytcenlehfbgnphaa.Z
set_option linter.unusedVariables false
set_option linter.unusedSimpArgs false
set_option linter.unnecessarySimpa false
open Go.RowKit Go.Proofs.YtcenlehfbgnphaaW.PrintWords Go.Proofs.YtcenlehfbgnphaaW.PrintLast Go.Proofs.YtcenlehfbgnphaaW.PrintMore
theorem eq_nilC (n c : Nat) (w : World) : (binOp .eql 53 (.slice none n c) (.slice none 0 0)).run Try.prog w = .ok (.bool true) w := by
  first | kernel_rfl | rfl | simp [binOp]
set_option maxHeartbeats 4000000 in
set_option maxRecDepth 100000 in
theorem clone_nilC (n c : Nat) (w : World) : Calls Try.prog 72 #[.slice none n c] w fun e w' => e = .returned (.slice none 0 0) ∧ Below w.heap.size w w' := by
  have HB := Aside0.mk (Below.refl w.heap.size w)
  have hq := eq_nilC n c w
  go_enter Try.func72,Try.ntmps72
  go_wp2
  go_ret
  exact ⟨rfl,HB.out⟩
set_option maxHeartbeats 4000000 in
set_option maxRecDepth 100000 in
theorem rank_nil (c : Nat) (w : World) :
    Calls Try.prog 37 #[.slice none 0 c] w fun e w' => ∃ A cap C,e = .returned (.slice A 0 cap) ∧ 0 ≤ cap ∧ Ranked [] C ∧ Kd.C k45 w' A 0 (C.map Prod.fst) ∧ Below w.heap.size w w' := by
  have CL := Aside0.mk (clone_nilC 0 c w)
  go_enter Try.func37,Try.ntmps37
  go_wp2_with (fail)
  refine CL.out.mono ?_
  rintro e w1 ⟨rfl,hb⟩
  have B1 := Aside0.mk hb
  clear hb CL
  go_wp2_with (fail)
  refine (sort_funcE none 0 w1).mono ?_
  rintro e w2 ⟨rfl,hb⟩
  have B2 := Aside0.mk (B1.out.trans (hb.mono B1.out.size))
  clear hb B1
  go_wp2_with (fail)
  go_ret
  exact ⟨none,0,[],rfl,Nat.le_refl _,⟨List.Perm.refl _,List.Pairwise.nil⟩,⟨rfl,by omega,fun h => absurd h (Nat.lt_irrefl 0)⟩,B2.out⟩
theorem rank_any (A : Option Addr) (n c : Nat) (l : List S45) (w : World) (hr : Kd.C k45 w A n l) (hn : n ≤ 1000000) :
    Calls Try.prog 37 #[.slice A n c] w fun e w' => ∃ A cap C,e = .returned (.slice A n cap) ∧ n ≤ cap ∧ Ranked l C ∧ Kd.C k45 w' A n (C.map Prod.fst) ∧ Below w.heap.size w w' := by
  cases A with
  | none =>
    have h0 : n = 0 := by
      rcases Nat.eq_zero_or_pos n with h | h
      · exact h
      · obtain ⟨ad,e,_⟩ := hr.2.2 h
        cases e
    subst h0
    have : l = [] := List.length_eq_zero_iff.1 hr.1
    subst this
    exact rank_nil c w
  | some a => exact rank_some a n c l w hr hn
theorem Ranked.first {l : List S45} {C : List El} (h : Ranked l C) (i : Nat) (hi : i < C.length) : cmpF (shrQ (atL C i).1.f2 (atL C i).1.f3) (shrQ (atL C 0).1.f2 (atL C 0).1.f3) ≤ 0 := by
  rcases Nat.eq_zero_or_pos i with rfl | h0
  · rw [cmpF_self];exact Int.le_refl _
  · have e (k : Nat) (hk : k < C.length) : atL C k = C[k] := by
      unfold atL
      rw [List.getD_eq_getElem?_getD,List.getElem?_eq_getElem hk]
      rfl
    have := List.pairwise_iff_getElem.1 h.srt 0 i (by omega) hi h0
    rw [← e 0 (by omega),← e i hi] at this
    unfold Lx cfR at this
    omega
def nanC : Nat := 9221120237041090561
theorem frombits (w : World) : (callFunc 98 #[.int .u64 9221120237041090561]).run Try.prog w = .ok (.value (.float .f64 9221120237041090561)) w := by kernel_rfl
set_option maxHeartbeats 4000000 in
set_option maxRecDepth 100000 in
theorem nan_walk (w : World) : Calls Try.prog 75 #[] w fun e w' => e = .returned (.float .f64 nanC) ∧ w = w' := by
  have hq := frombits w
  go_enter Try.func75,Try.ntmps75
  go_wp2
  go_ret
  exact ⟨rfl,rfl⟩
structure MostIs (l : List S45) (r : Nat) : Prop where
  lt : r < 2 ^ 64
  nil : l = [] → r = nanC
  ne : l ≠ [] → ∃ u ∈ l,IsShare u.f2 u.f3 r ∧ ∀ v ∈ l,cmpF (shrQ v.f2 v.f3) (shrQ u.f2 u.f3) ≤ 0
theorem MostIs.same {l : List S45} {r s : Nat} (h : MostIs l r) (k : MostIs l s) : cmpF r s = 0 := by
  by_cases e : l = []
  · rw [h.nil e,k.nil e,cmpF_self]
  · obtain ⟨u,hu,h1,h2⟩ := h.ne e
    obtain ⟨v,hv,k1,k2⟩ := k.ne e
    rw [cmpF_shr h1 k1]
    have a := h2 v hv
    have b := k2 u hu
    rw [cmpF_anti] at a
    omega
theorem Ranked.most {l : List S45} {C : List El} (h : Ranked l C) (hne : l ≠ []) : ∃ x,C[0]? = some x ∧ x.1 ∈ l ∧ ∀ v ∈ l,cmpF (shrQ v.f2 v.f3) (shrQ x.1.f2 x.1.f3) ≤ 0 := by
  have hlen : C.length = l.length := by rw [h.perm.length_eq,List.length_zipIdx]
  have hl : 0 < l.length := List.length_pos_iff.2 hne
  have e (k : Nat) (hk : k < C.length) : atL C k = C[k] := by
    unfold atL
    rw [List.getD_eq_getElem?_getD,List.getElem?_eq_getElem hk]
    rfl
  refine ⟨C[0],List.getElem?_eq_getElem (by omega),?_,?_⟩
  · have : C[0] ∈ l.zipIdx := h.perm.mem_iff.1 (List.getElem_mem _)
    have h2 := List.mem_map_of_mem (f := Prod.fst) this
    rwa [List.zipIdx_map_fst] at h2
  · intro v hv
    obtain ⟨i,hi,rfl⟩ := List.getElem_of_mem hv
    have : (l[i],i) ∈ l.zipIdx := List.mem_zipIdx_iff_getElem?.2 (List.getElem?_eq_getElem hi)
    obtain ⟨k,hk,ek⟩ := List.getElem_of_mem (h.perm.mem_iff.2 this)
    have f := h.first k hk
    rw [e k hk,e 0 (by omega),ek] at f
    exact f
set_option maxHeartbeats 4000000 in
set_option maxRecDepth 100000 in
theorem most_walk (A : Option Addr) (n c : Nat) (l : List S45) (w : World) (hr : Kd.C k45 w A n l) (hn : n ≤ 1000000) : Calls Try.prog 42 #[.slice A n c] w fun e w' => ∃ r,e = .returned (.float .f64 r) ∧ MostIs l r ∧ Below w.heap.size w w' := by
  have hl : l.length = n := hr.1
  have hu45 := Try.underlying45
  by_cases h0 : n = 0
  · subst h0
    have e : l = [] := List.length_eq_zero_iff.1 hl
    subst e
    have HB := Aside0.mk (Below.refl w.heap.size w)
    clear hr
    go_enter Try.func42,Try.ntmps42
    go_wp2_with (fail)
    refine (nan_walk _).mono ?_
    rintro e w1 ⟨rfl,rfl⟩
    go_wp2_with (fail)
    go_ret
    exact ⟨_,rfl,⟨by decide,fun _ => rfl,fun h => absurd rfl h⟩,HB.out⟩
  · have HN := Aside0.mk (show l ≠ [] by intro e;subst e;exact h0 hl.symm)
    have RK := Aside0.mk (rank_any A n c l w hr hn)
    have b0 : ((n : Int) == 0) = false := by rw [beq_eq_false_iff_ne];omega
    have b1 : 0 < n := by omega
    have b2 : (0 : Int) < (n : Int) := by omega
    clear hr hl
    go_enter Try.func42,Try.ntmps42
    go_wp2_with (fail)
    refine RK.out.mono ?_
    rintro e w1 ⟨A1,cap,C,rfl,hcap,hR,hC,hb⟩
    obtain ⟨x,hx0,hx1,hx2⟩ := hR.most HN.out
    obtain ⟨ad,e,x0,x1,x2,x3⟩ := at_T45 hC 0 (by omega) (by omega)
    have ex : rd_T45 (C.map Prod.fst) 0 = x.1 := by
      unfold rd_T45
      rw [List.getD_eq_getElem?_getD]
      simp [hx0]
    rw [ex] at x0 x1 x2 x3
    cases e
    have MX := Aside0.mk (And.intro hx1 hx2)
    have B1 := Aside0.mk hb
    clear hx0 hx1 hx2 hR hC hb RK ex hcap
    obtain ⟨⟨xa,xb,xc,xd⟩,xt⟩ := x
    have z : ad.add (Int.toNat 0 * 4) = ad := by cases ad;rfl
    rw [z] at x0 x1 x2 x3
    clear z
    go_wp2_with (fail)
    refine (rate_share xa xb xc xd _).mono ?_
    rintro e w2 ⟨r,rfl,hr,hb⟩
    have HR := Aside0.mk hr
    have B2 := Aside0.mk (B1.out.trans (hb.mono B1.out.size))
    clear x0 x1 x2 x3 hr hb B1
    go_wp2_with (fail)
    go_ret
    exact ⟨r,rfl,⟨HR.out.lt,fun h => absurd h HN.out,fun _ => ⟨_,MX.out.1,HR.out,MX.out.2⟩⟩,B2.out⟩
end Go.Proofs.Ytcenlehfbgnphaa.Z
end
