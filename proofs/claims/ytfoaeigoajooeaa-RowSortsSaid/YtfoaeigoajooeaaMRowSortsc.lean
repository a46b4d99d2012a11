/- Parts of the proof of RowSorts: what its functions answer. -/
import Derived.Test.YtfoaeigoajooeaaMRowSortsa
import Derived.Test.YtfoaeigoajooeaaMRowSortsb
import Derived.Lib.SliceRun
import Derived.ArgAppend
section
namespace Go.Proofs.Ytfoaeigoajooeaa.Z
set_option linter.unusedVariables false
set_option linter.unusedSimpArgs false
open Go.RowKit Go.Proofs.YtfoaeigoajooeaaW.PrintWords Go.Proofs.YtfoaeigoajooeaaW.PrintLast Go.Proofs.YtfoaeigoajooeaaW.PrintMore
def MergesTo (cf : Fe → Fe → Int) (blk cap n K : Nat) : Prop := ∀ (P A B S L : List El) (a m b : Nat) (w : World),A.length + B.length < K → RowAt w blk L → L.length = n → Two cf P A B S → L = P ++ A ++ B ++ S → P.length = a → a + A.length = m → m + B.length = b → A.length ≠ 0 → B.length ≠ 0 → Calls Try.prog 74 #[.slice (some ⟨blk,0,none⟩) n cap,.int .i64 a,.int .i64 m,.int .i64 b,.func (.func 13) #[] #[]] w (Merged cf P A B S blk w)
set_option maxHeartbeats 8000000 in
set_option maxRecDepth 100000 in
theorem merge30 (cf : Fe → Fe → Int) (hC : CmpOk 13 cf) (blk cap a m b n : Nat) (P A B S L : List El) (w : World) (ih : MergesTo cf blk cap n (A.length + B.length)) (h : RowAt w blk L) (hlen : L.length = n) (hn : n ≤ 1000000) (t : Two cf P A B S) (eL : L = P ++ A ++ B ++ S) (hP : P.length = a) (hm : a + A.length = m) (hA : 2 ≤ A.length) (hB : 2 ≤ B.length) (hb : m + B.length = b) (hbn : b ≤ n) (hcase : a + b < 2 * m) :
  Calls Try.prog 74 #[.slice (some ⟨blk,0,none⟩) n cap,.int .i64 a,.int .i64 m,.int .i64 b,.func (.func 13) #[] #[]] w (Merged cf P A B S blk w) := by
 have H := Aside0.mk h
 have HG := Aside0.mk (only_refl w blk)
 have HL := Aside0.mk hlen
 have TT := Aside0.mk t
 have EL := Aside0.mk eL
 have HP := Aside0.mk hP
 have HM := Aside0.mk hm
 have HB := Aside0.mk hb
 have IH := Aside0.mk ih
 have HAB := Aside0.mk (And.intro hA hB)
 have ham : a + 2 ≤ m := by omega
 have hmb : m + 2 ≤ b := by omega
 obtain ⟨mid,hmid⟩ : ∃ mid : Nat,((a : Int) + (b : Int)) / 2 = (mid : Int) := ⟨(a + b) / 2,by omega⟩
 have ma : a < mid := by omega
 have mb : mid < b := by omega
 have mn : a + b ≤ 2 * mid + 1 ∧ 2 * mid ≤ a + b := by omega
 have hcm : mid < m := by omega
 obtain ⟨nn,hnn⟩ : ∃ nn : Nat,(mid : Int) + (m : Int) = (nn : Int) := ⟨mid + m,by omega⟩
 obtain ⟨p,hp⟩ : ∃ p : Nat,(nn : Int) - 1 = (p : Int) := ⟨nn - 1,by omega⟩
 obtain ⟨lo,hlo⟩ : ∃ lo : Nat,(nn : Int) - (b : Int) = (lo : Int) := ⟨nn - b,by omega⟩
 obtain ⟨hi,hhi⟩ : ∃ hi : Nat,hi = mid := ⟨_,rfl⟩
 have HNN := Aside0.mk (show mid + m = nn by omega)
 have HPP := Aside0.mk (show nn - 1 = p by omega)
 have LOF := Aside0.mk (show a ≤ lo ∧ hi ≤ m ∧ nn ≤ b + lo ∧ m + hi ≤ nn ∧ (lo = a ∨ nn = b + lo) ∧ (hi = m ∨ m + hi = nn) by omega)
 have lohi : lo ≤ hi := by omega
 have hin : hi ≤ m := by omega
 have loa : a ≤ lo := by omega
 have pn : p < 2 * n := by omega
 have plo : nn ≤ b + lo := by omega
 have phi : m + hi ≤ nn := by omega
 have hnp : nn ≤ p + 1 := by omega
 have hnp2 : p + 1 ≤ nn := by omega
 have HS := Aside0.mk (show Srch (NotAhd3 cf L (nn - 1)) lo hi lo hi from Srch.start lohi)
 have MN := Aside0.mk (t.mono3' eL hP hm hb loa hin plo phi)
 have bm : ((m : Int) - (a : Int) == 1) = false := by rw [beq_eq_false_iff_ne];omega
 have bb : ((b : Int) - (m : Int) == 1) = false := by rw [beq_eq_false_iff_ne];omega
 have bc : decide (((a : Int) + (b : Int)) / 2 < (m : Int)) = true := by rw [hmid];exact decide_eq_true (by omega)
 have HQ := Aside0.mk (And.intro hmid (And.intro hnn (And.intro hp (And.intro hlo hhi))))
 clear h t eL hP hlen hm hA hB hb ih hcase hmid hnn hp hlo hhi
 have bc2 : ((a : Int) + (b : Int)) / 2 < (m : Int) := by have := HQ.out.1;omega
 go_enter Try.func74,Try.ntmps74
 go_wp2
 have hq1 := HQ.out.1
 have hq2 := HQ.out.2.1
 have hq3 := HQ.out.2.2.1
 have hq4 := HQ.out.2.2.2.1
 have hq5 := HQ.out.2.2.2.2
 rw [hq1,hq2,hq3,hq4]
 skip
 clear hq1 hq2 hq3 hq4 hq5 bc bc2
 go_loopw [20,21] (fun iv jv wr => ∃ i j : Nat,iv = .int .i64 (i : Int) ∧ jv = .int .i64 (j : Int) ∧ i ≤ j ∧ j ≤ hi ∧ lo ≤ i ∧ Aside0 (Srch (NotAhd3 cf L (nn - 1)) lo hi i j) ∧ Aside0 (RowAt wr blk L) ∧ Aside0 (w.grownBy wr (some blk))) (fun iv jv _ => (intOf jv).toNat - (intOf iv).toNat)
 case atStart => exact ⟨lo,hi,rfl,by have := HQ.out.2.2.2.2;rw [this],lohi,Nat.le_refl _,Nat.le_refl _,HS,H,HG⟩
 case round =>
  clear HS H HG
  obtain ⟨i,j,rfl,rfl,hij,hjb,hai,HS,H,HG⟩ := hrel
  by_cases hlt : i < j
  ·go_wp2_with (fail)
   obtain ⟨c,hc⟩ : ∃ c : Nat,((i : Int) + (j : Int)) / 2 = (c : Int) := ⟨(i + j) / 2,by omega⟩
   have hc1 : i ≤ c := by omega
   have hc2 : c < j := by omega
   rw [hc]
   clear hc
   obtain ⟨d,hd⟩ : ∃ d : Nat,d + c = p := ⟨p - c,by omega⟩
   have hdn : d < n := by omega
   have DE := Aside0.mk (show nn - 1 - c = d by have := HPP.out;omega)
   have p0 : (0 : Int) ≤ (c : Int) := by omega
   have p1 : (c : Int) < (n : Int) := by omega
   have p2 : (0 : Int) ≤ (d : Int) := by omega
   have p3 : (d : Int) < (n : Int) := by omega
   have pd : (p : Int) - (c : Int) = (d : Int) := by omega
   have pw : IntKind.i64.wrap (d : Int) = (d : Int) := by rw [IntKind.wrap_i64];omega
   have pw2 : IntKind.i64.wrap ((p : Int) - (c : Int)) = (d : Int) := by rw [pd,pw]
   obtain ⟨x0,z,hbl,gx⟩ := H.out.cell (i := d) (by have := HL.out;omega)
   obtain ⟨y0,_,_,gy⟩ := H.out.cell (i := c) (by have := HL.out;omega)
   have BL := Aside0.mk hbl
   clear hbl z
   generalize hx : atL L d = ex at x0 gx
   generalize hy : atL L c = ey at y0 gy
   have HXE := Aside0.mk hx
   have HYE := Aside0.mk hy
   clear hx hy
   by_cases hv : cf ex.1 ey.1 < 0
   ·have c0 : decide (cf ex.1 ey.1 < 0) = true := decide_eq_true hv
    have SU := Aside0.mk (HS.out.down MN.out hc1 hc2 (show ¬ NotAhd3 cf L (nn - 1) c by unfold NotAhd3;rw [DE.out,HXE.out,HYE.out];exact fun q => q hv))
    clear hv HXE HYE
    go_region_held3 (fun w' => w'.cell? ⟨blk,d,none⟩ = some (.slice ex.1.A ex.1.row.length ex.1.c) ∧ w'.cell? ⟨blk,c,none⟩ = some (.slice ey.1.A ey.1.row.length ey.1.c)) (first | go_keep | exact ⟨by assumption,by assumption⟩) (first | (go_at_call 13;refine (hC.calls ex.1 ey.1 _ blk ?_ ?_).mono ?_;exact gx;exact gy;rintro e w2 ⟨rfl,hb2⟩;have N2 := Aside0.mk (sameW_next (w1 := wr) hb2);clear hb2;have u0 := (N2.out.cell (p := ⟨blk,d,none⟩) BL.out).trans x0;have v0 := (N2.out.cell (p := ⟨blk,c,none⟩) BL.out).trans y0))
    have R2 := Aside0.mk (H.out.below N2.out)
    have G1 := Aside0.mk (only_belowT HG.out N2.out)
    clear x0 gx y0 gy u0 v0 H HG HS BL N2
    go_wp2
    go_roundw
    case rel => exact ⟨i,c,rfl,rfl,by omega,by omega,hai,SU,R2,G1⟩
    case measure => simp [intOf];omega
   ·have c0 : decide (cf ex.1 ey.1 < 0) = false := decide_eq_false hv
    have SU := Aside0.mk (HS.out.up MN.out hc1 hc2 (show NotAhd3 cf L (nn - 1) c by unfold NotAhd3;rw [DE.out,HXE.out,HYE.out];exact hv))
    clear hv HXE HYE
    go_region_held3 (fun w' => w'.cell? ⟨blk,d,none⟩ = some (.slice ex.1.A ex.1.row.length ex.1.c) ∧ w'.cell? ⟨blk,c,none⟩ = some (.slice ey.1.A ey.1.row.length ey.1.c)) (first | go_keep | exact ⟨by assumption,by assumption⟩) (first | (go_at_call 13;refine (hC.calls ex.1 ey.1 _ blk ?_ ?_).mono ?_;exact gx;exact gy;rintro e w2 ⟨rfl,hb2⟩;have N2 := Aside0.mk (sameW_next (w1 := wr) hb2);clear hb2;have u0 := (N2.out.cell (p := ⟨blk,d,none⟩) BL.out).trans x0;have v0 := (N2.out.cell (p := ⟨blk,c,none⟩) BL.out).trans y0))
    have R2 := Aside0.mk (H.out.below N2.out)
    have G1 := Aside0.mk (only_belowT HG.out N2.out)
    clear x0 gx y0 gy u0 v0 H HG HS BL N2
    go_wp2
    go_roundw
    case rel => exact ⟨c + 1,j,by go_num,rfl,by omega,hjb,by omega,SU,R2,G1⟩
    case measure => simp [intOf];omega
  ·have hije : i = j := by omega
   subst hije
   obtain ⟨e,he⟩ : ∃ e : Nat,e + i = nn := ⟨nn - i,by omega⟩
   have HCUT : Aside0 (∃ A1 A2 B1 B2,Cut cf A B A1 A2 B1 B2 ∧ a + A1.length = i ∧ m + B1.length = e) := ⟨by
    obtain ⟨h1,h2,h3,h4,hl,hh⟩ := LOF.out
    exact TT.out.cut3 EL.out HP.out HM.out HB.out HS.out h1 h2 h3 h4 hl hh he⟩
   obtain ⟨A1,A2,B1,B2,hcut,hA1,hB1⟩ := HCUT.out
   have CT := Aside0.mk hcut
   have HA1 := Aside0.mk hA1
   have HB1 := Aside0.mk hB1
   have LA := Aside0.mk (show A.length = A1.length + A2.length by rw [hcut.eA];simp)
   have LB := Aside0.mk (show B.length = B1.length + B2.length by rw [hcut.eB];simp)
   have HMD := Aside0.mk (show i + B1.length = mid by have := HNN.out;omega)
   have ie : i ≤ m := by omega
   have me : m ≤ e := by omega
   have eb : e ≤ b := by have := LB.out;have := HB.out;omega
   have im : i ≤ mid := by have := HMD.out;omega
   have mde : mid ≤ e := by have := HNN.out;omega
   have ne : (nn : Int) - (i : Int) = (e : Int) := by omega
   clear hcut hA1 hB1 HCUT HS MN
   have rest : ∀ (wr : World),Aside0 (RowAt wr blk (P ++ A1 ++ B1 ++ (A2 ++ B2 ++ S))) → True := fun _ _ => trivial
   clear rest
   rcases Nat.lt_or_ge i m with q0 | q0
   ·rcases Nat.lt_or_ge m e with s0 | s0
    ·have Tim : decide (i < m) = true := decide_eq_true (by omega)
     have Timi : decide ((i : Int) < (m : Int)) = true := decide_eq_true (by omega)
     have Timl : (i : Int) < (m : Int) := by omega
     have Timn : i < m := by omega
     have Tme : decide (m < e) = true := decide_eq_true (by omega)
     have Tmei : decide ((m : Int) < (e : Int)) = true := decide_eq_true (by omega)
     have Tmel : (m : Int) < (e : Int) := by omega
     have Tmen : m < e := by omega
     go_wp2_with (fail)
     refine (rotate blk cap i m e n _ L (P ++ A1 ++ B1 ++ (A2 ++ B2 ++ S)) _ H.out (by have := HL.out;omega) (CT.out.turn EL.out HP.out HM.out HA1.out HB1.out q0 s0) (by omega) (by omega) HL.out).mono ?_
     rintro e1 w1 ⟨rfl,h1,hg⟩
     have H1 := Aside0.mk h1
     have G1 := Aside0.mk (only_trans HG.out hg)
     clear h1 hg H HG
     rcases Nat.lt_or_ge a i with q1 | q1
     ·rcases Nat.lt_or_ge i mid with s1 | s1
      ·have Tai : decide (a < i) = true := decide_eq_true (by omega)
       have Taii : decide ((a : Int) < (i : Int)) = true := decide_eq_true (by omega)
       have Tail : (a : Int) < (i : Int) := by omega
       have Tain : a < i := by omega
       have Timid : decide (i < mid) = true := decide_eq_true (by omega)
       have Timidi : decide ((i : Int) < (mid : Int)) = true := decide_eq_true (by omega)
       have Timidl : (i : Int) < (mid : Int) := by omega
       have Timidn : i < mid := by omega
       go_wp2_with (fail)
       refine (IH.out P A1 B1 (A2 ++ B2 ++ S) _ a i mid _ (by have := LA.out;have := LB.out;have := HA1.out;have := HB1.out;have := HM.out;have := HB.out;have := HNN.out;have := HMD.out;omega) H1.out (by have := HL.out;have := EL.out;rw [this] at HL;have := HL.out;have := LA.out;have := LB.out;simp at *;omega) (CT.out.two1 TT.out) rfl HP.out HA1.out HMD.out (by have := LA.out;have := LB.out;have := HA1.out;have := HB1.out;have := HM.out;have := HB.out;have := HNN.out;have := HMD.out;omega) (by have := LA.out;have := LB.out;have := HA1.out;have := HB1.out;have := HM.out;have := HB.out;have := HNN.out;have := HMD.out;omega)).mono ?_
       rintro e2 w2 ⟨rfl,⟨C1,h1,h2,h3⟩,hg⟩
       have HC1 := Aside0.mk (And.intro h2 h3)
       have H2 := Aside0.mk h1
       have G2 := Aside0.mk (only_trans G1.out hg)
       have HPC := Aside0.mk (show (P ++ C1).length = mid by have := h2.length_eq;have := HP.out;simp at *;have := LA.out;have := LB.out;have := HA1.out;have := HB1.out;have := HM.out;have := HB.out;have := HNN.out;have := HMD.out;omega)
       clear h1 h2 h3 hg H1 G1
       rcases Nat.lt_or_ge mid e with q2 | q2
       ·rcases Nat.lt_or_ge e b with s2 | s2
        ·have Tmide : decide (mid < e) = true := decide_eq_true (by omega)
         have Tmidei : decide ((mid : Int) < (e : Int)) = true := decide_eq_true (by omega)
         have Tmidel : (mid : Int) < (e : Int) := by omega
         have Tmiden : mid < e := by omega
         have Teb : decide (e < b) = true := decide_eq_true (by omega)
         have Tebi : decide ((e : Int) < (b : Int)) = true := decide_eq_true (by omega)
         have Tebl : (e : Int) < (b : Int) := by omega
         have Tebn : e < b := by omega
         go_wp2_with (fail)
         refine (IH.out (P ++ C1) A2 B2 S _ mid e b _ (by have := LA.out;have := LB.out;have := HA1.out;have := HB1.out;have := HM.out;have := HB.out;have := HNN.out;have := HMD.out;omega) H2.out (by have := HL.out;have := EL.out;rw [this] at HL;have := HL.out;have := LA.out;have := LB.out;have := HC1.out.1.length_eq;simp at *;omega) (CT.out.two2 TT.out) (by simp) HPC.out (by have := LA.out;have := LB.out;have := HA1.out;have := HB1.out;have := HM.out;have := HB.out;have := HNN.out;have := HMD.out;omega) (by have := LA.out;have := LB.out;have := HA1.out;have := HB1.out;have := HM.out;have := HB.out;have := HNN.out;have := HMD.out;omega) (by have := LA.out;have := LB.out;have := HA1.out;have := HB1.out;have := HM.out;have := HB.out;have := HNN.out;have := HMD.out;omega) (by have := LA.out;have := LB.out;have := HA1.out;have := HB1.out;have := HM.out;have := HB.out;have := HNN.out;have := HMD.out;omega)).mono ?_
         rintro e2 w3 ⟨rfl,⟨C2,h1,h2,h3⟩,hg⟩
         have FIN : Aside0 (Merged cf P A B S blk w (.returned (.tuple #[])) w3) := ⟨⟨rfl,⟨C1 ++ C2,by rw [show P ++ (C1 ++ C2) ++ S = P ++ C1 ++ C2 ++ S by simp];exact h1,(CT.out.join TT.out HC1.out.1 HC1.out.2 h2 h3).1,(CT.out.join TT.out HC1.out.1 HC1.out.2 h2 h3).2⟩,only_trans G2.out hg⟩⟩
         clear h1 h2 h3 hg H2 G2
         go_wp2_with (fail)
         refine bodyPost_ret (results_none rfl _ _ _) rfl ?_
         exact FIN.out
        ·have Tmide : decide (mid < e) = true := decide_eq_true (by omega)
         have Tmidei : decide ((mid : Int) < (e : Int)) = true := decide_eq_true (by omega)
         have Tmidel : (mid : Int) < (e : Int) := by omega
         have Tmiden : mid < e := by omega
         have Teb : decide (e < b) = false := decide_eq_false (by omega)
         have Tebi : decide ((e : Int) < (b : Int)) = false := decide_eq_false (by omega)
         have Tebl : (b : Int) ≤ (e : Int) := by omega
         have Tebn : b ≤ e := by omega
         have FL := Aside0.mk (CT.out.flat2 TT.out (by have := LA.out;have := LB.out;have := HA1.out;have := HB1.out;have := HM.out;have := HB.out;have := HNN.out;have := HMD.out;omega))
         have FIN : Aside0 (Merged cf P A B S blk w (.returned (.tuple #[])) w2) := ⟨⟨rfl,⟨C1 ++ (A2 ++ B2),by rw [show P ++ (C1 ++ (A2 ++ B2)) ++ S = P ++ C1 ++ (A2 ++ B2 ++ S) by simp];exact H2.out,(CT.out.join TT.out HC1.out.1 HC1.out.2 (List.Perm.refl _) FL.out).1,(CT.out.join TT.out HC1.out.1 HC1.out.2 (List.Perm.refl _) FL.out).2⟩,G2.out⟩⟩
         clear H2 G2 FL
         go_wp2_with (fail)
         refine bodyPost_ret (results_none rfl _ _ _) rfl ?_
         exact FIN.out
       ·have Tmide : decide (mid < e) = false := decide_eq_false (by omega)
        have Tmidei : decide ((mid : Int) < (e : Int)) = false := decide_eq_false (by omega)
        have Tmidel : (e : Int) ≤ (mid : Int) := by omega
        have Tmiden : e ≤ mid := by omega
        have FL := Aside0.mk (CT.out.flat2 TT.out (by have := LA.out;have := LB.out;have := HA1.out;have := HB1.out;have := HM.out;have := HB.out;have := HNN.out;have := HMD.out;omega))
        have FIN : Aside0 (Merged cf P A B S blk w (.returned (.tuple #[])) w2) := ⟨⟨rfl,⟨C1 ++ (A2 ++ B2),by rw [show P ++ (C1 ++ (A2 ++ B2)) ++ S = P ++ C1 ++ (A2 ++ B2 ++ S) by simp];exact H2.out,(CT.out.join TT.out HC1.out.1 HC1.out.2 (List.Perm.refl _) FL.out).1,(CT.out.join TT.out HC1.out.1 HC1.out.2 (List.Perm.refl _) FL.out).2⟩,G2.out⟩⟩
        clear H2 G2 FL
        go_wp2_with (fail)
        refine bodyPost_ret (results_none rfl _ _ _) rfl ?_
        exact FIN.out
      ·have Tai : decide (a < i) = true := decide_eq_true (by omega)
       have Taii : decide ((a : Int) < (i : Int)) = true := decide_eq_true (by omega)
       have Tail : (a : Int) < (i : Int) := by omega
       have Tain : a < i := by omega
       have Timid : decide (i < mid) = false := decide_eq_false (by omega)
       have Timidi : decide ((i : Int) < (mid : Int)) = false := decide_eq_false (by omega)
       have Timidl : (mid : Int) ≤ (i : Int) := by omega
       have Timidn : mid ≤ i := by omega
       obtain ⟨C1,hC1⟩ : ∃ C1,C1 = A1 ++ B1 := ⟨_,rfl⟩
       have HC1 : Aside0 (C1.Perm (A1 ++ B1) ∧ Sorted cf C1) := ⟨by rw [hC1];exact ⟨List.Perm.refl _,CT.out.flat1 TT.out (by have := LA.out;have := LB.out;have := HA1.out;have := HB1.out;have := HM.out;have := HB.out;have := HNN.out;have := HMD.out;omega)⟩⟩
       have H2 : Aside0 (RowAt w1 blk (P ++ C1 ++ (A2 ++ B2 ++ S))) := ⟨by have := H1.out;rw [hC1];rw [← List.append_assoc P A1 B1];exact this⟩
       have HPC := Aside0.mk (show (P ++ C1).length = mid by have := HP.out;rw [hC1];simp at *;have := LA.out;have := LB.out;have := HA1.out;have := HB1.out;have := HM.out;have := HB.out;have := HNN.out;have := HMD.out;omega)
       have G2 := G1
       clear hC1 H1 G1
       rcases Nat.lt_or_ge mid e with q2 | q2
       ·rcases Nat.lt_or_ge e b with s2 | s2
        ·have Tmide : decide (mid < e) = true := decide_eq_true (by omega)
         have Tmidei : decide ((mid : Int) < (e : Int)) = true := decide_eq_true (by omega)
         have Tmidel : (mid : Int) < (e : Int) := by omega
         have Tmiden : mid < e := by omega
         have Teb : decide (e < b) = true := decide_eq_true (by omega)
         have Tebi : decide ((e : Int) < (b : Int)) = true := decide_eq_true (by omega)
         have Tebl : (e : Int) < (b : Int) := by omega
         have Tebn : e < b := by omega
         go_wp2_with (fail)
         refine (IH.out (P ++ C1) A2 B2 S _ mid e b _ (by have := LA.out;have := LB.out;have := HA1.out;have := HB1.out;have := HM.out;have := HB.out;have := HNN.out;have := HMD.out;omega) H2.out (by have := HL.out;have := EL.out;rw [this] at HL;have := HL.out;have := LA.out;have := LB.out;have := HC1.out.1.length_eq;simp at *;omega) (CT.out.two2 TT.out) (by simp) HPC.out (by have := LA.out;have := LB.out;have := HA1.out;have := HB1.out;have := HM.out;have := HB.out;have := HNN.out;have := HMD.out;omega) (by have := LA.out;have := LB.out;have := HA1.out;have := HB1.out;have := HM.out;have := HB.out;have := HNN.out;have := HMD.out;omega) (by have := LA.out;have := LB.out;have := HA1.out;have := HB1.out;have := HM.out;have := HB.out;have := HNN.out;have := HMD.out;omega) (by have := LA.out;have := LB.out;have := HA1.out;have := HB1.out;have := HM.out;have := HB.out;have := HNN.out;have := HMD.out;omega)).mono ?_
         rintro e2 w3 ⟨rfl,⟨C2,h1,h2,h3⟩,hg⟩
         have FIN : Aside0 (Merged cf P A B S blk w (.returned (.tuple #[])) w3) := ⟨⟨rfl,⟨C1 ++ C2,by rw [show P ++ (C1 ++ C2) ++ S = P ++ C1 ++ C2 ++ S by simp];exact h1,(CT.out.join TT.out HC1.out.1 HC1.out.2 h2 h3).1,(CT.out.join TT.out HC1.out.1 HC1.out.2 h2 h3).2⟩,only_trans G2.out hg⟩⟩
         clear h1 h2 h3 hg H2 G2
         go_wp2_with (fail)
         refine bodyPost_ret (results_none rfl _ _ _) rfl ?_
         exact FIN.out
        ·have Tmide : decide (mid < e) = true := decide_eq_true (by omega)
         have Tmidei : decide ((mid : Int) < (e : Int)) = true := decide_eq_true (by omega)
         have Tmidel : (mid : Int) < (e : Int) := by omega
         have Tmiden : mid < e := by omega
         have Teb : decide (e < b) = false := decide_eq_false (by omega)
         have Tebi : decide ((e : Int) < (b : Int)) = false := decide_eq_false (by omega)
         have Tebl : (b : Int) ≤ (e : Int) := by omega
         have Tebn : b ≤ e := by omega
         have FL := Aside0.mk (CT.out.flat2 TT.out (by have := LA.out;have := LB.out;have := HA1.out;have := HB1.out;have := HM.out;have := HB.out;have := HNN.out;have := HMD.out;omega))
         have FIN : Aside0 (Merged cf P A B S blk w (.returned (.tuple #[])) w1) := ⟨⟨rfl,⟨C1 ++ (A2 ++ B2),by rw [show P ++ (C1 ++ (A2 ++ B2)) ++ S = P ++ C1 ++ (A2 ++ B2 ++ S) by simp];exact H2.out,(CT.out.join TT.out HC1.out.1 HC1.out.2 (List.Perm.refl _) FL.out).1,(CT.out.join TT.out HC1.out.1 HC1.out.2 (List.Perm.refl _) FL.out).2⟩,G2.out⟩⟩
         clear H2 G2 FL
         go_wp2_with (fail)
         refine bodyPost_ret (results_none rfl _ _ _) rfl ?_
         exact FIN.out
       ·have Tmide : decide (mid < e) = false := decide_eq_false (by omega)
        have Tmidei : decide ((mid : Int) < (e : Int)) = false := decide_eq_false (by omega)
        have Tmidel : (e : Int) ≤ (mid : Int) := by omega
        have Tmiden : e ≤ mid := by omega
        have FL := Aside0.mk (CT.out.flat2 TT.out (by have := LA.out;have := LB.out;have := HA1.out;have := HB1.out;have := HM.out;have := HB.out;have := HNN.out;have := HMD.out;omega))
        have FIN : Aside0 (Merged cf P A B S blk w (.returned (.tuple #[])) w1) := ⟨⟨rfl,⟨C1 ++ (A2 ++ B2),by rw [show P ++ (C1 ++ (A2 ++ B2)) ++ S = P ++ C1 ++ (A2 ++ B2 ++ S) by simp];exact H2.out,(CT.out.join TT.out HC1.out.1 HC1.out.2 (List.Perm.refl _) FL.out).1,(CT.out.join TT.out HC1.out.1 HC1.out.2 (List.Perm.refl _) FL.out).2⟩,G2.out⟩⟩
        clear H2 G2 FL
        go_wp2_with (fail)
        refine bodyPost_ret (results_none rfl _ _ _) rfl ?_
        exact FIN.out
     ·have Tai : decide (a < i) = false := decide_eq_false (by omega)
      have Taii : decide ((a : Int) < (i : Int)) = false := decide_eq_false (by omega)
      have Tail : (i : Int) ≤ (a : Int) := by omega
      have Tain : i ≤ a := by omega
      obtain ⟨C1,hC1⟩ : ∃ C1,C1 = A1 ++ B1 := ⟨_,rfl⟩
      have HC1 : Aside0 (C1.Perm (A1 ++ B1) ∧ Sorted cf C1) := ⟨by rw [hC1];exact ⟨List.Perm.refl _,CT.out.flat1 TT.out (by have := LA.out;have := LB.out;have := HA1.out;have := HB1.out;have := HM.out;have := HB.out;have := HNN.out;have := HMD.out;omega)⟩⟩
      have H2 : Aside0 (RowAt w1 blk (P ++ C1 ++ (A2 ++ B2 ++ S))) := ⟨by have := H1.out;rw [hC1];rw [← List.append_assoc P A1 B1];exact this⟩
      have HPC := Aside0.mk (show (P ++ C1).length = mid by have := HP.out;rw [hC1];simp at *;have := LA.out;have := LB.out;have := HA1.out;have := HB1.out;have := HM.out;have := HB.out;have := HNN.out;have := HMD.out;omega)
      have G2 := G1
      clear hC1 H1 G1
      rcases Nat.lt_or_ge mid e with q2 | q2
      ·rcases Nat.lt_or_ge e b with s2 | s2
       ·have Tmide : decide (mid < e) = true := decide_eq_true (by omega)
        have Tmidei : decide ((mid : Int) < (e : Int)) = true := decide_eq_true (by omega)
        have Tmidel : (mid : Int) < (e : Int) := by omega
        have Tmiden : mid < e := by omega
        have Teb : decide (e < b) = true := decide_eq_true (by omega)
        have Tebi : decide ((e : Int) < (b : Int)) = true := decide_eq_true (by omega)
        have Tebl : (e : Int) < (b : Int) := by omega
        have Tebn : e < b := by omega
        go_wp2_with (fail)
        refine (IH.out (P ++ C1) A2 B2 S _ mid e b _ (by have := LA.out;have := LB.out;have := HA1.out;have := HB1.out;have := HM.out;have := HB.out;have := HNN.out;have := HMD.out;omega) H2.out (by have := HL.out;have := EL.out;rw [this] at HL;have := HL.out;have := LA.out;have := LB.out;have := HC1.out.1.length_eq;simp at *;omega) (CT.out.two2 TT.out) (by simp) HPC.out (by have := LA.out;have := LB.out;have := HA1.out;have := HB1.out;have := HM.out;have := HB.out;have := HNN.out;have := HMD.out;omega) (by have := LA.out;have := LB.out;have := HA1.out;have := HB1.out;have := HM.out;have := HB.out;have := HNN.out;have := HMD.out;omega) (by have := LA.out;have := LB.out;have := HA1.out;have := HB1.out;have := HM.out;have := HB.out;have := HNN.out;have := HMD.out;omega) (by have := LA.out;have := LB.out;have := HA1.out;have := HB1.out;have := HM.out;have := HB.out;have := HNN.out;have := HMD.out;omega)).mono ?_
        rintro e2 w3 ⟨rfl,⟨C2,h1,h2,h3⟩,hg⟩
        have FIN : Aside0 (Merged cf P A B S blk w (.returned (.tuple #[])) w3) := ⟨⟨rfl,⟨C1 ++ C2,by rw [show P ++ (C1 ++ C2) ++ S = P ++ C1 ++ C2 ++ S by simp];exact h1,(CT.out.join TT.out HC1.out.1 HC1.out.2 h2 h3).1,(CT.out.join TT.out HC1.out.1 HC1.out.2 h2 h3).2⟩,only_trans G2.out hg⟩⟩
        clear h1 h2 h3 hg H2 G2
        go_wp2_with (fail)
        refine bodyPost_ret (results_none rfl _ _ _) rfl ?_
        exact FIN.out
       ·have Tmide : decide (mid < e) = true := decide_eq_true (by omega)
        have Tmidei : decide ((mid : Int) < (e : Int)) = true := decide_eq_true (by omega)
        have Tmidel : (mid : Int) < (e : Int) := by omega
        have Tmiden : mid < e := by omega
        have Teb : decide (e < b) = false := decide_eq_false (by omega)
        have Tebi : decide ((e : Int) < (b : Int)) = false := decide_eq_false (by omega)
        have Tebl : (b : Int) ≤ (e : Int) := by omega
        have Tebn : b ≤ e := by omega
        have FL := Aside0.mk (CT.out.flat2 TT.out (by have := LA.out;have := LB.out;have := HA1.out;have := HB1.out;have := HM.out;have := HB.out;have := HNN.out;have := HMD.out;omega))
        have FIN : Aside0 (Merged cf P A B S blk w (.returned (.tuple #[])) w1) := ⟨⟨rfl,⟨C1 ++ (A2 ++ B2),by rw [show P ++ (C1 ++ (A2 ++ B2)) ++ S = P ++ C1 ++ (A2 ++ B2 ++ S) by simp];exact H2.out,(CT.out.join TT.out HC1.out.1 HC1.out.2 (List.Perm.refl _) FL.out).1,(CT.out.join TT.out HC1.out.1 HC1.out.2 (List.Perm.refl _) FL.out).2⟩,G2.out⟩⟩
        clear H2 G2 FL
        go_wp2_with (fail)
        refine bodyPost_ret (results_none rfl _ _ _) rfl ?_
        exact FIN.out
      ·have Tmide : decide (mid < e) = false := decide_eq_false (by omega)
       have Tmidei : decide ((mid : Int) < (e : Int)) = false := decide_eq_false (by omega)
       have Tmidel : (e : Int) ≤ (mid : Int) := by omega
       have Tmiden : e ≤ mid := by omega
       have FL := Aside0.mk (CT.out.flat2 TT.out (by have := LA.out;have := LB.out;have := HA1.out;have := HB1.out;have := HM.out;have := HB.out;have := HNN.out;have := HMD.out;omega))
       have FIN : Aside0 (Merged cf P A B S blk w (.returned (.tuple #[])) w1) := ⟨⟨rfl,⟨C1 ++ (A2 ++ B2),by rw [show P ++ (C1 ++ (A2 ++ B2)) ++ S = P ++ C1 ++ (A2 ++ B2 ++ S) by simp];exact H2.out,(CT.out.join TT.out HC1.out.1 HC1.out.2 (List.Perm.refl _) FL.out).1,(CT.out.join TT.out HC1.out.1 HC1.out.2 (List.Perm.refl _) FL.out).2⟩,G2.out⟩⟩
       clear H2 G2 FL
       go_wp2_with (fail)
       refine bodyPost_ret (results_none rfl _ _ _) rfl ?_
       exact FIN.out
    ·have Tim : decide (i < m) = true := decide_eq_true (by omega)
     have Timi : decide ((i : Int) < (m : Int)) = true := decide_eq_true (by omega)
     have Timl : (i : Int) < (m : Int) := by omega
     have Timn : i < m := by omega
     have Tme : decide (m < e) = false := decide_eq_false (by omega)
     have Tmei : decide ((m : Int) < (e : Int)) = false := decide_eq_false (by omega)
     have Tmel : (e : Int) ≤ (m : Int) := by omega
     have Tmen : e ≤ m := by omega
     have H1 := Aside0.mk (show RowAt wr blk (P ++ A1 ++ B1 ++ (A2 ++ B2 ++ S)) by have := H.out;rwa [CT.out.noturn EL.out HP.out HM.out HA1.out HB1.out (by omega)] at this)
     have G1 := HG
     clear H HG
     rcases Nat.lt_or_ge a i with q1 | q1
     ·rcases Nat.lt_or_ge i mid with s1 | s1
      ·have Tai : decide (a < i) = true := decide_eq_true (by omega)
       have Taii : decide ((a : Int) < (i : Int)) = true := decide_eq_true (by omega)
       have Tail : (a : Int) < (i : Int) := by omega
       have Tain : a < i := by omega
       have Timid : decide (i < mid) = true := decide_eq_true (by omega)
       have Timidi : decide ((i : Int) < (mid : Int)) = true := decide_eq_true (by omega)
       have Timidl : (i : Int) < (mid : Int) := by omega
       have Timidn : i < mid := by omega
       go_wp2_with (fail)
       refine (IH.out P A1 B1 (A2 ++ B2 ++ S) _ a i mid _ (by have := LA.out;have := LB.out;have := HA1.out;have := HB1.out;have := HM.out;have := HB.out;have := HNN.out;have := HMD.out;omega) H1.out (by have := HL.out;have := EL.out;rw [this] at HL;have := HL.out;have := LA.out;have := LB.out;simp at *;omega) (CT.out.two1 TT.out) rfl HP.out HA1.out HMD.out (by have := LA.out;have := LB.out;have := HA1.out;have := HB1.out;have := HM.out;have := HB.out;have := HNN.out;have := HMD.out;omega) (by have := LA.out;have := LB.out;have := HA1.out;have := HB1.out;have := HM.out;have := HB.out;have := HNN.out;have := HMD.out;omega)).mono ?_
       rintro e2 w2 ⟨rfl,⟨C1,h1,h2,h3⟩,hg⟩
       have HC1 := Aside0.mk (And.intro h2 h3)
       have H2 := Aside0.mk h1
       have G2 := Aside0.mk (only_trans G1.out hg)
       have HPC := Aside0.mk (show (P ++ C1).length = mid by have := h2.length_eq;have := HP.out;simp at *;have := LA.out;have := LB.out;have := HA1.out;have := HB1.out;have := HM.out;have := HB.out;have := HNN.out;have := HMD.out;omega)
       clear h1 h2 h3 hg H1 G1
       rcases Nat.lt_or_ge mid e with q2 | q2
       ·rcases Nat.lt_or_ge e b with s2 | s2
        ·have Tmide : decide (mid < e) = true := decide_eq_true (by omega)
         have Tmidei : decide ((mid : Int) < (e : Int)) = true := decide_eq_true (by omega)
         have Tmidel : (mid : Int) < (e : Int) := by omega
         have Tmiden : mid < e := by omega
         have Teb : decide (e < b) = true := decide_eq_true (by omega)
         have Tebi : decide ((e : Int) < (b : Int)) = true := decide_eq_true (by omega)
         have Tebl : (e : Int) < (b : Int) := by omega
         have Tebn : e < b := by omega
         go_wp2_with (fail)
         refine (IH.out (P ++ C1) A2 B2 S _ mid e b _ (by have := LA.out;have := LB.out;have := HA1.out;have := HB1.out;have := HM.out;have := HB.out;have := HNN.out;have := HMD.out;omega) H2.out (by have := HL.out;have := EL.out;rw [this] at HL;have := HL.out;have := LA.out;have := LB.out;have := HC1.out.1.length_eq;simp at *;omega) (CT.out.two2 TT.out) (by simp) HPC.out (by have := LA.out;have := LB.out;have := HA1.out;have := HB1.out;have := HM.out;have := HB.out;have := HNN.out;have := HMD.out;omega) (by have := LA.out;have := LB.out;have := HA1.out;have := HB1.out;have := HM.out;have := HB.out;have := HNN.out;have := HMD.out;omega) (by have := LA.out;have := LB.out;have := HA1.out;have := HB1.out;have := HM.out;have := HB.out;have := HNN.out;have := HMD.out;omega) (by have := LA.out;have := LB.out;have := HA1.out;have := HB1.out;have := HM.out;have := HB.out;have := HNN.out;have := HMD.out;omega)).mono ?_
         rintro e2 w3 ⟨rfl,⟨C2,h1,h2,h3⟩,hg⟩
         have FIN : Aside0 (Merged cf P A B S blk w (.returned (.tuple #[])) w3) := ⟨⟨rfl,⟨C1 ++ C2,by rw [show P ++ (C1 ++ C2) ++ S = P ++ C1 ++ C2 ++ S by simp];exact h1,(CT.out.join TT.out HC1.out.1 HC1.out.2 h2 h3).1,(CT.out.join TT.out HC1.out.1 HC1.out.2 h2 h3).2⟩,only_trans G2.out hg⟩⟩
         clear h1 h2 h3 hg H2 G2
         go_wp2_with (fail)
         refine bodyPost_ret (results_none rfl _ _ _) rfl ?_
         exact FIN.out
        ·have Tmide : decide (mid < e) = true := decide_eq_true (by omega)
         have Tmidei : decide ((mid : Int) < (e : Int)) = true := decide_eq_true (by omega)
         have Tmidel : (mid : Int) < (e : Int) := by omega
         have Tmiden : mid < e := by omega
         have Teb : decide (e < b) = false := decide_eq_false (by omega)
         have Tebi : decide ((e : Int) < (b : Int)) = false := decide_eq_false (by omega)
         have Tebl : (b : Int) ≤ (e : Int) := by omega
         have Tebn : b ≤ e := by omega
         have FL := Aside0.mk (CT.out.flat2 TT.out (by have := LA.out;have := LB.out;have := HA1.out;have := HB1.out;have := HM.out;have := HB.out;have := HNN.out;have := HMD.out;omega))
         have FIN : Aside0 (Merged cf P A B S blk w (.returned (.tuple #[])) w2) := ⟨⟨rfl,⟨C1 ++ (A2 ++ B2),by rw [show P ++ (C1 ++ (A2 ++ B2)) ++ S = P ++ C1 ++ (A2 ++ B2 ++ S) by simp];exact H2.out,(CT.out.join TT.out HC1.out.1 HC1.out.2 (List.Perm.refl _) FL.out).1,(CT.out.join TT.out HC1.out.1 HC1.out.2 (List.Perm.refl _) FL.out).2⟩,G2.out⟩⟩
         clear H2 G2 FL
         go_wp2_with (fail)
         refine bodyPost_ret (results_none rfl _ _ _) rfl ?_
         exact FIN.out
       ·have Tmide : decide (mid < e) = false := decide_eq_false (by omega)
        have Tmidei : decide ((mid : Int) < (e : Int)) = false := decide_eq_false (by omega)
        have Tmidel : (e : Int) ≤ (mid : Int) := by omega
        have Tmiden : e ≤ mid := by omega
        have FL := Aside0.mk (CT.out.flat2 TT.out (by have := LA.out;have := LB.out;have := HA1.out;have := HB1.out;have := HM.out;have := HB.out;have := HNN.out;have := HMD.out;omega))
        have FIN : Aside0 (Merged cf P A B S blk w (.returned (.tuple #[])) w2) := ⟨⟨rfl,⟨C1 ++ (A2 ++ B2),by rw [show P ++ (C1 ++ (A2 ++ B2)) ++ S = P ++ C1 ++ (A2 ++ B2 ++ S) by simp];exact H2.out,(CT.out.join TT.out HC1.out.1 HC1.out.2 (List.Perm.refl _) FL.out).1,(CT.out.join TT.out HC1.out.1 HC1.out.2 (List.Perm.refl _) FL.out).2⟩,G2.out⟩⟩
        clear H2 G2 FL
        go_wp2_with (fail)
        refine bodyPost_ret (results_none rfl _ _ _) rfl ?_
        exact FIN.out
      ·have Tai : decide (a < i) = true := decide_eq_true (by omega)
       have Taii : decide ((a : Int) < (i : Int)) = true := decide_eq_true (by omega)
       have Tail : (a : Int) < (i : Int) := by omega
       have Tain : a < i := by omega
       have Timid : decide (i < mid) = false := decide_eq_false (by omega)
       have Timidi : decide ((i : Int) < (mid : Int)) = false := decide_eq_false (by omega)
       have Timidl : (mid : Int) ≤ (i : Int) := by omega
       have Timidn : mid ≤ i := by omega
       obtain ⟨C1,hC1⟩ : ∃ C1,C1 = A1 ++ B1 := ⟨_,rfl⟩
       have HC1 : Aside0 (C1.Perm (A1 ++ B1) ∧ Sorted cf C1) := ⟨by rw [hC1];exact ⟨List.Perm.refl _,CT.out.flat1 TT.out (by have := LA.out;have := LB.out;have := HA1.out;have := HB1.out;have := HM.out;have := HB.out;have := HNN.out;have := HMD.out;omega)⟩⟩
       have H2 : Aside0 (RowAt wr blk (P ++ C1 ++ (A2 ++ B2 ++ S))) := ⟨by have := H1.out;rw [hC1];rw [← List.append_assoc P A1 B1];exact this⟩
       have HPC := Aside0.mk (show (P ++ C1).length = mid by have := HP.out;rw [hC1];simp at *;have := LA.out;have := LB.out;have := HA1.out;have := HB1.out;have := HM.out;have := HB.out;have := HNN.out;have := HMD.out;omega)
       have G2 := G1
       clear hC1 H1 G1
       rcases Nat.lt_or_ge mid e with q2 | q2
       ·rcases Nat.lt_or_ge e b with s2 | s2
        ·have Tmide : decide (mid < e) = true := decide_eq_true (by omega)
         have Tmidei : decide ((mid : Int) < (e : Int)) = true := decide_eq_true (by omega)
         have Tmidel : (mid : Int) < (e : Int) := by omega
         have Tmiden : mid < e := by omega
         have Teb : decide (e < b) = true := decide_eq_true (by omega)
         have Tebi : decide ((e : Int) < (b : Int)) = true := decide_eq_true (by omega)
         have Tebl : (e : Int) < (b : Int) := by omega
         have Tebn : e < b := by omega
         go_wp2_with (fail)
         refine (IH.out (P ++ C1) A2 B2 S _ mid e b _ (by have := LA.out;have := LB.out;have := HA1.out;have := HB1.out;have := HM.out;have := HB.out;have := HNN.out;have := HMD.out;omega) H2.out (by have := HL.out;have := EL.out;rw [this] at HL;have := HL.out;have := LA.out;have := LB.out;have := HC1.out.1.length_eq;simp at *;omega) (CT.out.two2 TT.out) (by simp) HPC.out (by have := LA.out;have := LB.out;have := HA1.out;have := HB1.out;have := HM.out;have := HB.out;have := HNN.out;have := HMD.out;omega) (by have := LA.out;have := LB.out;have := HA1.out;have := HB1.out;have := HM.out;have := HB.out;have := HNN.out;have := HMD.out;omega) (by have := LA.out;have := LB.out;have := HA1.out;have := HB1.out;have := HM.out;have := HB.out;have := HNN.out;have := HMD.out;omega) (by have := LA.out;have := LB.out;have := HA1.out;have := HB1.out;have := HM.out;have := HB.out;have := HNN.out;have := HMD.out;omega)).mono ?_
         rintro e2 w3 ⟨rfl,⟨C2,h1,h2,h3⟩,hg⟩
         have FIN : Aside0 (Merged cf P A B S blk w (.returned (.tuple #[])) w3) := ⟨⟨rfl,⟨C1 ++ C2,by rw [show P ++ (C1 ++ C2) ++ S = P ++ C1 ++ C2 ++ S by simp];exact h1,(CT.out.join TT.out HC1.out.1 HC1.out.2 h2 h3).1,(CT.out.join TT.out HC1.out.1 HC1.out.2 h2 h3).2⟩,only_trans G2.out hg⟩⟩
         clear h1 h2 h3 hg H2 G2
         go_wp2_with (fail)
         refine bodyPost_ret (results_none rfl _ _ _) rfl ?_
         exact FIN.out
        ·have Tmide : decide (mid < e) = true := decide_eq_true (by omega)
         have Tmidei : decide ((mid : Int) < (e : Int)) = true := decide_eq_true (by omega)
         have Tmidel : (mid : Int) < (e : Int) := by omega
         have Tmiden : mid < e := by omega
         have Teb : decide (e < b) = false := decide_eq_false (by omega)
         have Tebi : decide ((e : Int) < (b : Int)) = false := decide_eq_false (by omega)
         have Tebl : (b : Int) ≤ (e : Int) := by omega
         have Tebn : b ≤ e := by omega
         have FL := Aside0.mk (CT.out.flat2 TT.out (by have := LA.out;have := LB.out;have := HA1.out;have := HB1.out;have := HM.out;have := HB.out;have := HNN.out;have := HMD.out;omega))
         have FIN : Aside0 (Merged cf P A B S blk w (.returned (.tuple #[])) wr) := ⟨⟨rfl,⟨C1 ++ (A2 ++ B2),by rw [show P ++ (C1 ++ (A2 ++ B2)) ++ S = P ++ C1 ++ (A2 ++ B2 ++ S) by simp];exact H2.out,(CT.out.join TT.out HC1.out.1 HC1.out.2 (List.Perm.refl _) FL.out).1,(CT.out.join TT.out HC1.out.1 HC1.out.2 (List.Perm.refl _) FL.out).2⟩,G2.out⟩⟩
         clear H2 G2 FL
         go_wp2_with (fail)
         refine bodyPost_ret (results_none rfl _ _ _) rfl ?_
         exact FIN.out
       ·have Tmide : decide (mid < e) = false := decide_eq_false (by omega)
        have Tmidei : decide ((mid : Int) < (e : Int)) = false := decide_eq_false (by omega)
        have Tmidel : (e : Int) ≤ (mid : Int) := by omega
        have Tmiden : e ≤ mid := by omega
        have FL := Aside0.mk (CT.out.flat2 TT.out (by have := LA.out;have := LB.out;have := HA1.out;have := HB1.out;have := HM.out;have := HB.out;have := HNN.out;have := HMD.out;omega))
        have FIN : Aside0 (Merged cf P A B S blk w (.returned (.tuple #[])) wr) := ⟨⟨rfl,⟨C1 ++ (A2 ++ B2),by rw [show P ++ (C1 ++ (A2 ++ B2)) ++ S = P ++ C1 ++ (A2 ++ B2 ++ S) by simp];exact H2.out,(CT.out.join TT.out HC1.out.1 HC1.out.2 (List.Perm.refl _) FL.out).1,(CT.out.join TT.out HC1.out.1 HC1.out.2 (List.Perm.refl _) FL.out).2⟩,G2.out⟩⟩
        clear H2 G2 FL
        go_wp2_with (fail)
        refine bodyPost_ret (results_none rfl _ _ _) rfl ?_
        exact FIN.out
     ·have Tai : decide (a < i) = false := decide_eq_false (by omega)
      have Taii : decide ((a : Int) < (i : Int)) = false := decide_eq_false (by omega)
      have Tail : (i : Int) ≤ (a : Int) := by omega
      have Tain : i ≤ a := by omega
      obtain ⟨C1,hC1⟩ : ∃ C1,C1 = A1 ++ B1 := ⟨_,rfl⟩
      have HC1 : Aside0 (C1.Perm (A1 ++ B1) ∧ Sorted cf C1) := ⟨by rw [hC1];exact ⟨List.Perm.refl _,CT.out.flat1 TT.out (by have := LA.out;have := LB.out;have := HA1.out;have := HB1.out;have := HM.out;have := HB.out;have := HNN.out;have := HMD.out;omega)⟩⟩
      have H2 : Aside0 (RowAt wr blk (P ++ C1 ++ (A2 ++ B2 ++ S))) := ⟨by have := H1.out;rw [hC1];rw [← List.append_assoc P A1 B1];exact this⟩
      have HPC := Aside0.mk (show (P ++ C1).length = mid by have := HP.out;rw [hC1];simp at *;have := LA.out;have := LB.out;have := HA1.out;have := HB1.out;have := HM.out;have := HB.out;have := HNN.out;have := HMD.out;omega)
      have G2 := G1
      clear hC1 H1 G1
      rcases Nat.lt_or_ge mid e with q2 | q2
      ·rcases Nat.lt_or_ge e b with s2 | s2
       ·have Tmide : decide (mid < e) = true := decide_eq_true (by omega)
        have Tmidei : decide ((mid : Int) < (e : Int)) = true := decide_eq_true (by omega)
        have Tmidel : (mid : Int) < (e : Int) := by omega
        have Tmiden : mid < e := by omega
        have Teb : decide (e < b) = true := decide_eq_true (by omega)
        have Tebi : decide ((e : Int) < (b : Int)) = true := decide_eq_true (by omega)
        have Tebl : (e : Int) < (b : Int) := by omega
        have Tebn : e < b := by omega
        go_wp2_with (fail)
        refine (IH.out (P ++ C1) A2 B2 S _ mid e b _ (by have := LA.out;have := LB.out;have := HA1.out;have := HB1.out;have := HM.out;have := HB.out;have := HNN.out;have := HMD.out;omega) H2.out (by have := HL.out;have := EL.out;rw [this] at HL;have := HL.out;have := LA.out;have := LB.out;have := HC1.out.1.length_eq;simp at *;omega) (CT.out.two2 TT.out) (by simp) HPC.out (by have := LA.out;have := LB.out;have := HA1.out;have := HB1.out;have := HM.out;have := HB.out;have := HNN.out;have := HMD.out;omega) (by have := LA.out;have := LB.out;have := HA1.out;have := HB1.out;have := HM.out;have := HB.out;have := HNN.out;have := HMD.out;omega) (by have := LA.out;have := LB.out;have := HA1.out;have := HB1.out;have := HM.out;have := HB.out;have := HNN.out;have := HMD.out;omega) (by have := LA.out;have := LB.out;have := HA1.out;have := HB1.out;have := HM.out;have := HB.out;have := HNN.out;have := HMD.out;omega)).mono ?_
        rintro e2 w3 ⟨rfl,⟨C2,h1,h2,h3⟩,hg⟩
        have FIN : Aside0 (Merged cf P A B S blk w (.returned (.tuple #[])) w3) := ⟨⟨rfl,⟨C1 ++ C2,by rw [show P ++ (C1 ++ C2) ++ S = P ++ C1 ++ C2 ++ S by simp];exact h1,(CT.out.join TT.out HC1.out.1 HC1.out.2 h2 h3).1,(CT.out.join TT.out HC1.out.1 HC1.out.2 h2 h3).2⟩,only_trans G2.out hg⟩⟩
        clear h1 h2 h3 hg H2 G2
        go_wp2_with (fail)
        refine bodyPost_ret (results_none rfl _ _ _) rfl ?_
        exact FIN.out
       ·have Tmide : decide (mid < e) = true := decide_eq_true (by omega)
        have Tmidei : decide ((mid : Int) < (e : Int)) = true := decide_eq_true (by omega)
        have Tmidel : (mid : Int) < (e : Int) := by omega
        have Tmiden : mid < e := by omega
        have Teb : decide (e < b) = false := decide_eq_false (by omega)
        have Tebi : decide ((e : Int) < (b : Int)) = false := decide_eq_false (by omega)
        have Tebl : (b : Int) ≤ (e : Int) := by omega
        have Tebn : b ≤ e := by omega
        have FL := Aside0.mk (CT.out.flat2 TT.out (by have := LA.out;have := LB.out;have := HA1.out;have := HB1.out;have := HM.out;have := HB.out;have := HNN.out;have := HMD.out;omega))
        have FIN : Aside0 (Merged cf P A B S blk w (.returned (.tuple #[])) wr) := ⟨⟨rfl,⟨C1 ++ (A2 ++ B2),by rw [show P ++ (C1 ++ (A2 ++ B2)) ++ S = P ++ C1 ++ (A2 ++ B2 ++ S) by simp];exact H2.out,(CT.out.join TT.out HC1.out.1 HC1.out.2 (List.Perm.refl _) FL.out).1,(CT.out.join TT.out HC1.out.1 HC1.out.2 (List.Perm.refl _) FL.out).2⟩,G2.out⟩⟩
        clear H2 G2 FL
        go_wp2_with (fail)
        refine bodyPost_ret (results_none rfl _ _ _) rfl ?_
        exact FIN.out
      ·have Tmide : decide (mid < e) = false := decide_eq_false (by omega)
       have Tmidei : decide ((mid : Int) < (e : Int)) = false := decide_eq_false (by omega)
       have Tmidel : (e : Int) ≤ (mid : Int) := by omega
       have Tmiden : e ≤ mid := by omega
       have FL := Aside0.mk (CT.out.flat2 TT.out (by have := LA.out;have := LB.out;have := HA1.out;have := HB1.out;have := HM.out;have := HB.out;have := HNN.out;have := HMD.out;omega))
       have FIN : Aside0 (Merged cf P A B S blk w (.returned (.tuple #[])) wr) := ⟨⟨rfl,⟨C1 ++ (A2 ++ B2),by rw [show P ++ (C1 ++ (A2 ++ B2)) ++ S = P ++ C1 ++ (A2 ++ B2 ++ S) by simp];exact H2.out,(CT.out.join TT.out HC1.out.1 HC1.out.2 (List.Perm.refl _) FL.out).1,(CT.out.join TT.out HC1.out.1 HC1.out.2 (List.Perm.refl _) FL.out).2⟩,G2.out⟩⟩
       clear H2 G2 FL
       go_wp2_with (fail)
       refine bodyPost_ret (results_none rfl _ _ _) rfl ?_
       exact FIN.out
   ·have Tim : decide (i < m) = false := decide_eq_false (by omega)
    have Timi : decide ((i : Int) < (m : Int)) = false := decide_eq_false (by omega)
    have Timl : (m : Int) ≤ (i : Int) := by omega
    have Timn : m ≤ i := by omega
    have H1 := Aside0.mk (show RowAt wr blk (P ++ A1 ++ B1 ++ (A2 ++ B2 ++ S)) by have := H.out;rwa [CT.out.noturn EL.out HP.out HM.out HA1.out HB1.out (by omega)] at this)
    have G1 := HG
    clear H HG
    rcases Nat.lt_or_ge a i with q1 | q1
    ·rcases Nat.lt_or_ge i mid with s1 | s1
     ·have Tai : decide (a < i) = true := decide_eq_true (by omega)
      have Taii : decide ((a : Int) < (i : Int)) = true := decide_eq_true (by omega)
      have Tail : (a : Int) < (i : Int) := by omega
      have Tain : a < i := by omega
      have Timid : decide (i < mid) = true := decide_eq_true (by omega)
      have Timidi : decide ((i : Int) < (mid : Int)) = true := decide_eq_true (by omega)
      have Timidl : (i : Int) < (mid : Int) := by omega
      have Timidn : i < mid := by omega
      go_wp2_with (fail)
      refine (IH.out P A1 B1 (A2 ++ B2 ++ S) _ a i mid _ (by have := LA.out;have := LB.out;have := HA1.out;have := HB1.out;have := HM.out;have := HB.out;have := HNN.out;have := HMD.out;omega) H1.out (by have := HL.out;have := EL.out;rw [this] at HL;have := HL.out;have := LA.out;have := LB.out;simp at *;omega) (CT.out.two1 TT.out) rfl HP.out HA1.out HMD.out (by have := LA.out;have := LB.out;have := HA1.out;have := HB1.out;have := HM.out;have := HB.out;have := HNN.out;have := HMD.out;omega) (by have := LA.out;have := LB.out;have := HA1.out;have := HB1.out;have := HM.out;have := HB.out;have := HNN.out;have := HMD.out;omega)).mono ?_
      rintro e2 w2 ⟨rfl,⟨C1,h1,h2,h3⟩,hg⟩
      have HC1 := Aside0.mk (And.intro h2 h3)
      have H2 := Aside0.mk h1
      have G2 := Aside0.mk (only_trans G1.out hg)
      have HPC := Aside0.mk (show (P ++ C1).length = mid by have := h2.length_eq;have := HP.out;simp at *;have := LA.out;have := LB.out;have := HA1.out;have := HB1.out;have := HM.out;have := HB.out;have := HNN.out;have := HMD.out;omega)
      clear h1 h2 h3 hg H1 G1
      rcases Nat.lt_or_ge mid e with q2 | q2
      ·rcases Nat.lt_or_ge e b with s2 | s2
       ·have Tmide : decide (mid < e) = true := decide_eq_true (by omega)
        have Tmidei : decide ((mid : Int) < (e : Int)) = true := decide_eq_true (by omega)
        have Tmidel : (mid : Int) < (e : Int) := by omega
        have Tmiden : mid < e := by omega
        have Teb : decide (e < b) = true := decide_eq_true (by omega)
        have Tebi : decide ((e : Int) < (b : Int)) = true := decide_eq_true (by omega)
        have Tebl : (e : Int) < (b : Int) := by omega
        have Tebn : e < b := by omega
        go_wp2_with (fail)
        refine (IH.out (P ++ C1) A2 B2 S _ mid e b _ (by have := LA.out;have := LB.out;have := HA1.out;have := HB1.out;have := HM.out;have := HB.out;have := HNN.out;have := HMD.out;omega) H2.out (by have := HL.out;have := EL.out;rw [this] at HL;have := HL.out;have := LA.out;have := LB.out;have := HC1.out.1.length_eq;simp at *;omega) (CT.out.two2 TT.out) (by simp) HPC.out (by have := LA.out;have := LB.out;have := HA1.out;have := HB1.out;have := HM.out;have := HB.out;have := HNN.out;have := HMD.out;omega) (by have := LA.out;have := LB.out;have := HA1.out;have := HB1.out;have := HM.out;have := HB.out;have := HNN.out;have := HMD.out;omega) (by have := LA.out;have := LB.out;have := HA1.out;have := HB1.out;have := HM.out;have := HB.out;have := HNN.out;have := HMD.out;omega) (by have := LA.out;have := LB.out;have := HA1.out;have := HB1.out;have := HM.out;have := HB.out;have := HNN.out;have := HMD.out;omega)).mono ?_
        rintro e2 w3 ⟨rfl,⟨C2,h1,h2,h3⟩,hg⟩
        have FIN : Aside0 (Merged cf P A B S blk w (.returned (.tuple #[])) w3) := ⟨⟨rfl,⟨C1 ++ C2,by rw [show P ++ (C1 ++ C2) ++ S = P ++ C1 ++ C2 ++ S by simp];exact h1,(CT.out.join TT.out HC1.out.1 HC1.out.2 h2 h3).1,(CT.out.join TT.out HC1.out.1 HC1.out.2 h2 h3).2⟩,only_trans G2.out hg⟩⟩
        clear h1 h2 h3 hg H2 G2
        go_wp2_with (fail)
        refine bodyPost_ret (results_none rfl _ _ _) rfl ?_
        exact FIN.out
       ·have Tmide : decide (mid < e) = true := decide_eq_true (by omega)
        have Tmidei : decide ((mid : Int) < (e : Int)) = true := decide_eq_true (by omega)
        have Tmidel : (mid : Int) < (e : Int) := by omega
        have Tmiden : mid < e := by omega
        have Teb : decide (e < b) = false := decide_eq_false (by omega)
        have Tebi : decide ((e : Int) < (b : Int)) = false := decide_eq_false (by omega)
        have Tebl : (b : Int) ≤ (e : Int) := by omega
        have Tebn : b ≤ e := by omega
        have FL := Aside0.mk (CT.out.flat2 TT.out (by have := LA.out;have := LB.out;have := HA1.out;have := HB1.out;have := HM.out;have := HB.out;have := HNN.out;have := HMD.out;omega))
        have FIN : Aside0 (Merged cf P A B S blk w (.returned (.tuple #[])) w2) := ⟨⟨rfl,⟨C1 ++ (A2 ++ B2),by rw [show P ++ (C1 ++ (A2 ++ B2)) ++ S = P ++ C1 ++ (A2 ++ B2 ++ S) by simp];exact H2.out,(CT.out.join TT.out HC1.out.1 HC1.out.2 (List.Perm.refl _) FL.out).1,(CT.out.join TT.out HC1.out.1 HC1.out.2 (List.Perm.refl _) FL.out).2⟩,G2.out⟩⟩
        clear H2 G2 FL
        go_wp2_with (fail)
        refine bodyPost_ret (results_none rfl _ _ _) rfl ?_
        exact FIN.out
      ·have Tmide : decide (mid < e) = false := decide_eq_false (by omega)
       have Tmidei : decide ((mid : Int) < (e : Int)) = false := decide_eq_false (by omega)
       have Tmidel : (e : Int) ≤ (mid : Int) := by omega
       have Tmiden : e ≤ mid := by omega
       have FL := Aside0.mk (CT.out.flat2 TT.out (by have := LA.out;have := LB.out;have := HA1.out;have := HB1.out;have := HM.out;have := HB.out;have := HNN.out;have := HMD.out;omega))
       have FIN : Aside0 (Merged cf P A B S blk w (.returned (.tuple #[])) w2) := ⟨⟨rfl,⟨C1 ++ (A2 ++ B2),by rw [show P ++ (C1 ++ (A2 ++ B2)) ++ S = P ++ C1 ++ (A2 ++ B2 ++ S) by simp];exact H2.out,(CT.out.join TT.out HC1.out.1 HC1.out.2 (List.Perm.refl _) FL.out).1,(CT.out.join TT.out HC1.out.1 HC1.out.2 (List.Perm.refl _) FL.out).2⟩,G2.out⟩⟩
       clear H2 G2 FL
       go_wp2_with (fail)
       refine bodyPost_ret (results_none rfl _ _ _) rfl ?_
       exact FIN.out
     ·have Tai : decide (a < i) = true := decide_eq_true (by omega)
      have Taii : decide ((a : Int) < (i : Int)) = true := decide_eq_true (by omega)
      have Tail : (a : Int) < (i : Int) := by omega
      have Tain : a < i := by omega
      have Timid : decide (i < mid) = false := decide_eq_false (by omega)
      have Timidi : decide ((i : Int) < (mid : Int)) = false := decide_eq_false (by omega)
      have Timidl : (mid : Int) ≤ (i : Int) := by omega
      have Timidn : mid ≤ i := by omega
      obtain ⟨C1,hC1⟩ : ∃ C1,C1 = A1 ++ B1 := ⟨_,rfl⟩
      have HC1 : Aside0 (C1.Perm (A1 ++ B1) ∧ Sorted cf C1) := ⟨by rw [hC1];exact ⟨List.Perm.refl _,CT.out.flat1 TT.out (by have := LA.out;have := LB.out;have := HA1.out;have := HB1.out;have := HM.out;have := HB.out;have := HNN.out;have := HMD.out;omega)⟩⟩
      have H2 : Aside0 (RowAt wr blk (P ++ C1 ++ (A2 ++ B2 ++ S))) := ⟨by have := H1.out;rw [hC1];rw [← List.append_assoc P A1 B1];exact this⟩
      have HPC := Aside0.mk (show (P ++ C1).length = mid by have := HP.out;rw [hC1];simp at *;have := LA.out;have := LB.out;have := HA1.out;have := HB1.out;have := HM.out;have := HB.out;have := HNN.out;have := HMD.out;omega)
      have G2 := G1
      clear hC1 H1 G1
      rcases Nat.lt_or_ge mid e with q2 | q2
      ·rcases Nat.lt_or_ge e b with s2 | s2
       ·have Tmide : decide (mid < e) = true := decide_eq_true (by omega)
        have Tmidei : decide ((mid : Int) < (e : Int)) = true := decide_eq_true (by omega)
        have Tmidel : (mid : Int) < (e : Int) := by omega
        have Tmiden : mid < e := by omega
        have Teb : decide (e < b) = true := decide_eq_true (by omega)
        have Tebi : decide ((e : Int) < (b : Int)) = true := decide_eq_true (by omega)
        have Tebl : (e : Int) < (b : Int) := by omega
        have Tebn : e < b := by omega
        go_wp2_with (fail)
        refine (IH.out (P ++ C1) A2 B2 S _ mid e b _ (by have := LA.out;have := LB.out;have := HA1.out;have := HB1.out;have := HM.out;have := HB.out;have := HNN.out;have := HMD.out;omega) H2.out (by have := HL.out;have := EL.out;rw [this] at HL;have := HL.out;have := LA.out;have := LB.out;have := HC1.out.1.length_eq;simp at *;omega) (CT.out.two2 TT.out) (by simp) HPC.out (by have := LA.out;have := LB.out;have := HA1.out;have := HB1.out;have := HM.out;have := HB.out;have := HNN.out;have := HMD.out;omega) (by have := LA.out;have := LB.out;have := HA1.out;have := HB1.out;have := HM.out;have := HB.out;have := HNN.out;have := HMD.out;omega) (by have := LA.out;have := LB.out;have := HA1.out;have := HB1.out;have := HM.out;have := HB.out;have := HNN.out;have := HMD.out;omega) (by have := LA.out;have := LB.out;have := HA1.out;have := HB1.out;have := HM.out;have := HB.out;have := HNN.out;have := HMD.out;omega)).mono ?_
        rintro e2 w3 ⟨rfl,⟨C2,h1,h2,h3⟩,hg⟩
        have FIN : Aside0 (Merged cf P A B S blk w (.returned (.tuple #[])) w3) := ⟨⟨rfl,⟨C1 ++ C2,by rw [show P ++ (C1 ++ C2) ++ S = P ++ C1 ++ C2 ++ S by simp];exact h1,(CT.out.join TT.out HC1.out.1 HC1.out.2 h2 h3).1,(CT.out.join TT.out HC1.out.1 HC1.out.2 h2 h3).2⟩,only_trans G2.out hg⟩⟩
        clear h1 h2 h3 hg H2 G2
        go_wp2_with (fail)
        refine bodyPost_ret (results_none rfl _ _ _) rfl ?_
        exact FIN.out
       ·have Tmide : decide (mid < e) = true := decide_eq_true (by omega)
        have Tmidei : decide ((mid : Int) < (e : Int)) = true := decide_eq_true (by omega)
        have Tmidel : (mid : Int) < (e : Int) := by omega
        have Tmiden : mid < e := by omega
        have Teb : decide (e < b) = false := decide_eq_false (by omega)
        have Tebi : decide ((e : Int) < (b : Int)) = false := decide_eq_false (by omega)
        have Tebl : (b : Int) ≤ (e : Int) := by omega
        have Tebn : b ≤ e := by omega
        have FL := Aside0.mk (CT.out.flat2 TT.out (by have := LA.out;have := LB.out;have := HA1.out;have := HB1.out;have := HM.out;have := HB.out;have := HNN.out;have := HMD.out;omega))
        have FIN : Aside0 (Merged cf P A B S blk w (.returned (.tuple #[])) wr) := ⟨⟨rfl,⟨C1 ++ (A2 ++ B2),by rw [show P ++ (C1 ++ (A2 ++ B2)) ++ S = P ++ C1 ++ (A2 ++ B2 ++ S) by simp];exact H2.out,(CT.out.join TT.out HC1.out.1 HC1.out.2 (List.Perm.refl _) FL.out).1,(CT.out.join TT.out HC1.out.1 HC1.out.2 (List.Perm.refl _) FL.out).2⟩,G2.out⟩⟩
        clear H2 G2 FL
        go_wp2_with (fail)
        refine bodyPost_ret (results_none rfl _ _ _) rfl ?_
        exact FIN.out
      ·have Tmide : decide (mid < e) = false := decide_eq_false (by omega)
       have Tmidei : decide ((mid : Int) < (e : Int)) = false := decide_eq_false (by omega)
       have Tmidel : (e : Int) ≤ (mid : Int) := by omega
       have Tmiden : e ≤ mid := by omega
       have FL := Aside0.mk (CT.out.flat2 TT.out (by have := LA.out;have := LB.out;have := HA1.out;have := HB1.out;have := HM.out;have := HB.out;have := HNN.out;have := HMD.out;omega))
       have FIN : Aside0 (Merged cf P A B S blk w (.returned (.tuple #[])) wr) := ⟨⟨rfl,⟨C1 ++ (A2 ++ B2),by rw [show P ++ (C1 ++ (A2 ++ B2)) ++ S = P ++ C1 ++ (A2 ++ B2 ++ S) by simp];exact H2.out,(CT.out.join TT.out HC1.out.1 HC1.out.2 (List.Perm.refl _) FL.out).1,(CT.out.join TT.out HC1.out.1 HC1.out.2 (List.Perm.refl _) FL.out).2⟩,G2.out⟩⟩
       clear H2 G2 FL
       go_wp2_with (fail)
       refine bodyPost_ret (results_none rfl _ _ _) rfl ?_
       exact FIN.out
    ·have Tai : decide (a < i) = false := decide_eq_false (by omega)
     have Taii : decide ((a : Int) < (i : Int)) = false := decide_eq_false (by omega)
     have Tail : (i : Int) ≤ (a : Int) := by omega
     have Tain : i ≤ a := by omega
     obtain ⟨C1,hC1⟩ : ∃ C1,C1 = A1 ++ B1 := ⟨_,rfl⟩
     have HC1 : Aside0 (C1.Perm (A1 ++ B1) ∧ Sorted cf C1) := ⟨by rw [hC1];exact ⟨List.Perm.refl _,CT.out.flat1 TT.out (by have := LA.out;have := LB.out;have := HA1.out;have := HB1.out;have := HM.out;have := HB.out;have := HNN.out;have := HMD.out;omega)⟩⟩
     have H2 : Aside0 (RowAt wr blk (P ++ C1 ++ (A2 ++ B2 ++ S))) := ⟨by have := H1.out;rw [hC1];rw [← List.append_assoc P A1 B1];exact this⟩
     have HPC := Aside0.mk (show (P ++ C1).length = mid by have := HP.out;rw [hC1];simp at *;have := LA.out;have := LB.out;have := HA1.out;have := HB1.out;have := HM.out;have := HB.out;have := HNN.out;have := HMD.out;omega)
     have G2 := G1
     clear hC1 H1 G1
     rcases Nat.lt_or_ge mid e with q2 | q2
     ·rcases Nat.lt_or_ge e b with s2 | s2
      ·have Tmide : decide (mid < e) = true := decide_eq_true (by omega)
       have Tmidei : decide ((mid : Int) < (e : Int)) = true := decide_eq_true (by omega)
       have Tmidel : (mid : Int) < (e : Int) := by omega
       have Tmiden : mid < e := by omega
       have Teb : decide (e < b) = true := decide_eq_true (by omega)
       have Tebi : decide ((e : Int) < (b : Int)) = true := decide_eq_true (by omega)
       have Tebl : (e : Int) < (b : Int) := by omega
       have Tebn : e < b := by omega
       go_wp2_with (fail)
       refine (IH.out (P ++ C1) A2 B2 S _ mid e b _ (by have := LA.out;have := LB.out;have := HA1.out;have := HB1.out;have := HM.out;have := HB.out;have := HNN.out;have := HMD.out;omega) H2.out (by have := HL.out;have := EL.out;rw [this] at HL;have := HL.out;have := LA.out;have := LB.out;have := HC1.out.1.length_eq;simp at *;omega) (CT.out.two2 TT.out) (by simp) HPC.out (by have := LA.out;have := LB.out;have := HA1.out;have := HB1.out;have := HM.out;have := HB.out;have := HNN.out;have := HMD.out;omega) (by have := LA.out;have := LB.out;have := HA1.out;have := HB1.out;have := HM.out;have := HB.out;have := HNN.out;have := HMD.out;omega) (by have := LA.out;have := LB.out;have := HA1.out;have := HB1.out;have := HM.out;have := HB.out;have := HNN.out;have := HMD.out;omega) (by have := LA.out;have := LB.out;have := HA1.out;have := HB1.out;have := HM.out;have := HB.out;have := HNN.out;have := HMD.out;omega)).mono ?_
       rintro e2 w3 ⟨rfl,⟨C2,h1,h2,h3⟩,hg⟩
       have FIN : Aside0 (Merged cf P A B S blk w (.returned (.tuple #[])) w3) := ⟨⟨rfl,⟨C1 ++ C2,by rw [show P ++ (C1 ++ C2) ++ S = P ++ C1 ++ C2 ++ S by simp];exact h1,(CT.out.join TT.out HC1.out.1 HC1.out.2 h2 h3).1,(CT.out.join TT.out HC1.out.1 HC1.out.2 h2 h3).2⟩,only_trans G2.out hg⟩⟩
       clear h1 h2 h3 hg H2 G2
       go_wp2_with (fail)
       refine bodyPost_ret (results_none rfl _ _ _) rfl ?_
       exact FIN.out
      ·have Tmide : decide (mid < e) = true := decide_eq_true (by omega)
       have Tmidei : decide ((mid : Int) < (e : Int)) = true := decide_eq_true (by omega)
       have Tmidel : (mid : Int) < (e : Int) := by omega
       have Tmiden : mid < e := by omega
       have Teb : decide (e < b) = false := decide_eq_false (by omega)
       have Tebi : decide ((e : Int) < (b : Int)) = false := decide_eq_false (by omega)
       have Tebl : (b : Int) ≤ (e : Int) := by omega
       have Tebn : b ≤ e := by omega
       have FL := Aside0.mk (CT.out.flat2 TT.out (by have := LA.out;have := LB.out;have := HA1.out;have := HB1.out;have := HM.out;have := HB.out;have := HNN.out;have := HMD.out;omega))
       have FIN : Aside0 (Merged cf P A B S blk w (.returned (.tuple #[])) wr) := ⟨⟨rfl,⟨C1 ++ (A2 ++ B2),by rw [show P ++ (C1 ++ (A2 ++ B2)) ++ S = P ++ C1 ++ (A2 ++ B2 ++ S) by simp];exact H2.out,(CT.out.join TT.out HC1.out.1 HC1.out.2 (List.Perm.refl _) FL.out).1,(CT.out.join TT.out HC1.out.1 HC1.out.2 (List.Perm.refl _) FL.out).2⟩,G2.out⟩⟩
       clear H2 G2 FL
       go_wp2_with (fail)
       refine bodyPost_ret (results_none rfl _ _ _) rfl ?_
       exact FIN.out
     ·have Tmide : decide (mid < e) = false := decide_eq_false (by omega)
      have Tmidei : decide ((mid : Int) < (e : Int)) = false := decide_eq_false (by omega)
      have Tmidel : (e : Int) ≤ (mid : Int) := by omega
      have Tmiden : e ≤ mid := by omega
      have FL := Aside0.mk (CT.out.flat2 TT.out (by have := LA.out;have := LB.out;have := HA1.out;have := HB1.out;have := HM.out;have := HB.out;have := HNN.out;have := HMD.out;omega))
      have FIN : Aside0 (Merged cf P A B S blk w (.returned (.tuple #[])) wr) := ⟨⟨rfl,⟨C1 ++ (A2 ++ B2),by rw [show P ++ (C1 ++ (A2 ++ B2)) ++ S = P ++ C1 ++ (A2 ++ B2 ++ S) by simp];exact H2.out,(CT.out.join TT.out HC1.out.1 HC1.out.2 (List.Perm.refl _) FL.out).1,(CT.out.join TT.out HC1.out.1 HC1.out.2 (List.Perm.refl _) FL.out).2⟩,G2.out⟩⟩
      clear H2 G2 FL
      go_wp2_with (fail)
      refine bodyPost_ret (results_none rfl _ _ _) rfl ?_
      exact FIN.out
set_option maxHeartbeats 8000000 in
set_option maxRecDepth 100000 in
theorem merge31 (cf : Fe → Fe → Int) (hC : CmpOk 13 cf) (blk cap a m b n : Nat) (P A B S L : List El) (w : World) (ih : MergesTo cf blk cap n (A.length + B.length)) (h : RowAt w blk L) (hlen : L.length = n) (hn : n ≤ 1000000) (t : Two cf P A B S) (eL : L = P ++ A ++ B ++ S) (hP : P.length = a) (hm : a + A.length = m) (hA : 2 ≤ A.length) (hB : 2 ≤ B.length) (hb : m + B.length = b) (hbn : b ≤ n) (hcase : 2 * m ≤ a + b) :
  Calls Try.prog 74 #[.slice (some ⟨blk,0,none⟩) n cap,.int .i64 a,.int .i64 m,.int .i64 b,.func (.func 13) #[] #[]] w (Merged cf P A B S blk w) := by
 have H := Aside0.mk h
 have HG := Aside0.mk (only_refl w blk)
 have HL := Aside0.mk hlen
 have TT := Aside0.mk t
 have EL := Aside0.mk eL
 have HP := Aside0.mk hP
 have HM := Aside0.mk hm
 have HB := Aside0.mk hb
 have IH := Aside0.mk ih
 have HAB := Aside0.mk (And.intro hA hB)
 have ham : a + 2 ≤ m := by omega
 have hmb : m + 2 ≤ b := by omega
 obtain ⟨mid,hmid⟩ : ∃ mid : Nat,((a : Int) + (b : Int)) / 2 = (mid : Int) := ⟨(a + b) / 2,by omega⟩
 have ma : a < mid := by omega
 have mb : mid < b := by omega
 have mn : a + b ≤ 2 * mid + 1 ∧ 2 * mid ≤ a + b := by omega
 have hcm : m ≤ mid := by omega
 obtain ⟨nn,hnn⟩ : ∃ nn : Nat,(mid : Int) + (m : Int) = (nn : Int) := ⟨mid + m,by omega⟩
 obtain ⟨p,hp⟩ : ∃ p : Nat,(nn : Int) - 1 = (p : Int) := ⟨nn - 1,by omega⟩
 obtain ⟨lo,hlo⟩ : ∃ lo : Nat,(a : Int) = (lo : Int) := ⟨a,by omega⟩
 obtain ⟨hi,hhi⟩ : ∃ hi : Nat,hi = m := ⟨_,rfl⟩
 have HNN := Aside0.mk (show mid + m = nn by omega)
 have HPP := Aside0.mk (show nn - 1 = p by omega)
 have LOF := Aside0.mk (show a ≤ lo ∧ hi ≤ m ∧ nn ≤ b + lo ∧ m + hi ≤ nn ∧ (lo = a ∨ nn = b + lo) ∧ (hi = m ∨ m + hi = nn) by omega)
 have lohi : lo ≤ hi := by omega
 have hin : hi ≤ m := by omega
 have loa : a ≤ lo := by omega
 have pn : p < 2 * n := by omega
 have plo : nn ≤ b + lo := by omega
 have phi : m + hi ≤ nn := by omega
 have hnp : nn ≤ p + 1 := by omega
 have hnp2 : p + 1 ≤ nn := by omega
 have HS := Aside0.mk (show Srch (NotAhd3 cf L (nn - 1)) lo hi lo hi from Srch.start lohi)
 have MN := Aside0.mk (t.mono3' eL hP hm hb loa hin plo phi)
 have bm : ((m : Int) - (a : Int) == 1) = false := by rw [beq_eq_false_iff_ne];omega
 have bb : ((b : Int) - (m : Int) == 1) = false := by rw [beq_eq_false_iff_ne];omega
 have bc : decide (((a : Int) + (b : Int)) / 2 < (m : Int)) = false := by rw [hmid];exact decide_eq_false (by omega)
 have HQ := Aside0.mk (And.intro hmid (And.intro hnn (And.intro hp (And.intro hlo hhi))))
 clear h t eL hP hlen hm hA hB hb ih hcase hmid hnn hp hlo hhi
 have bc2 : (m : Int) ≤ ((a : Int) + (b : Int)) / 2 := by have := HQ.out.1;omega
 go_enter Try.func74,Try.ntmps74
 go_wp2
 have hq1 := HQ.out.1
 have hq2 := HQ.out.2.1
 have hq3 := HQ.out.2.2.1
 have hq4 := HQ.out.2.2.2.1
 have hq5 := HQ.out.2.2.2.2
 rw [hq1,hq2,hq3]
 skip
 clear hq1 hq2 hq3 hq4 hq5 bc bc2
 go_loopw [20,21] (fun iv jv wr => ∃ i j : Nat,iv = .int .i64 (i : Int) ∧ jv = .int .i64 (j : Int) ∧ i ≤ j ∧ j ≤ hi ∧ lo ≤ i ∧ Aside0 (Srch (NotAhd3 cf L (nn - 1)) lo hi i j) ∧ Aside0 (RowAt wr blk L) ∧ Aside0 (w.grownBy wr (some blk))) (fun iv jv _ => (intOf jv).toNat - (intOf iv).toNat)
 case atStart => exact ⟨lo,hi,by have := HQ.out.2.2.2.1;rw [this],by have := HQ.out.2.2.2.2;rw [this],lohi,Nat.le_refl _,Nat.le_refl _,HS,H,HG⟩
 case round =>
  clear HS H HG
  obtain ⟨i,j,rfl,rfl,hij,hjb,hai,HS,H,HG⟩ := hrel
  by_cases hlt : i < j
  ·go_wp2_with (fail)
   obtain ⟨c,hc⟩ : ∃ c : Nat,((i : Int) + (j : Int)) / 2 = (c : Int) := ⟨(i + j) / 2,by omega⟩
   have hc1 : i ≤ c := by omega
   have hc2 : c < j := by omega
   rw [hc]
   clear hc
   obtain ⟨d,hd⟩ : ∃ d : Nat,d + c = p := ⟨p - c,by omega⟩
   have hdn : d < n := by omega
   have DE := Aside0.mk (show nn - 1 - c = d by have := HPP.out;omega)
   have p0 : (0 : Int) ≤ (c : Int) := by omega
   have p1 : (c : Int) < (n : Int) := by omega
   have p2 : (0 : Int) ≤ (d : Int) := by omega
   have p3 : (d : Int) < (n : Int) := by omega
   have pd : (p : Int) - (c : Int) = (d : Int) := by omega
   have pw : IntKind.i64.wrap (d : Int) = (d : Int) := by rw [IntKind.wrap_i64];omega
   have pw2 : IntKind.i64.wrap ((p : Int) - (c : Int)) = (d : Int) := by rw [pd,pw]
   obtain ⟨x0,z,hbl,gx⟩ := H.out.cell (i := d) (by have := HL.out;omega)
   obtain ⟨y0,_,_,gy⟩ := H.out.cell (i := c) (by have := HL.out;omega)
   have BL := Aside0.mk hbl
   clear hbl z
   generalize hx : atL L d = ex at x0 gx
   generalize hy : atL L c = ey at y0 gy
   have HXE := Aside0.mk hx
   have HYE := Aside0.mk hy
   clear hx hy
   by_cases hv : cf ex.1 ey.1 < 0
   ·have c0 : decide (cf ex.1 ey.1 < 0) = true := decide_eq_true hv
    have SU := Aside0.mk (HS.out.down MN.out hc1 hc2 (show ¬ NotAhd3 cf L (nn - 1) c by unfold NotAhd3;rw [DE.out,HXE.out,HYE.out];exact fun q => q hv))
    clear hv HXE HYE
    go_region_held3 (fun w' => w'.cell? ⟨blk,d,none⟩ = some (.slice ex.1.A ex.1.row.length ex.1.c) ∧ w'.cell? ⟨blk,c,none⟩ = some (.slice ey.1.A ey.1.row.length ey.1.c)) (first | go_keep | exact ⟨by assumption,by assumption⟩) (first | (go_at_call 13;refine (hC.calls ex.1 ey.1 _ blk ?_ ?_).mono ?_;exact gx;exact gy;rintro e w2 ⟨rfl,hb2⟩;have N2 := Aside0.mk (sameW_next (w1 := wr) hb2);clear hb2;have u0 := (N2.out.cell (p := ⟨blk,d,none⟩) BL.out).trans x0;have v0 := (N2.out.cell (p := ⟨blk,c,none⟩) BL.out).trans y0))
    have R2 := Aside0.mk (H.out.below N2.out)
    have G1 := Aside0.mk (only_belowT HG.out N2.out)
    clear x0 gx y0 gy u0 v0 H HG HS BL N2
    go_wp2
    go_roundw
    case rel => exact ⟨i,c,rfl,rfl,by omega,by omega,hai,SU,R2,G1⟩
    case measure => simp [intOf];omega
   ·have c0 : decide (cf ex.1 ey.1 < 0) = false := decide_eq_false hv
    have SU := Aside0.mk (HS.out.up MN.out hc1 hc2 (show NotAhd3 cf L (nn - 1) c by unfold NotAhd3;rw [DE.out,HXE.out,HYE.out];exact hv))
    clear hv HXE HYE
    go_region_held3 (fun w' => w'.cell? ⟨blk,d,none⟩ = some (.slice ex.1.A ex.1.row.length ex.1.c) ∧ w'.cell? ⟨blk,c,none⟩ = some (.slice ey.1.A ey.1.row.length ey.1.c)) (first | go_keep | exact ⟨by assumption,by assumption⟩) (first | (go_at_call 13;refine (hC.calls ex.1 ey.1 _ blk ?_ ?_).mono ?_;exact gx;exact gy;rintro e w2 ⟨rfl,hb2⟩;have N2 := Aside0.mk (sameW_next (w1 := wr) hb2);clear hb2;have u0 := (N2.out.cell (p := ⟨blk,d,none⟩) BL.out).trans x0;have v0 := (N2.out.cell (p := ⟨blk,c,none⟩) BL.out).trans y0))
    have R2 := Aside0.mk (H.out.below N2.out)
    have G1 := Aside0.mk (only_belowT HG.out N2.out)
    clear x0 gx y0 gy u0 v0 H HG HS BL N2
    go_wp2
    go_roundw
    case rel => exact ⟨c + 1,j,by go_num,rfl,by omega,hjb,by omega,SU,R2,G1⟩
    case measure => simp [intOf];omega
  ·have hije : i = j := by omega
   subst hije
   obtain ⟨e,he⟩ : ∃ e : Nat,e + i = nn := ⟨nn - i,by omega⟩
   have HCUT : Aside0 (∃ A1 A2 B1 B2,Cut cf A B A1 A2 B1 B2 ∧ a + A1.length = i ∧ m + B1.length = e) := ⟨by
    obtain ⟨h1,h2,h3,h4,hl,hh⟩ := LOF.out
    exact TT.out.cut3 EL.out HP.out HM.out HB.out HS.out h1 h2 h3 h4 hl hh he⟩
   obtain ⟨A1,A2,B1,B2,hcut,hA1,hB1⟩ := HCUT.out
   have CT := Aside0.mk hcut
   have HA1 := Aside0.mk hA1
   have HB1 := Aside0.mk hB1
   have LA := Aside0.mk (show A.length = A1.length + A2.length by rw [hcut.eA];simp)
   have LB := Aside0.mk (show B.length = B1.length + B2.length by rw [hcut.eB];simp)
   have HMD := Aside0.mk (show i + B1.length = mid by have := HNN.out;omega)
   have ie : i ≤ m := by omega
   have me : m ≤ e := by omega
   have eb : e ≤ b := by have := LB.out;have := HB.out;omega
   have im : i ≤ mid := by have := HMD.out;omega
   have mde : mid ≤ e := by have := HNN.out;omega
   have ne : (nn : Int) - (i : Int) = (e : Int) := by omega
   clear hcut hA1 hB1 HCUT HS MN
   have rest : ∀ (wr : World),Aside0 (RowAt wr blk (P ++ A1 ++ B1 ++ (A2 ++ B2 ++ S))) → True := fun _ _ => trivial
   clear rest
   rcases Nat.lt_or_ge i m with q0 | q0
   ·rcases Nat.lt_or_ge m e with s0 | s0
    ·have Tim : decide (i < m) = true := decide_eq_true (by omega)
     have Timi : decide ((i : Int) < (m : Int)) = true := decide_eq_true (by omega)
     have Timl : (i : Int) < (m : Int) := by omega
     have Timn : i < m := by omega
     have Tme : decide (m < e) = true := decide_eq_true (by omega)
     have Tmei : decide ((m : Int) < (e : Int)) = true := decide_eq_true (by omega)
     have Tmel : (m : Int) < (e : Int) := by omega
     have Tmen : m < e := by omega
     go_wp2_with (fail)
     refine (rotate blk cap i m e n _ L (P ++ A1 ++ B1 ++ (A2 ++ B2 ++ S)) _ H.out (by have := HL.out;omega) (CT.out.turn EL.out HP.out HM.out HA1.out HB1.out q0 s0) (by omega) (by omega) HL.out).mono ?_
     rintro e1 w1 ⟨rfl,h1,hg⟩
     have H1 := Aside0.mk h1
     have G1 := Aside0.mk (only_trans HG.out hg)
     clear h1 hg H HG
     rcases Nat.lt_or_ge a i with q1 | q1
     ·rcases Nat.lt_or_ge i mid with s1 | s1
      ·have Tai : decide (a < i) = true := decide_eq_true (by omega)
       have Taii : decide ((a : Int) < (i : Int)) = true := decide_eq_true (by omega)
       have Tail : (a : Int) < (i : Int) := by omega
       have Tain : a < i := by omega
       have Timid : decide (i < mid) = true := decide_eq_true (by omega)
       have Timidi : decide ((i : Int) < (mid : Int)) = true := decide_eq_true (by omega)
       have Timidl : (i : Int) < (mid : Int) := by omega
       have Timidn : i < mid := by omega
       go_wp2_with (fail)
       refine (IH.out P A1 B1 (A2 ++ B2 ++ S) _ a i mid _ (by have := LA.out;have := LB.out;have := HA1.out;have := HB1.out;have := HM.out;have := HB.out;have := HNN.out;have := HMD.out;omega) H1.out (by have := HL.out;have := EL.out;rw [this] at HL;have := HL.out;have := LA.out;have := LB.out;simp at *;omega) (CT.out.two1 TT.out) rfl HP.out HA1.out HMD.out (by have := LA.out;have := LB.out;have := HA1.out;have := HB1.out;have := HM.out;have := HB.out;have := HNN.out;have := HMD.out;omega) (by have := LA.out;have := LB.out;have := HA1.out;have := HB1.out;have := HM.out;have := HB.out;have := HNN.out;have := HMD.out;omega)).mono ?_
       rintro e2 w2 ⟨rfl,⟨C1,h1,h2,h3⟩,hg⟩
       have HC1 := Aside0.mk (And.intro h2 h3)
       have H2 := Aside0.mk h1
       have G2 := Aside0.mk (only_trans G1.out hg)
       have HPC := Aside0.mk (show (P ++ C1).length = mid by have := h2.length_eq;have := HP.out;simp at *;have := LA.out;have := LB.out;have := HA1.out;have := HB1.out;have := HM.out;have := HB.out;have := HNN.out;have := HMD.out;omega)
       clear h1 h2 h3 hg H1 G1
       rcases Nat.lt_or_ge mid e with q2 | q2
       ·rcases Nat.lt_or_ge e b with s2 | s2
        ·have Tmide : decide (mid < e) = true := decide_eq_true (by omega)
         have Tmidei : decide ((mid : Int) < (e : Int)) = true := decide_eq_true (by omega)
         have Tmidel : (mid : Int) < (e : Int) := by omega
         have Tmiden : mid < e := by omega
         have Teb : decide (e < b) = true := decide_eq_true (by omega)
         have Tebi : decide ((e : Int) < (b : Int)) = true := decide_eq_true (by omega)
         have Tebl : (e : Int) < (b : Int) := by omega
         have Tebn : e < b := by omega
         go_wp2_with (fail)
         refine (IH.out (P ++ C1) A2 B2 S _ mid e b _ (by have := LA.out;have := LB.out;have := HA1.out;have := HB1.out;have := HM.out;have := HB.out;have := HNN.out;have := HMD.out;omega) H2.out (by have := HL.out;have := EL.out;rw [this] at HL;have := HL.out;have := LA.out;have := LB.out;have := HC1.out.1.length_eq;simp at *;omega) (CT.out.two2 TT.out) (by simp) HPC.out (by have := LA.out;have := LB.out;have := HA1.out;have := HB1.out;have := HM.out;have := HB.out;have := HNN.out;have := HMD.out;omega) (by have := LA.out;have := LB.out;have := HA1.out;have := HB1.out;have := HM.out;have := HB.out;have := HNN.out;have := HMD.out;omega) (by have := LA.out;have := LB.out;have := HA1.out;have := HB1.out;have := HM.out;have := HB.out;have := HNN.out;have := HMD.out;omega) (by have := LA.out;have := LB.out;have := HA1.out;have := HB1.out;have := HM.out;have := HB.out;have := HNN.out;have := HMD.out;omega)).mono ?_
         rintro e2 w3 ⟨rfl,⟨C2,h1,h2,h3⟩,hg⟩
         have FIN : Aside0 (Merged cf P A B S blk w (.returned (.tuple #[])) w3) := ⟨⟨rfl,⟨C1 ++ C2,by rw [show P ++ (C1 ++ C2) ++ S = P ++ C1 ++ C2 ++ S by simp];exact h1,(CT.out.join TT.out HC1.out.1 HC1.out.2 h2 h3).1,(CT.out.join TT.out HC1.out.1 HC1.out.2 h2 h3).2⟩,only_trans G2.out hg⟩⟩
         clear h1 h2 h3 hg H2 G2
         go_wp2_with (fail)
         refine bodyPost_ret (results_none rfl _ _ _) rfl ?_
         exact FIN.out
        ·have Tmide : decide (mid < e) = true := decide_eq_true (by omega)
         have Tmidei : decide ((mid : Int) < (e : Int)) = true := decide_eq_true (by omega)
         have Tmidel : (mid : Int) < (e : Int) := by omega
         have Tmiden : mid < e := by omega
         have Teb : decide (e < b) = false := decide_eq_false (by omega)
         have Tebi : decide ((e : Int) < (b : Int)) = false := decide_eq_false (by omega)
         have Tebl : (b : Int) ≤ (e : Int) := by omega
         have Tebn : b ≤ e := by omega
         have FL := Aside0.mk (CT.out.flat2 TT.out (by have := LA.out;have := LB.out;have := HA1.out;have := HB1.out;have := HM.out;have := HB.out;have := HNN.out;have := HMD.out;omega))
         have FIN : Aside0 (Merged cf P A B S blk w (.returned (.tuple #[])) w2) := ⟨⟨rfl,⟨C1 ++ (A2 ++ B2),by rw [show P ++ (C1 ++ (A2 ++ B2)) ++ S = P ++ C1 ++ (A2 ++ B2 ++ S) by simp];exact H2.out,(CT.out.join TT.out HC1.out.1 HC1.out.2 (List.Perm.refl _) FL.out).1,(CT.out.join TT.out HC1.out.1 HC1.out.2 (List.Perm.refl _) FL.out).2⟩,G2.out⟩⟩
         clear H2 G2 FL
         go_wp2_with (fail)
         refine bodyPost_ret (results_none rfl _ _ _) rfl ?_
         exact FIN.out
       ·have Tmide : decide (mid < e) = false := decide_eq_false (by omega)
        have Tmidei : decide ((mid : Int) < (e : Int)) = false := decide_eq_false (by omega)
        have Tmidel : (e : Int) ≤ (mid : Int) := by omega
        have Tmiden : e ≤ mid := by omega
        have FL := Aside0.mk (CT.out.flat2 TT.out (by have := LA.out;have := LB.out;have := HA1.out;have := HB1.out;have := HM.out;have := HB.out;have := HNN.out;have := HMD.out;omega))
        have FIN : Aside0 (Merged cf P A B S blk w (.returned (.tuple #[])) w2) := ⟨⟨rfl,⟨C1 ++ (A2 ++ B2),by rw [show P ++ (C1 ++ (A2 ++ B2)) ++ S = P ++ C1 ++ (A2 ++ B2 ++ S) by simp];exact H2.out,(CT.out.join TT.out HC1.out.1 HC1.out.2 (List.Perm.refl _) FL.out).1,(CT.out.join TT.out HC1.out.1 HC1.out.2 (List.Perm.refl _) FL.out).2⟩,G2.out⟩⟩
        clear H2 G2 FL
        go_wp2_with (fail)
        refine bodyPost_ret (results_none rfl _ _ _) rfl ?_
        exact FIN.out
      ·have Tai : decide (a < i) = true := decide_eq_true (by omega)
       have Taii : decide ((a : Int) < (i : Int)) = true := decide_eq_true (by omega)
       have Tail : (a : Int) < (i : Int) := by omega
       have Tain : a < i := by omega
       have Timid : decide (i < mid) = false := decide_eq_false (by omega)
       have Timidi : decide ((i : Int) < (mid : Int)) = false := decide_eq_false (by omega)
       have Timidl : (mid : Int) ≤ (i : Int) := by omega
       have Timidn : mid ≤ i := by omega
       obtain ⟨C1,hC1⟩ : ∃ C1,C1 = A1 ++ B1 := ⟨_,rfl⟩
       have HC1 : Aside0 (C1.Perm (A1 ++ B1) ∧ Sorted cf C1) := ⟨by rw [hC1];exact ⟨List.Perm.refl _,CT.out.flat1 TT.out (by have := LA.out;have := LB.out;have := HA1.out;have := HB1.out;have := HM.out;have := HB.out;have := HNN.out;have := HMD.out;omega)⟩⟩
       have H2 : Aside0 (RowAt w1 blk (P ++ C1 ++ (A2 ++ B2 ++ S))) := ⟨by have := H1.out;rw [hC1];rw [← List.append_assoc P A1 B1];exact this⟩
       have HPC := Aside0.mk (show (P ++ C1).length = mid by have := HP.out;rw [hC1];simp at *;have := LA.out;have := LB.out;have := HA1.out;have := HB1.out;have := HM.out;have := HB.out;have := HNN.out;have := HMD.out;omega)
       have G2 := G1
       clear hC1 H1 G1
       rcases Nat.lt_or_ge mid e with q2 | q2
       ·rcases Nat.lt_or_ge e b with s2 | s2
        ·have Tmide : decide (mid < e) = true := decide_eq_true (by omega)
         have Tmidei : decide ((mid : Int) < (e : Int)) = true := decide_eq_true (by omega)
         have Tmidel : (mid : Int) < (e : Int) := by omega
         have Tmiden : mid < e := by omega
         have Teb : decide (e < b) = true := decide_eq_true (by omega)
         have Tebi : decide ((e : Int) < (b : Int)) = true := decide_eq_true (by omega)
         have Tebl : (e : Int) < (b : Int) := by omega
         have Tebn : e < b := by omega
         go_wp2_with (fail)
         refine (IH.out (P ++ C1) A2 B2 S _ mid e b _ (by have := LA.out;have := LB.out;have := HA1.out;have := HB1.out;have := HM.out;have := HB.out;have := HNN.out;have := HMD.out;omega) H2.out (by have := HL.out;have := EL.out;rw [this] at HL;have := HL.out;have := LA.out;have := LB.out;have := HC1.out.1.length_eq;simp at *;omega) (CT.out.two2 TT.out) (by simp) HPC.out (by have := LA.out;have := LB.out;have := HA1.out;have := HB1.out;have := HM.out;have := HB.out;have := HNN.out;have := HMD.out;omega) (by have := LA.out;have := LB.out;have := HA1.out;have := HB1.out;have := HM.out;have := HB.out;have := HNN.out;have := HMD.out;omega) (by have := LA.out;have := LB.out;have := HA1.out;have := HB1.out;have := HM.out;have := HB.out;have := HNN.out;have := HMD.out;omega) (by have := LA.out;have := LB.out;have := HA1.out;have := HB1.out;have := HM.out;have := HB.out;have := HNN.out;have := HMD.out;omega)).mono ?_
         rintro e2 w3 ⟨rfl,⟨C2,h1,h2,h3⟩,hg⟩
         have FIN : Aside0 (Merged cf P A B S blk w (.returned (.tuple #[])) w3) := ⟨⟨rfl,⟨C1 ++ C2,by rw [show P ++ (C1 ++ C2) ++ S = P ++ C1 ++ C2 ++ S by simp];exact h1,(CT.out.join TT.out HC1.out.1 HC1.out.2 h2 h3).1,(CT.out.join TT.out HC1.out.1 HC1.out.2 h2 h3).2⟩,only_trans G2.out hg⟩⟩
         clear h1 h2 h3 hg H2 G2
         go_wp2_with (fail)
         refine bodyPost_ret (results_none rfl _ _ _) rfl ?_
         exact FIN.out
        ·have Tmide : decide (mid < e) = true := decide_eq_true (by omega)
         have Tmidei : decide ((mid : Int) < (e : Int)) = true := decide_eq_true (by omega)
         have Tmidel : (mid : Int) < (e : Int) := by omega
         have Tmiden : mid < e := by omega
         have Teb : decide (e < b) = false := decide_eq_false (by omega)
         have Tebi : decide ((e : Int) < (b : Int)) = false := decide_eq_false (by omega)
         have Tebl : (b : Int) ≤ (e : Int) := by omega
         have Tebn : b ≤ e := by omega
         have FL := Aside0.mk (CT.out.flat2 TT.out (by have := LA.out;have := LB.out;have := HA1.out;have := HB1.out;have := HM.out;have := HB.out;have := HNN.out;have := HMD.out;omega))
         have FIN : Aside0 (Merged cf P A B S blk w (.returned (.tuple #[])) w1) := ⟨⟨rfl,⟨C1 ++ (A2 ++ B2),by rw [show P ++ (C1 ++ (A2 ++ B2)) ++ S = P ++ C1 ++ (A2 ++ B2 ++ S) by simp];exact H2.out,(CT.out.join TT.out HC1.out.1 HC1.out.2 (List.Perm.refl _) FL.out).1,(CT.out.join TT.out HC1.out.1 HC1.out.2 (List.Perm.refl _) FL.out).2⟩,G2.out⟩⟩
         clear H2 G2 FL
         go_wp2_with (fail)
         refine bodyPost_ret (results_none rfl _ _ _) rfl ?_
         exact FIN.out
       ·have Tmide : decide (mid < e) = false := decide_eq_false (by omega)
        have Tmidei : decide ((mid : Int) < (e : Int)) = false := decide_eq_false (by omega)
        have Tmidel : (e : Int) ≤ (mid : Int) := by omega
        have Tmiden : e ≤ mid := by omega
        have FL := Aside0.mk (CT.out.flat2 TT.out (by have := LA.out;have := LB.out;have := HA1.out;have := HB1.out;have := HM.out;have := HB.out;have := HNN.out;have := HMD.out;omega))
        have FIN : Aside0 (Merged cf P A B S blk w (.returned (.tuple #[])) w1) := ⟨⟨rfl,⟨C1 ++ (A2 ++ B2),by rw [show P ++ (C1 ++ (A2 ++ B2)) ++ S = P ++ C1 ++ (A2 ++ B2 ++ S) by simp];exact H2.out,(CT.out.join TT.out HC1.out.1 HC1.out.2 (List.Perm.refl _) FL.out).1,(CT.out.join TT.out HC1.out.1 HC1.out.2 (List.Perm.refl _) FL.out).2⟩,G2.out⟩⟩
        clear H2 G2 FL
        go_wp2_with (fail)
        refine bodyPost_ret (results_none rfl _ _ _) rfl ?_
        exact FIN.out
     ·have Tai : decide (a < i) = false := decide_eq_false (by omega)
      have Taii : decide ((a : Int) < (i : Int)) = false := decide_eq_false (by omega)
      have Tail : (i : Int) ≤ (a : Int) := by omega
      have Tain : i ≤ a := by omega
      obtain ⟨C1,hC1⟩ : ∃ C1,C1 = A1 ++ B1 := ⟨_,rfl⟩
      have HC1 : Aside0 (C1.Perm (A1 ++ B1) ∧ Sorted cf C1) := ⟨by rw [hC1];exact ⟨List.Perm.refl _,CT.out.flat1 TT.out (by have := LA.out;have := LB.out;have := HA1.out;have := HB1.out;have := HM.out;have := HB.out;have := HNN.out;have := HMD.out;omega)⟩⟩
      have H2 : Aside0 (RowAt w1 blk (P ++ C1 ++ (A2 ++ B2 ++ S))) := ⟨by have := H1.out;rw [hC1];rw [← List.append_assoc P A1 B1];exact this⟩
      have HPC := Aside0.mk (show (P ++ C1).length = mid by have := HP.out;rw [hC1];simp at *;have := LA.out;have := LB.out;have := HA1.out;have := HB1.out;have := HM.out;have := HB.out;have := HNN.out;have := HMD.out;omega)
      have G2 := G1
      clear hC1 H1 G1
      rcases Nat.lt_or_ge mid e with q2 | q2
      ·rcases Nat.lt_or_ge e b with s2 | s2
       ·have Tmide : decide (mid < e) = true := decide_eq_true (by omega)
        have Tmidei : decide ((mid : Int) < (e : Int)) = true := decide_eq_true (by omega)
        have Tmidel : (mid : Int) < (e : Int) := by omega
        have Tmiden : mid < e := by omega
        have Teb : decide (e < b) = true := decide_eq_true (by omega)
        have Tebi : decide ((e : Int) < (b : Int)) = true := decide_eq_true (by omega)
        have Tebl : (e : Int) < (b : Int) := by omega
        have Tebn : e < b := by omega
        go_wp2_with (fail)
        refine (IH.out (P ++ C1) A2 B2 S _ mid e b _ (by have := LA.out;have := LB.out;have := HA1.out;have := HB1.out;have := HM.out;have := HB.out;have := HNN.out;have := HMD.out;omega) H2.out (by have := HL.out;have := EL.out;rw [this] at HL;have := HL.out;have := LA.out;have := LB.out;have := HC1.out.1.length_eq;simp at *;omega) (CT.out.two2 TT.out) (by simp) HPC.out (by have := LA.out;have := LB.out;have := HA1.out;have := HB1.out;have := HM.out;have := HB.out;have := HNN.out;have := HMD.out;omega) (by have := LA.out;have := LB.out;have := HA1.out;have := HB1.out;have := HM.out;have := HB.out;have := HNN.out;have := HMD.out;omega) (by have := LA.out;have := LB.out;have := HA1.out;have := HB1.out;have := HM.out;have := HB.out;have := HNN.out;have := HMD.out;omega) (by have := LA.out;have := LB.out;have := HA1.out;have := HB1.out;have := HM.out;have := HB.out;have := HNN.out;have := HMD.out;omega)).mono ?_
        rintro e2 w3 ⟨rfl,⟨C2,h1,h2,h3⟩,hg⟩
        have FIN : Aside0 (Merged cf P A B S blk w (.returned (.tuple #[])) w3) := ⟨⟨rfl,⟨C1 ++ C2,by rw [show P ++ (C1 ++ C2) ++ S = P ++ C1 ++ C2 ++ S by simp];exact h1,(CT.out.join TT.out HC1.out.1 HC1.out.2 h2 h3).1,(CT.out.join TT.out HC1.out.1 HC1.out.2 h2 h3).2⟩,only_trans G2.out hg⟩⟩
        clear h1 h2 h3 hg H2 G2
        go_wp2_with (fail)
        refine bodyPost_ret (results_none rfl _ _ _) rfl ?_
        exact FIN.out
       ·have Tmide : decide (mid < e) = true := decide_eq_true (by omega)
        have Tmidei : decide ((mid : Int) < (e : Int)) = true := decide_eq_true (by omega)
        have Tmidel : (mid : Int) < (e : Int) := by omega
        have Tmiden : mid < e := by omega
        have Teb : decide (e < b) = false := decide_eq_false (by omega)
        have Tebi : decide ((e : Int) < (b : Int)) = false := decide_eq_false (by omega)
        have Tebl : (b : Int) ≤ (e : Int) := by omega
        have Tebn : b ≤ e := by omega
        have FL := Aside0.mk (CT.out.flat2 TT.out (by have := LA.out;have := LB.out;have := HA1.out;have := HB1.out;have := HM.out;have := HB.out;have := HNN.out;have := HMD.out;omega))
        have FIN : Aside0 (Merged cf P A B S blk w (.returned (.tuple #[])) w1) := ⟨⟨rfl,⟨C1 ++ (A2 ++ B2),by rw [show P ++ (C1 ++ (A2 ++ B2)) ++ S = P ++ C1 ++ (A2 ++ B2 ++ S) by simp];exact H2.out,(CT.out.join TT.out HC1.out.1 HC1.out.2 (List.Perm.refl _) FL.out).1,(CT.out.join TT.out HC1.out.1 HC1.out.2 (List.Perm.refl _) FL.out).2⟩,G2.out⟩⟩
        clear H2 G2 FL
        go_wp2_with (fail)
        refine bodyPost_ret (results_none rfl _ _ _) rfl ?_
        exact FIN.out
      ·have Tmide : decide (mid < e) = false := decide_eq_false (by omega)
       have Tmidei : decide ((mid : Int) < (e : Int)) = false := decide_eq_false (by omega)
       have Tmidel : (e : Int) ≤ (mid : Int) := by omega
       have Tmiden : e ≤ mid := by omega
       have FL := Aside0.mk (CT.out.flat2 TT.out (by have := LA.out;have := LB.out;have := HA1.out;have := HB1.out;have := HM.out;have := HB.out;have := HNN.out;have := HMD.out;omega))
       have FIN : Aside0 (Merged cf P A B S blk w (.returned (.tuple #[])) w1) := ⟨⟨rfl,⟨C1 ++ (A2 ++ B2),by rw [show P ++ (C1 ++ (A2 ++ B2)) ++ S = P ++ C1 ++ (A2 ++ B2 ++ S) by simp];exact H2.out,(CT.out.join TT.out HC1.out.1 HC1.out.2 (List.Perm.refl _) FL.out).1,(CT.out.join TT.out HC1.out.1 HC1.out.2 (List.Perm.refl _) FL.out).2⟩,G2.out⟩⟩
       clear H2 G2 FL
       go_wp2_with (fail)
       refine bodyPost_ret (results_none rfl _ _ _) rfl ?_
       exact FIN.out
    ·have Tim : decide (i < m) = true := decide_eq_true (by omega)
     have Timi : decide ((i : Int) < (m : Int)) = true := decide_eq_true (by omega)
     have Timl : (i : Int) < (m : Int) := by omega
     have Timn : i < m := by omega
     have Tme : decide (m < e) = false := decide_eq_false (by omega)
     have Tmei : decide ((m : Int) < (e : Int)) = false := decide_eq_false (by omega)
     have Tmel : (e : Int) ≤ (m : Int) := by omega
     have Tmen : e ≤ m := by omega
     have H1 := Aside0.mk (show RowAt wr blk (P ++ A1 ++ B1 ++ (A2 ++ B2 ++ S)) by have := H.out;rwa [CT.out.noturn EL.out HP.out HM.out HA1.out HB1.out (by omega)] at this)
     have G1 := HG
     clear H HG
     rcases Nat.lt_or_ge a i with q1 | q1
     ·rcases Nat.lt_or_ge i mid with s1 | s1
      ·have Tai : decide (a < i) = true := decide_eq_true (by omega)
       have Taii : decide ((a : Int) < (i : Int)) = true := decide_eq_true (by omega)
       have Tail : (a : Int) < (i : Int) := by omega
       have Tain : a < i := by omega
       have Timid : decide (i < mid) = true := decide_eq_true (by omega)
       have Timidi : decide ((i : Int) < (mid : Int)) = true := decide_eq_true (by omega)
       have Timidl : (i : Int) < (mid : Int) := by omega
       have Timidn : i < mid := by omega
       go_wp2_with (fail)
       refine (IH.out P A1 B1 (A2 ++ B2 ++ S) _ a i mid _ (by have := LA.out;have := LB.out;have := HA1.out;have := HB1.out;have := HM.out;have := HB.out;have := HNN.out;have := HMD.out;omega) H1.out (by have := HL.out;have := EL.out;rw [this] at HL;have := HL.out;have := LA.out;have := LB.out;simp at *;omega) (CT.out.two1 TT.out) rfl HP.out HA1.out HMD.out (by have := LA.out;have := LB.out;have := HA1.out;have := HB1.out;have := HM.out;have := HB.out;have := HNN.out;have := HMD.out;omega) (by have := LA.out;have := LB.out;have := HA1.out;have := HB1.out;have := HM.out;have := HB.out;have := HNN.out;have := HMD.out;omega)).mono ?_
       rintro e2 w2 ⟨rfl,⟨C1,h1,h2,h3⟩,hg⟩
       have HC1 := Aside0.mk (And.intro h2 h3)
       have H2 := Aside0.mk h1
       have G2 := Aside0.mk (only_trans G1.out hg)
       have HPC := Aside0.mk (show (P ++ C1).length = mid by have := h2.length_eq;have := HP.out;simp at *;have := LA.out;have := LB.out;have := HA1.out;have := HB1.out;have := HM.out;have := HB.out;have := HNN.out;have := HMD.out;omega)
       clear h1 h2 h3 hg H1 G1
       rcases Nat.lt_or_ge mid e with q2 | q2
       ·rcases Nat.lt_or_ge e b with s2 | s2
        ·have Tmide : decide (mid < e) = true := decide_eq_true (by omega)
         have Tmidei : decide ((mid : Int) < (e : Int)) = true := decide_eq_true (by omega)
         have Tmidel : (mid : Int) < (e : Int) := by omega
         have Tmiden : mid < e := by omega
         have Teb : decide (e < b) = true := decide_eq_true (by omega)
         have Tebi : decide ((e : Int) < (b : Int)) = true := decide_eq_true (by omega)
         have Tebl : (e : Int) < (b : Int) := by omega
         have Tebn : e < b := by omega
         go_wp2_with (fail)
         refine (IH.out (P ++ C1) A2 B2 S _ mid e b _ (by have := LA.out;have := LB.out;have := HA1.out;have := HB1.out;have := HM.out;have := HB.out;have := HNN.out;have := HMD.out;omega) H2.out (by have := HL.out;have := EL.out;rw [this] at HL;have := HL.out;have := LA.out;have := LB.out;have := HC1.out.1.length_eq;simp at *;omega) (CT.out.two2 TT.out) (by simp) HPC.out (by have := LA.out;have := LB.out;have := HA1.out;have := HB1.out;have := HM.out;have := HB.out;have := HNN.out;have := HMD.out;omega) (by have := LA.out;have := LB.out;have := HA1.out;have := HB1.out;have := HM.out;have := HB.out;have := HNN.out;have := HMD.out;omega) (by have := LA.out;have := LB.out;have := HA1.out;have := HB1.out;have := HM.out;have := HB.out;have := HNN.out;have := HMD.out;omega) (by have := LA.out;have := LB.out;have := HA1.out;have := HB1.out;have := HM.out;have := HB.out;have := HNN.out;have := HMD.out;omega)).mono ?_
         rintro e2 w3 ⟨rfl,⟨C2,h1,h2,h3⟩,hg⟩
         have FIN : Aside0 (Merged cf P A B S blk w (.returned (.tuple #[])) w3) := ⟨⟨rfl,⟨C1 ++ C2,by rw [show P ++ (C1 ++ C2) ++ S = P ++ C1 ++ C2 ++ S by simp];exact h1,(CT.out.join TT.out HC1.out.1 HC1.out.2 h2 h3).1,(CT.out.join TT.out HC1.out.1 HC1.out.2 h2 h3).2⟩,only_trans G2.out hg⟩⟩
         clear h1 h2 h3 hg H2 G2
         go_wp2_with (fail)
         refine bodyPost_ret (results_none rfl _ _ _) rfl ?_
         exact FIN.out
        ·have Tmide : decide (mid < e) = true := decide_eq_true (by omega)
         have Tmidei : decide ((mid : Int) < (e : Int)) = true := decide_eq_true (by omega)
         have Tmidel : (mid : Int) < (e : Int) := by omega
         have Tmiden : mid < e := by omega
         have Teb : decide (e < b) = false := decide_eq_false (by omega)
         have Tebi : decide ((e : Int) < (b : Int)) = false := decide_eq_false (by omega)
         have Tebl : (b : Int) ≤ (e : Int) := by omega
         have Tebn : b ≤ e := by omega
         have FL := Aside0.mk (CT.out.flat2 TT.out (by have := LA.out;have := LB.out;have := HA1.out;have := HB1.out;have := HM.out;have := HB.out;have := HNN.out;have := HMD.out;omega))
         have FIN : Aside0 (Merged cf P A B S blk w (.returned (.tuple #[])) w2) := ⟨⟨rfl,⟨C1 ++ (A2 ++ B2),by rw [show P ++ (C1 ++ (A2 ++ B2)) ++ S = P ++ C1 ++ (A2 ++ B2 ++ S) by simp];exact H2.out,(CT.out.join TT.out HC1.out.1 HC1.out.2 (List.Perm.refl _) FL.out).1,(CT.out.join TT.out HC1.out.1 HC1.out.2 (List.Perm.refl _) FL.out).2⟩,G2.out⟩⟩
         clear H2 G2 FL
         go_wp2_with (fail)
         refine bodyPost_ret (results_none rfl _ _ _) rfl ?_
         exact FIN.out
       ·have Tmide : decide (mid < e) = false := decide_eq_false (by omega)
        have Tmidei : decide ((mid : Int) < (e : Int)) = false := decide_eq_false (by omega)
        have Tmidel : (e : Int) ≤ (mid : Int) := by omega
        have Tmiden : e ≤ mid := by omega
        have FL := Aside0.mk (CT.out.flat2 TT.out (by have := LA.out;have := LB.out;have := HA1.out;have := HB1.out;have := HM.out;have := HB.out;have := HNN.out;have := HMD.out;omega))
        have FIN : Aside0 (Merged cf P A B S blk w (.returned (.tuple #[])) w2) := ⟨⟨rfl,⟨C1 ++ (A2 ++ B2),by rw [show P ++ (C1 ++ (A2 ++ B2)) ++ S = P ++ C1 ++ (A2 ++ B2 ++ S) by simp];exact H2.out,(CT.out.join TT.out HC1.out.1 HC1.out.2 (List.Perm.refl _) FL.out).1,(CT.out.join TT.out HC1.out.1 HC1.out.2 (List.Perm.refl _) FL.out).2⟩,G2.out⟩⟩
        clear H2 G2 FL
        go_wp2_with (fail)
        refine bodyPost_ret (results_none rfl _ _ _) rfl ?_
        exact FIN.out
      ·have Tai : decide (a < i) = true := decide_eq_true (by omega)
       have Taii : decide ((a : Int) < (i : Int)) = true := decide_eq_true (by omega)
       have Tail : (a : Int) < (i : Int) := by omega
       have Tain : a < i := by omega
       have Timid : decide (i < mid) = false := decide_eq_false (by omega)
       have Timidi : decide ((i : Int) < (mid : Int)) = false := decide_eq_false (by omega)
       have Timidl : (mid : Int) ≤ (i : Int) := by omega
       have Timidn : mid ≤ i := by omega
       obtain ⟨C1,hC1⟩ : ∃ C1,C1 = A1 ++ B1 := ⟨_,rfl⟩
       have HC1 : Aside0 (C1.Perm (A1 ++ B1) ∧ Sorted cf C1) := ⟨by rw [hC1];exact ⟨List.Perm.refl _,CT.out.flat1 TT.out (by have := LA.out;have := LB.out;have := HA1.out;have := HB1.out;have := HM.out;have := HB.out;have := HNN.out;have := HMD.out;omega)⟩⟩
       have H2 : Aside0 (RowAt wr blk (P ++ C1 ++ (A2 ++ B2 ++ S))) := ⟨by have := H1.out;rw [hC1];rw [← List.append_assoc P A1 B1];exact this⟩
       have HPC := Aside0.mk (show (P ++ C1).length = mid by have := HP.out;rw [hC1];simp at *;have := LA.out;have := LB.out;have := HA1.out;have := HB1.out;have := HM.out;have := HB.out;have := HNN.out;have := HMD.out;omega)
       have G2 := G1
       clear hC1 H1 G1
       rcases Nat.lt_or_ge mid e with q2 | q2
       ·rcases Nat.lt_or_ge e b with s2 | s2
        ·have Tmide : decide (mid < e) = true := decide_eq_true (by omega)
         have Tmidei : decide ((mid : Int) < (e : Int)) = true := decide_eq_true (by omega)
         have Tmidel : (mid : Int) < (e : Int) := by omega
         have Tmiden : mid < e := by omega
         have Teb : decide (e < b) = true := decide_eq_true (by omega)
         have Tebi : decide ((e : Int) < (b : Int)) = true := decide_eq_true (by omega)
         have Tebl : (e : Int) < (b : Int) := by omega
         have Tebn : e < b := by omega
         go_wp2_with (fail)
         refine (IH.out (P ++ C1) A2 B2 S _ mid e b _ (by have := LA.out;have := LB.out;have := HA1.out;have := HB1.out;have := HM.out;have := HB.out;have := HNN.out;have := HMD.out;omega) H2.out (by have := HL.out;have := EL.out;rw [this] at HL;have := HL.out;have := LA.out;have := LB.out;have := HC1.out.1.length_eq;simp at *;omega) (CT.out.two2 TT.out) (by simp) HPC.out (by have := LA.out;have := LB.out;have := HA1.out;have := HB1.out;have := HM.out;have := HB.out;have := HNN.out;have := HMD.out;omega) (by have := LA.out;have := LB.out;have := HA1.out;have := HB1.out;have := HM.out;have := HB.out;have := HNN.out;have := HMD.out;omega) (by have := LA.out;have := LB.out;have := HA1.out;have := HB1.out;have := HM.out;have := HB.out;have := HNN.out;have := HMD.out;omega) (by have := LA.out;have := LB.out;have := HA1.out;have := HB1.out;have := HM.out;have := HB.out;have := HNN.out;have := HMD.out;omega)).mono ?_
         rintro e2 w3 ⟨rfl,⟨C2,h1,h2,h3⟩,hg⟩
         have FIN : Aside0 (Merged cf P A B S blk w (.returned (.tuple #[])) w3) := ⟨⟨rfl,⟨C1 ++ C2,by rw [show P ++ (C1 ++ C2) ++ S = P ++ C1 ++ C2 ++ S by simp];exact h1,(CT.out.join TT.out HC1.out.1 HC1.out.2 h2 h3).1,(CT.out.join TT.out HC1.out.1 HC1.out.2 h2 h3).2⟩,only_trans G2.out hg⟩⟩
         clear h1 h2 h3 hg H2 G2
         go_wp2_with (fail)
         refine bodyPost_ret (results_none rfl _ _ _) rfl ?_
         exact FIN.out
        ·have Tmide : decide (mid < e) = true := decide_eq_true (by omega)
         have Tmidei : decide ((mid : Int) < (e : Int)) = true := decide_eq_true (by omega)
         have Tmidel : (mid : Int) < (e : Int) := by omega
         have Tmiden : mid < e := by omega
         have Teb : decide (e < b) = false := decide_eq_false (by omega)
         have Tebi : decide ((e : Int) < (b : Int)) = false := decide_eq_false (by omega)
         have Tebl : (b : Int) ≤ (e : Int) := by omega
         have Tebn : b ≤ e := by omega
         have FL := Aside0.mk (CT.out.flat2 TT.out (by have := LA.out;have := LB.out;have := HA1.out;have := HB1.out;have := HM.out;have := HB.out;have := HNN.out;have := HMD.out;omega))
         have FIN : Aside0 (Merged cf P A B S blk w (.returned (.tuple #[])) wr) := ⟨⟨rfl,⟨C1 ++ (A2 ++ B2),by rw [show P ++ (C1 ++ (A2 ++ B2)) ++ S = P ++ C1 ++ (A2 ++ B2 ++ S) by simp];exact H2.out,(CT.out.join TT.out HC1.out.1 HC1.out.2 (List.Perm.refl _) FL.out).1,(CT.out.join TT.out HC1.out.1 HC1.out.2 (List.Perm.refl _) FL.out).2⟩,G2.out⟩⟩
         clear H2 G2 FL
         go_wp2_with (fail)
         refine bodyPost_ret (results_none rfl _ _ _) rfl ?_
         exact FIN.out
       ·have Tmide : decide (mid < e) = false := decide_eq_false (by omega)
        have Tmidei : decide ((mid : Int) < (e : Int)) = false := decide_eq_false (by omega)
        have Tmidel : (e : Int) ≤ (mid : Int) := by omega
        have Tmiden : e ≤ mid := by omega
        have FL := Aside0.mk (CT.out.flat2 TT.out (by have := LA.out;have := LB.out;have := HA1.out;have := HB1.out;have := HM.out;have := HB.out;have := HNN.out;have := HMD.out;omega))
        have FIN : Aside0 (Merged cf P A B S blk w (.returned (.tuple #[])) wr) := ⟨⟨rfl,⟨C1 ++ (A2 ++ B2),by rw [show P ++ (C1 ++ (A2 ++ B2)) ++ S = P ++ C1 ++ (A2 ++ B2 ++ S) by simp];exact H2.out,(CT.out.join TT.out HC1.out.1 HC1.out.2 (List.Perm.refl _) FL.out).1,(CT.out.join TT.out HC1.out.1 HC1.out.2 (List.Perm.refl _) FL.out).2⟩,G2.out⟩⟩
        clear H2 G2 FL
        go_wp2_with (fail)
        refine bodyPost_ret (results_none rfl _ _ _) rfl ?_
        exact FIN.out
     ·have Tai : decide (a < i) = false := decide_eq_false (by omega)
      have Taii : decide ((a : Int) < (i : Int)) = false := decide_eq_false (by omega)
      have Tail : (i : Int) ≤ (a : Int) := by omega
      have Tain : i ≤ a := by omega
      obtain ⟨C1,hC1⟩ : ∃ C1,C1 = A1 ++ B1 := ⟨_,rfl⟩
      have HC1 : Aside0 (C1.Perm (A1 ++ B1) ∧ Sorted cf C1) := ⟨by rw [hC1];exact ⟨List.Perm.refl _,CT.out.flat1 TT.out (by have := LA.out;have := LB.out;have := HA1.out;have := HB1.out;have := HM.out;have := HB.out;have := HNN.out;have := HMD.out;omega)⟩⟩
      have H2 : Aside0 (RowAt wr blk (P ++ C1 ++ (A2 ++ B2 ++ S))) := ⟨by have := H1.out;rw [hC1];rw [← List.append_assoc P A1 B1];exact this⟩
      have HPC := Aside0.mk (show (P ++ C1).length = mid by have := HP.out;rw [hC1];simp at *;have := LA.out;have := LB.out;have := HA1.out;have := HB1.out;have := HM.out;have := HB.out;have := HNN.out;have := HMD.out;omega)
      have G2 := G1
      clear hC1 H1 G1
      rcases Nat.lt_or_ge mid e with q2 | q2
      ·rcases Nat.lt_or_ge e b with s2 | s2
       ·have Tmide : decide (mid < e) = true := decide_eq_true (by omega)
        have Tmidei : decide ((mid : Int) < (e : Int)) = true := decide_eq_true (by omega)
        have Tmidel : (mid : Int) < (e : Int) := by omega
        have Tmiden : mid < e := by omega
        have Teb : decide (e < b) = true := decide_eq_true (by omega)
        have Tebi : decide ((e : Int) < (b : Int)) = true := decide_eq_true (by omega)
        have Tebl : (e : Int) < (b : Int) := by omega
        have Tebn : e < b := by omega
        go_wp2_with (fail)
        refine (IH.out (P ++ C1) A2 B2 S _ mid e b _ (by have := LA.out;have := LB.out;have := HA1.out;have := HB1.out;have := HM.out;have := HB.out;have := HNN.out;have := HMD.out;omega) H2.out (by have := HL.out;have := EL.out;rw [this] at HL;have := HL.out;have := LA.out;have := LB.out;have := HC1.out.1.length_eq;simp at *;omega) (CT.out.two2 TT.out) (by simp) HPC.out (by have := LA.out;have := LB.out;have := HA1.out;have := HB1.out;have := HM.out;have := HB.out;have := HNN.out;have := HMD.out;omega) (by have := LA.out;have := LB.out;have := HA1.out;have := HB1.out;have := HM.out;have := HB.out;have := HNN.out;have := HMD.out;omega) (by have := LA.out;have := LB.out;have := HA1.out;have := HB1.out;have := HM.out;have := HB.out;have := HNN.out;have := HMD.out;omega) (by have := LA.out;have := LB.out;have := HA1.out;have := HB1.out;have := HM.out;have := HB.out;have := HNN.out;have := HMD.out;omega)).mono ?_
        rintro e2 w3 ⟨rfl,⟨C2,h1,h2,h3⟩,hg⟩
        have FIN : Aside0 (Merged cf P A B S blk w (.returned (.tuple #[])) w3) := ⟨⟨rfl,⟨C1 ++ C2,by rw [show P ++ (C1 ++ C2) ++ S = P ++ C1 ++ C2 ++ S by simp];exact h1,(CT.out.join TT.out HC1.out.1 HC1.out.2 h2 h3).1,(CT.out.join TT.out HC1.out.1 HC1.out.2 h2 h3).2⟩,only_trans G2.out hg⟩⟩
        clear h1 h2 h3 hg H2 G2
        go_wp2_with (fail)
        refine bodyPost_ret (results_none rfl _ _ _) rfl ?_
        exact FIN.out
       ·have Tmide : decide (mid < e) = true := decide_eq_true (by omega)
        have Tmidei : decide ((mid : Int) < (e : Int)) = true := decide_eq_true (by omega)
        have Tmidel : (mid : Int) < (e : Int) := by omega
        have Tmiden : mid < e := by omega
        have Teb : decide (e < b) = false := decide_eq_false (by omega)
        have Tebi : decide ((e : Int) < (b : Int)) = false := decide_eq_false (by omega)
        have Tebl : (b : Int) ≤ (e : Int) := by omega
        have Tebn : b ≤ e := by omega
        have FL := Aside0.mk (CT.out.flat2 TT.out (by have := LA.out;have := LB.out;have := HA1.out;have := HB1.out;have := HM.out;have := HB.out;have := HNN.out;have := HMD.out;omega))
        have FIN : Aside0 (Merged cf P A B S blk w (.returned (.tuple #[])) wr) := ⟨⟨rfl,⟨C1 ++ (A2 ++ B2),by rw [show P ++ (C1 ++ (A2 ++ B2)) ++ S = P ++ C1 ++ (A2 ++ B2 ++ S) by simp];exact H2.out,(CT.out.join TT.out HC1.out.1 HC1.out.2 (List.Perm.refl _) FL.out).1,(CT.out.join TT.out HC1.out.1 HC1.out.2 (List.Perm.refl _) FL.out).2⟩,G2.out⟩⟩
        clear H2 G2 FL
        go_wp2_with (fail)
        refine bodyPost_ret (results_none rfl _ _ _) rfl ?_
        exact FIN.out
      ·have Tmide : decide (mid < e) = false := decide_eq_false (by omega)
       have Tmidei : decide ((mid : Int) < (e : Int)) = false := decide_eq_false (by omega)
       have Tmidel : (e : Int) ≤ (mid : Int) := by omega
       have Tmiden : e ≤ mid := by omega
       have FL := Aside0.mk (CT.out.flat2 TT.out (by have := LA.out;have := LB.out;have := HA1.out;have := HB1.out;have := HM.out;have := HB.out;have := HNN.out;have := HMD.out;omega))
       have FIN : Aside0 (Merged cf P A B S blk w (.returned (.tuple #[])) wr) := ⟨⟨rfl,⟨C1 ++ (A2 ++ B2),by rw [show P ++ (C1 ++ (A2 ++ B2)) ++ S = P ++ C1 ++ (A2 ++ B2 ++ S) by simp];exact H2.out,(CT.out.join TT.out HC1.out.1 HC1.out.2 (List.Perm.refl _) FL.out).1,(CT.out.join TT.out HC1.out.1 HC1.out.2 (List.Perm.refl _) FL.out).2⟩,G2.out⟩⟩
       clear H2 G2 FL
       go_wp2_with (fail)
       refine bodyPost_ret (results_none rfl _ _ _) rfl ?_
       exact FIN.out
   ·have Tim : decide (i < m) = false := decide_eq_false (by omega)
    have Timi : decide ((i : Int) < (m : Int)) = false := decide_eq_false (by omega)
    have Timl : (m : Int) ≤ (i : Int) := by omega
    have Timn : m ≤ i := by omega
    have H1 := Aside0.mk (show RowAt wr blk (P ++ A1 ++ B1 ++ (A2 ++ B2 ++ S)) by have := H.out;rwa [CT.out.noturn EL.out HP.out HM.out HA1.out HB1.out (by omega)] at this)
    have G1 := HG
    clear H HG
    rcases Nat.lt_or_ge a i with q1 | q1
    ·rcases Nat.lt_or_ge i mid with s1 | s1
     ·have Tai : decide (a < i) = true := decide_eq_true (by omega)
      have Taii : decide ((a : Int) < (i : Int)) = true := decide_eq_true (by omega)
      have Tail : (a : Int) < (i : Int) := by omega
      have Tain : a < i := by omega
      have Timid : decide (i < mid) = true := decide_eq_true (by omega)
      have Timidi : decide ((i : Int) < (mid : Int)) = true := decide_eq_true (by omega)
      have Timidl : (i : Int) < (mid : Int) := by omega
      have Timidn : i < mid := by omega
      go_wp2_with (fail)
      refine (IH.out P A1 B1 (A2 ++ B2 ++ S) _ a i mid _ (by have := LA.out;have := LB.out;have := HA1.out;have := HB1.out;have := HM.out;have := HB.out;have := HNN.out;have := HMD.out;omega) H1.out (by have := HL.out;have := EL.out;rw [this] at HL;have := HL.out;have := LA.out;have := LB.out;simp at *;omega) (CT.out.two1 TT.out) rfl HP.out HA1.out HMD.out (by have := LA.out;have := LB.out;have := HA1.out;have := HB1.out;have := HM.out;have := HB.out;have := HNN.out;have := HMD.out;omega) (by have := LA.out;have := LB.out;have := HA1.out;have := HB1.out;have := HM.out;have := HB.out;have := HNN.out;have := HMD.out;omega)).mono ?_
      rintro e2 w2 ⟨rfl,⟨C1,h1,h2,h3⟩,hg⟩
      have HC1 := Aside0.mk (And.intro h2 h3)
      have H2 := Aside0.mk h1
      have G2 := Aside0.mk (only_trans G1.out hg)
      have HPC := Aside0.mk (show (P ++ C1).length = mid by have := h2.length_eq;have := HP.out;simp at *;have := LA.out;have := LB.out;have := HA1.out;have := HB1.out;have := HM.out;have := HB.out;have := HNN.out;have := HMD.out;omega)
      clear h1 h2 h3 hg H1 G1
      rcases Nat.lt_or_ge mid e with q2 | q2
      ·rcases Nat.lt_or_ge e b with s2 | s2
       ·have Tmide : decide (mid < e) = true := decide_eq_true (by omega)
        have Tmidei : decide ((mid : Int) < (e : Int)) = true := decide_eq_true (by omega)
        have Tmidel : (mid : Int) < (e : Int) := by omega
        have Tmiden : mid < e := by omega
        have Teb : decide (e < b) = true := decide_eq_true (by omega)
        have Tebi : decide ((e : Int) < (b : Int)) = true := decide_eq_true (by omega)
        have Tebl : (e : Int) < (b : Int) := by omega
        have Tebn : e < b := by omega
        go_wp2_with (fail)
        refine (IH.out (P ++ C1) A2 B2 S _ mid e b _ (by have := LA.out;have := LB.out;have := HA1.out;have := HB1.out;have := HM.out;have := HB.out;have := HNN.out;have := HMD.out;omega) H2.out (by have := HL.out;have := EL.out;rw [this] at HL;have := HL.out;have := LA.out;have := LB.out;have := HC1.out.1.length_eq;simp at *;omega) (CT.out.two2 TT.out) (by simp) HPC.out (by have := LA.out;have := LB.out;have := HA1.out;have := HB1.out;have := HM.out;have := HB.out;have := HNN.out;have := HMD.out;omega) (by have := LA.out;have := LB.out;have := HA1.out;have := HB1.out;have := HM.out;have := HB.out;have := HNN.out;have := HMD.out;omega) (by have := LA.out;have := LB.out;have := HA1.out;have := HB1.out;have := HM.out;have := HB.out;have := HNN.out;have := HMD.out;omega) (by have := LA.out;have := LB.out;have := HA1.out;have := HB1.out;have := HM.out;have := HB.out;have := HNN.out;have := HMD.out;omega)).mono ?_
        rintro e2 w3 ⟨rfl,⟨C2,h1,h2,h3⟩,hg⟩
        have FIN : Aside0 (Merged cf P A B S blk w (.returned (.tuple #[])) w3) := ⟨⟨rfl,⟨C1 ++ C2,by rw [show P ++ (C1 ++ C2) ++ S = P ++ C1 ++ C2 ++ S by simp];exact h1,(CT.out.join TT.out HC1.out.1 HC1.out.2 h2 h3).1,(CT.out.join TT.out HC1.out.1 HC1.out.2 h2 h3).2⟩,only_trans G2.out hg⟩⟩
        clear h1 h2 h3 hg H2 G2
        go_wp2_with (fail)
        refine bodyPost_ret (results_none rfl _ _ _) rfl ?_
        exact FIN.out
       ·have Tmide : decide (mid < e) = true := decide_eq_true (by omega)
        have Tmidei : decide ((mid : Int) < (e : Int)) = true := decide_eq_true (by omega)
        have Tmidel : (mid : Int) < (e : Int) := by omega
        have Tmiden : mid < e := by omega
        have Teb : decide (e < b) = false := decide_eq_false (by omega)
        have Tebi : decide ((e : Int) < (b : Int)) = false := decide_eq_false (by omega)
        have Tebl : (b : Int) ≤ (e : Int) := by omega
        have Tebn : b ≤ e := by omega
        have FL := Aside0.mk (CT.out.flat2 TT.out (by have := LA.out;have := LB.out;have := HA1.out;have := HB1.out;have := HM.out;have := HB.out;have := HNN.out;have := HMD.out;omega))
        have FIN : Aside0 (Merged cf P A B S blk w (.returned (.tuple #[])) w2) := ⟨⟨rfl,⟨C1 ++ (A2 ++ B2),by rw [show P ++ (C1 ++ (A2 ++ B2)) ++ S = P ++ C1 ++ (A2 ++ B2 ++ S) by simp];exact H2.out,(CT.out.join TT.out HC1.out.1 HC1.out.2 (List.Perm.refl _) FL.out).1,(CT.out.join TT.out HC1.out.1 HC1.out.2 (List.Perm.refl _) FL.out).2⟩,G2.out⟩⟩
        clear H2 G2 FL
        go_wp2_with (fail)
        refine bodyPost_ret (results_none rfl _ _ _) rfl ?_
        exact FIN.out
      ·have Tmide : decide (mid < e) = false := decide_eq_false (by omega)
       have Tmidei : decide ((mid : Int) < (e : Int)) = false := decide_eq_false (by omega)
       have Tmidel : (e : Int) ≤ (mid : Int) := by omega
       have Tmiden : e ≤ mid := by omega
       have FL := Aside0.mk (CT.out.flat2 TT.out (by have := LA.out;have := LB.out;have := HA1.out;have := HB1.out;have := HM.out;have := HB.out;have := HNN.out;have := HMD.out;omega))
       have FIN : Aside0 (Merged cf P A B S blk w (.returned (.tuple #[])) w2) := ⟨⟨rfl,⟨C1 ++ (A2 ++ B2),by rw [show P ++ (C1 ++ (A2 ++ B2)) ++ S = P ++ C1 ++ (A2 ++ B2 ++ S) by simp];exact H2.out,(CT.out.join TT.out HC1.out.1 HC1.out.2 (List.Perm.refl _) FL.out).1,(CT.out.join TT.out HC1.out.1 HC1.out.2 (List.Perm.refl _) FL.out).2⟩,G2.out⟩⟩
       clear H2 G2 FL
       go_wp2_with (fail)
       refine bodyPost_ret (results_none rfl _ _ _) rfl ?_
       exact FIN.out
     ·have Tai : decide (a < i) = true := decide_eq_true (by omega)
      have Taii : decide ((a : Int) < (i : Int)) = true := decide_eq_true (by omega)
      have Tail : (a : Int) < (i : Int) := by omega
      have Tain : a < i := by omega
      have Timid : decide (i < mid) = false := decide_eq_false (by omega)
      have Timidi : decide ((i : Int) < (mid : Int)) = false := decide_eq_false (by omega)
      have Timidl : (mid : Int) ≤ (i : Int) := by omega
      have Timidn : mid ≤ i := by omega
      obtain ⟨C1,hC1⟩ : ∃ C1,C1 = A1 ++ B1 := ⟨_,rfl⟩
      have HC1 : Aside0 (C1.Perm (A1 ++ B1) ∧ Sorted cf C1) := ⟨by rw [hC1];exact ⟨List.Perm.refl _,CT.out.flat1 TT.out (by have := LA.out;have := LB.out;have := HA1.out;have := HB1.out;have := HM.out;have := HB.out;have := HNN.out;have := HMD.out;omega)⟩⟩
      have H2 : Aside0 (RowAt wr blk (P ++ C1 ++ (A2 ++ B2 ++ S))) := ⟨by have := H1.out;rw [hC1];rw [← List.append_assoc P A1 B1];exact this⟩
      have HPC := Aside0.mk (show (P ++ C1).length = mid by have := HP.out;rw [hC1];simp at *;have := LA.out;have := LB.out;have := HA1.out;have := HB1.out;have := HM.out;have := HB.out;have := HNN.out;have := HMD.out;omega)
      have G2 := G1
      clear hC1 H1 G1
      rcases Nat.lt_or_ge mid e with q2 | q2
      ·rcases Nat.lt_or_ge e b with s2 | s2
       ·have Tmide : decide (mid < e) = true := decide_eq_true (by omega)
        have Tmidei : decide ((mid : Int) < (e : Int)) = true := decide_eq_true (by omega)
        have Tmidel : (mid : Int) < (e : Int) := by omega
        have Tmiden : mid < e := by omega
        have Teb : decide (e < b) = true := decide_eq_true (by omega)
        have Tebi : decide ((e : Int) < (b : Int)) = true := decide_eq_true (by omega)
        have Tebl : (e : Int) < (b : Int) := by omega
        have Tebn : e < b := by omega
        go_wp2_with (fail)
        refine (IH.out (P ++ C1) A2 B2 S _ mid e b _ (by have := LA.out;have := LB.out;have := HA1.out;have := HB1.out;have := HM.out;have := HB.out;have := HNN.out;have := HMD.out;omega) H2.out (by have := HL.out;have := EL.out;rw [this] at HL;have := HL.out;have := LA.out;have := LB.out;have := HC1.out.1.length_eq;simp at *;omega) (CT.out.two2 TT.out) (by simp) HPC.out (by have := LA.out;have := LB.out;have := HA1.out;have := HB1.out;have := HM.out;have := HB.out;have := HNN.out;have := HMD.out;omega) (by have := LA.out;have := LB.out;have := HA1.out;have := HB1.out;have := HM.out;have := HB.out;have := HNN.out;have := HMD.out;omega) (by have := LA.out;have := LB.out;have := HA1.out;have := HB1.out;have := HM.out;have := HB.out;have := HNN.out;have := HMD.out;omega) (by have := LA.out;have := LB.out;have := HA1.out;have := HB1.out;have := HM.out;have := HB.out;have := HNN.out;have := HMD.out;omega)).mono ?_
        rintro e2 w3 ⟨rfl,⟨C2,h1,h2,h3⟩,hg⟩
        have FIN : Aside0 (Merged cf P A B S blk w (.returned (.tuple #[])) w3) := ⟨⟨rfl,⟨C1 ++ C2,by rw [show P ++ (C1 ++ C2) ++ S = P ++ C1 ++ C2 ++ S by simp];exact h1,(CT.out.join TT.out HC1.out.1 HC1.out.2 h2 h3).1,(CT.out.join TT.out HC1.out.1 HC1.out.2 h2 h3).2⟩,only_trans G2.out hg⟩⟩
        clear h1 h2 h3 hg H2 G2
        go_wp2_with (fail)
        refine bodyPost_ret (results_none rfl _ _ _) rfl ?_
        exact FIN.out
       ·have Tmide : decide (mid < e) = true := decide_eq_true (by omega)
        have Tmidei : decide ((mid : Int) < (e : Int)) = true := decide_eq_true (by omega)
        have Tmidel : (mid : Int) < (e : Int) := by omega
        have Tmiden : mid < e := by omega
        have Teb : decide (e < b) = false := decide_eq_false (by omega)
        have Tebi : decide ((e : Int) < (b : Int)) = false := decide_eq_false (by omega)
        have Tebl : (b : Int) ≤ (e : Int) := by omega
        have Tebn : b ≤ e := by omega
        have FL := Aside0.mk (CT.out.flat2 TT.out (by have := LA.out;have := LB.out;have := HA1.out;have := HB1.out;have := HM.out;have := HB.out;have := HNN.out;have := HMD.out;omega))
        have FIN : Aside0 (Merged cf P A B S blk w (.returned (.tuple #[])) wr) := ⟨⟨rfl,⟨C1 ++ (A2 ++ B2),by rw [show P ++ (C1 ++ (A2 ++ B2)) ++ S = P ++ C1 ++ (A2 ++ B2 ++ S) by simp];exact H2.out,(CT.out.join TT.out HC1.out.1 HC1.out.2 (List.Perm.refl _) FL.out).1,(CT.out.join TT.out HC1.out.1 HC1.out.2 (List.Perm.refl _) FL.out).2⟩,G2.out⟩⟩
        clear H2 G2 FL
        go_wp2_with (fail)
        refine bodyPost_ret (results_none rfl _ _ _) rfl ?_
        exact FIN.out
      ·have Tmide : decide (mid < e) = false := decide_eq_false (by omega)
       have Tmidei : decide ((mid : Int) < (e : Int)) = false := decide_eq_false (by omega)
       have Tmidel : (e : Int) ≤ (mid : Int) := by omega
       have Tmiden : e ≤ mid := by omega
       have FL := Aside0.mk (CT.out.flat2 TT.out (by have := LA.out;have := LB.out;have := HA1.out;have := HB1.out;have := HM.out;have := HB.out;have := HNN.out;have := HMD.out;omega))
       have FIN : Aside0 (Merged cf P A B S blk w (.returned (.tuple #[])) wr) := ⟨⟨rfl,⟨C1 ++ (A2 ++ B2),by rw [show P ++ (C1 ++ (A2 ++ B2)) ++ S = P ++ C1 ++ (A2 ++ B2 ++ S) by simp];exact H2.out,(CT.out.join TT.out HC1.out.1 HC1.out.2 (List.Perm.refl _) FL.out).1,(CT.out.join TT.out HC1.out.1 HC1.out.2 (List.Perm.refl _) FL.out).2⟩,G2.out⟩⟩
       clear H2 G2 FL
       go_wp2_with (fail)
       refine bodyPost_ret (results_none rfl _ _ _) rfl ?_
       exact FIN.out
    ·have Tai : decide (a < i) = false := decide_eq_false (by omega)
     have Taii : decide ((a : Int) < (i : Int)) = false := decide_eq_false (by omega)
     have Tail : (i : Int) ≤ (a : Int) := by omega
     have Tain : i ≤ a := by omega
     obtain ⟨C1,hC1⟩ : ∃ C1,C1 = A1 ++ B1 := ⟨_,rfl⟩
     have HC1 : Aside0 (C1.Perm (A1 ++ B1) ∧ Sorted cf C1) := ⟨by rw [hC1];exact ⟨List.Perm.refl _,CT.out.flat1 TT.out (by have := LA.out;have := LB.out;have := HA1.out;have := HB1.out;have := HM.out;have := HB.out;have := HNN.out;have := HMD.out;omega)⟩⟩
     have H2 : Aside0 (RowAt wr blk (P ++ C1 ++ (A2 ++ B2 ++ S))) := ⟨by have := H1.out;rw [hC1];rw [← List.append_assoc P A1 B1];exact this⟩
     have HPC := Aside0.mk (show (P ++ C1).length = mid by have := HP.out;rw [hC1];simp at *;have := LA.out;have := LB.out;have := HA1.out;have := HB1.out;have := HM.out;have := HB.out;have := HNN.out;have := HMD.out;omega)
     have G2 := G1
     clear hC1 H1 G1
     rcases Nat.lt_or_ge mid e with q2 | q2
     ·rcases Nat.lt_or_ge e b with s2 | s2
      ·have Tmide : decide (mid < e) = true := decide_eq_true (by omega)
       have Tmidei : decide ((mid : Int) < (e : Int)) = true := decide_eq_true (by omega)
       have Tmidel : (mid : Int) < (e : Int) := by omega
       have Tmiden : mid < e := by omega
       have Teb : decide (e < b) = true := decide_eq_true (by omega)
       have Tebi : decide ((e : Int) < (b : Int)) = true := decide_eq_true (by omega)
       have Tebl : (e : Int) < (b : Int) := by omega
       have Tebn : e < b := by omega
       go_wp2_with (fail)
       refine (IH.out (P ++ C1) A2 B2 S _ mid e b _ (by have := LA.out;have := LB.out;have := HA1.out;have := HB1.out;have := HM.out;have := HB.out;have := HNN.out;have := HMD.out;omega) H2.out (by have := HL.out;have := EL.out;rw [this] at HL;have := HL.out;have := LA.out;have := LB.out;have := HC1.out.1.length_eq;simp at *;omega) (CT.out.two2 TT.out) (by simp) HPC.out (by have := LA.out;have := LB.out;have := HA1.out;have := HB1.out;have := HM.out;have := HB.out;have := HNN.out;have := HMD.out;omega) (by have := LA.out;have := LB.out;have := HA1.out;have := HB1.out;have := HM.out;have := HB.out;have := HNN.out;have := HMD.out;omega) (by have := LA.out;have := LB.out;have := HA1.out;have := HB1.out;have := HM.out;have := HB.out;have := HNN.out;have := HMD.out;omega) (by have := LA.out;have := LB.out;have := HA1.out;have := HB1.out;have := HM.out;have := HB.out;have := HNN.out;have := HMD.out;omega)).mono ?_
       rintro e2 w3 ⟨rfl,⟨C2,h1,h2,h3⟩,hg⟩
       have FIN : Aside0 (Merged cf P A B S blk w (.returned (.tuple #[])) w3) := ⟨⟨rfl,⟨C1 ++ C2,by rw [show P ++ (C1 ++ C2) ++ S = P ++ C1 ++ C2 ++ S by simp];exact h1,(CT.out.join TT.out HC1.out.1 HC1.out.2 h2 h3).1,(CT.out.join TT.out HC1.out.1 HC1.out.2 h2 h3).2⟩,only_trans G2.out hg⟩⟩
       clear h1 h2 h3 hg H2 G2
       go_wp2_with (fail)
       refine bodyPost_ret (results_none rfl _ _ _) rfl ?_
       exact FIN.out
      ·have Tmide : decide (mid < e) = true := decide_eq_true (by omega)
       have Tmidei : decide ((mid : Int) < (e : Int)) = true := decide_eq_true (by omega)
       have Tmidel : (mid : Int) < (e : Int) := by omega
       have Tmiden : mid < e := by omega
       have Teb : decide (e < b) = false := decide_eq_false (by omega)
       have Tebi : decide ((e : Int) < (b : Int)) = false := decide_eq_false (by omega)
       have Tebl : (b : Int) ≤ (e : Int) := by omega
       have Tebn : b ≤ e := by omega
       have FL := Aside0.mk (CT.out.flat2 TT.out (by have := LA.out;have := LB.out;have := HA1.out;have := HB1.out;have := HM.out;have := HB.out;have := HNN.out;have := HMD.out;omega))
       have FIN : Aside0 (Merged cf P A B S blk w (.returned (.tuple #[])) wr) := ⟨⟨rfl,⟨C1 ++ (A2 ++ B2),by rw [show P ++ (C1 ++ (A2 ++ B2)) ++ S = P ++ C1 ++ (A2 ++ B2 ++ S) by simp];exact H2.out,(CT.out.join TT.out HC1.out.1 HC1.out.2 (List.Perm.refl _) FL.out).1,(CT.out.join TT.out HC1.out.1 HC1.out.2 (List.Perm.refl _) FL.out).2⟩,G2.out⟩⟩
       clear H2 G2 FL
       go_wp2_with (fail)
       refine bodyPost_ret (results_none rfl _ _ _) rfl ?_
       exact FIN.out
     ·have Tmide : decide (mid < e) = false := decide_eq_false (by omega)
      have Tmidei : decide ((mid : Int) < (e : Int)) = false := decide_eq_false (by omega)
      have Tmidel : (e : Int) ≤ (mid : Int) := by omega
      have Tmiden : e ≤ mid := by omega
      have FL := Aside0.mk (CT.out.flat2 TT.out (by have := LA.out;have := LB.out;have := HA1.out;have := HB1.out;have := HM.out;have := HB.out;have := HNN.out;have := HMD.out;omega))
      have FIN : Aside0 (Merged cf P A B S blk w (.returned (.tuple #[])) wr) := ⟨⟨rfl,⟨C1 ++ (A2 ++ B2),by rw [show P ++ (C1 ++ (A2 ++ B2)) ++ S = P ++ C1 ++ (A2 ++ B2 ++ S) by simp];exact H2.out,(CT.out.join TT.out HC1.out.1 HC1.out.2 (List.Perm.refl _) FL.out).1,(CT.out.join TT.out HC1.out.1 HC1.out.2 (List.Perm.refl _) FL.out).2⟩,G2.out⟩⟩
      clear H2 G2 FL
      go_wp2_with (fail)
      refine bodyPost_ret (results_none rfl _ _ _) rfl ?_
      exact FIN.out
end Go.Proofs.Ytfoaeigoajooeaa.Z
end
section
namespace Go.Proofs.Ytfoaeigoajooeaa.Z
set_option linter.unusedVariables false
set_option linter.unusedSimpArgs false
set_option linter.unnecessarySimpa false
open Go.RowKit Go.Proofs.YtfoaeigoajooeaaW.PrintWords Go.Proofs.YtfoaeigoajooeaaW.PrintLast Go.Proofs.YtfoaeigoajooeaaW.PrintMore
theorem sym_merge (cf : Fe → Fe → Int) (hC : CmpOk 13 cf) (blk cap n : Nat) (hn : n ≤ 1000000) : ∀ K,MergesTo cf blk cap n K := by
 intro K
 induction K with
 | zero => intro P A B S L a m b w hlt;exact absurd hlt (Nat.not_lt_zero _)
 | succ K ihK =>
  intro P A B S L a m b w hlt h hlen t eL hP hm hb hA hB
  have hbn : b ≤ n := by rw [eL] at hlen;simp at hlen;omega
  rcases Nat.lt_or_ge A.length 2 with c | c
  ·obtain ⟨x,rfl⟩ := List.length_eq_one_iff.1 (show A.length = 1 by omega)
   exact merge1 cf hC blk cap a m b n P B S L x w h hlen hn t eL hP (by simp at hm;omega) hb hbn
  ·rcases Nat.lt_or_ge B.length 2 with d | d
   ·obtain ⟨y,rfl⟩ := List.length_eq_one_iff.1 (show B.length = 1 by omega)
    exact merge2 cf hC blk cap a m b n P A S L y w h hlen hn t eL hP hm c (by simp at hb;omega) hbn
   ·have ih : MergesTo cf blk cap n (A.length + B.length) := fun P' A' B' S' L' a' m' b' w' hl' => ihK P' A' B' S' L' a' m' b' w' (by omega)
    rcases Nat.lt_or_ge (a + b) (2 * m) with e | e
    ·exact merge30 cf hC blk cap a m b n P A B S L w ih h hlen hn t eL hP hm c d hb hbn e
    ·exact merge31 cf hC blk cap a m b n P A B S L w ih h hlen hn t eL hP hm c d hb hbn e
set_option maxHeartbeats 4000000 in
set_option maxRecDepth 100000 in
theorem insertion0 (cf : Fe → Fe → Int) (blk cap a n : Nat) (L : List El) (w : World) (h : RowAt w blk L) (ha : a ≤ 1000000) :
  Calls Try.prog 73 #[.slice (some ⟨blk,0,none⟩) n cap,.int .i64 a,.int .i64 a,.func (.func 13) #[] #[]] w fun e w' => e = .returned (.tuple #[]) ∧ RowAt w' blk L ∧ w.grownBy w' (some blk) := by
 have H := Aside0.mk h
 have HG := Aside0.mk (only_refl w blk)
 clear h
 go_enter Try.func73,Try.ntmps73
 go_wp2
 go_loopw [8] (fun iv wr => iv = .int .i64 ((a : Int) + 1) ∧ Aside0 (RowAt wr blk L) ∧ Aside0 (w.grownBy wr (some blk))) (fun iv _ => 0)
 case atStart => exact ⟨rfl,H,HG⟩
 case round =>
  clear H HG
  obtain ⟨rfl,H,HG⟩ := hrel
  have b0 : decide ((a : Int) + 1 < (a : Int)) = false := decide_eq_false (by omega)
  have b1 : (a : Int) ≤ (a : Int) + 1 := by omega
  go_wp2
  go_end0
  exact ⟨rfl,H.out,HG.out⟩
structure Segs (cf : Fe → Fe → Int) (X : List El) (Gs : List (List El)) : Prop where
 perm : Gs.flatten.Perm X
 srt : ∀ g ∈ Gs,Sorted cf g
 apart : Gs.Pairwise (fun c d => ∀ x ∈ c,∀ y ∈ d,x.2 < y.2)
theorem Segs.two {cf : Fe → Fe → Int} {X : List El} {E D : List (List El)} {c d : List El} (o : Ord3 cf) (h : Segs cf X (E ++ c :: d :: D)) (P S : List El) : Two cf P c d S :=
 ⟨o,h.srt c (by simp),h.srt d (by simp),(List.pairwise_cons.1 (List.pairwise_append.1 h.apart).2.1).1 d (by simp)⟩
theorem Segs.merge {cf : Fe → Fe → Int} {X : List El} {E D : List (List El)} {c d C : List El} (h : Segs cf X (E ++ c :: d :: D)) (hp : C.Perm (c ++ d)) (hs : Sorted cf C) : Segs cf X (E ++ C :: D) := by
 refine ⟨?_,?_,?_⟩
 ·refine List.Perm.trans ?_ h.perm
  rw [List.flatten_append,List.flatten_append,List.flatten_cons,List.flatten_cons,List.flatten_cons]
  refine List.Perm.append_left _ ?_
  rw [← List.append_assoc]
  exact List.Perm.append_right _ hp
 ·intro g hg
  rcases List.mem_append.1 hg with hg | hg
  ·exact h.srt g (by simp [hg])
  ·rcases List.mem_cons.1 hg with rfl | hg
   ·exact hs
   ·exact h.srt g (by simp [hg])
 ·obtain ⟨h1,h2,h3⟩ := List.pairwise_append.1 h.apart
  obtain ⟨k1,k2⟩ := List.pairwise_cons.1 h2
  obtain ⟨k3,k4⟩ := List.pairwise_cons.1 k2
  refine List.pairwise_append.2 ⟨h1,List.pairwise_cons.2 ⟨?_,k4⟩,?_⟩
  ·intro g hg x hx y hy
   rcases List.mem_append.1 (hp.mem_iff.1 hx) with hx | hx
   ·exact k1 g (by simp [hg]) x hx y hy
   ·exact k3 g hg x hx y hy
  ·intro e he g hg
   rcases List.mem_cons.1 hg with rfl | hg
   ·intro x hx y hy
    rcases List.mem_append.1 (hp.mem_iff.1 hy) with hy | hy
    ·exact h3 e he c (by simp) x hx y hy
    ·exact h3 e he d (by simp) x hx y hy
   ·exact h3 e he g (by simp [hg])
structure Half (cf : Fe → Fe → Int) (X : List El) (Gs : List (List El)) (R : List El) : Prop where
 perm : (Gs.flatten ++ R).Perm X
 srt : ∀ g ∈ Gs,Sorted cf g
 apart : Gs.Pairwise (fun c d => ∀ x ∈ c,∀ y ∈ d,x.2 < y.2)
 tags : Tags R
 ahead : ∀ g ∈ Gs,∀ x ∈ g,∀ y ∈ R,x.2 < y.2
theorem Half.start {cf : Fe → Fe → Int} {X : List El} (h : Tags X) : Half cf X [] X := ⟨List.Perm.refl _,by simp,List.Pairwise.nil,h,by simp⟩
theorem Half.step {cf : Fe → Fe → Int} {X R1 R2 C : List El} {Gs : List (List El)} (h : Half cf X Gs (R1 ++ R2)) (hp : C.Perm R1) (hs : Sorted cf C) : Half cf X (Gs ++ [C]) R2 := by
 obtain ⟨t1,t2,t3⟩ := List.pairwise_append.1 h.tags
 refine ⟨?_,?_,?_,t2,?_⟩
 ·refine List.Perm.trans ?_ h.perm
  rw [List.flatten_append,List.append_assoc]
  refine List.Perm.append_left _ ?_
  simpa using List.Perm.append_right R2 hp
 ·intro g hg
  rcases List.mem_append.1 hg with hg | hg
  ·exact h.srt g hg
  ·rw [List.mem_singleton.1 hg];exact hs
 ·refine List.pairwise_append.2 ⟨h.apart,List.pairwise_singleton _ _,?_⟩
  intro c hc d hd x hx y hy
  rw [List.mem_singleton.1 hd] at hy
  exact h.ahead c hc x hx y (List.mem_append_left _ (hp.mem_iff.1 hy))
 ·intro g hg x hx y hy
  rcases List.mem_append.1 hg with hg | hg
  ·exact h.ahead g hg x hx y (List.mem_append_right _ hy)
  ·rw [List.mem_singleton.1 hg] at hx
   exact t3 x (hp.mem_iff.1 hx) y hy
theorem Half.segs {cf : Fe → Fe → Int} {X R C : List El} {Gs : List (List El)} (h : Half cf X Gs R) (hp : C.Perm R) (hs : Sorted cf C) : Segs cf X (Gs ++ [C]) := by
 have k := Half.step (R1 := R) (R2 := []) (C := C) (show Half cf X Gs (R ++ []) by rw [List.append_nil];exact h) hp hs
 exact ⟨by simpa using k.perm,k.srt,k.apart⟩
def AllLen (s : Nat) (Gs : List (List El)) : Prop := ∀ g ∈ Gs,g.length = s
theorem AllLen.flat {s : Nat} : ∀ {Gs : List (List El)},AllLen s Gs → Gs.flatten.length = Gs.length * s
 | [],_ => by simp
 | g :: Gs,h => by
  have e := AllLen.flat (s := s) (Gs := Gs) fun d hd => h d (by simp [hd])
  have := h g (by simp)
  rw [List.flatten_cons,List.length_append,e,this,List.length_cons,Nat.succ_mul,Nat.add_comm]
theorem AllLen.app {s : Nat} {Gs : List (List El)} {C : List El} (h : AllLen s Gs) (hc : C.length = s) : AllLen s (Gs ++ [C]) := by
 intro g hg
 rcases List.mem_append.1 hg with hg | hg
 ·exact h g hg
 ·rw [List.mem_singleton.1 hg];exact hc
end Go.Proofs.Ytfoaeigoajooeaa.Z
end
section
namespace Go.Proofs.Ytfoaeigoajooeaa.Z
set_option linter.unusedVariables false
set_option linter.unusedSimpArgs false
set_option linter.unnecessarySimpa false
open Go.RowKit Go.Proofs.YtfoaeigoajooeaaW.PrintWords Go.Proofs.YtfoaeigoajooeaaW.PrintLast Go.Proofs.YtfoaeigoajooeaaW.PrintMore
theorem insertionA (cf : Fe → Fe → Int) (hC : CmpOk 13 cf) (blk cap a b n : Nat) (P X S L : List El) (w : World) (h : RowAt w blk L) (hlen : L.length = n) (hn : n ≤ 1000000) (eL : L = P ++ X ++ S) (hP : P.length = a) (hX : a + X.length = b) (ht : Tags X) :
  Calls Try.prog 73 #[.slice (some ⟨blk,0,none⟩) n cap,.int .i64 a,.int .i64 b,.func (.func 13) #[] #[]] w fun e w' => e = .returned (.tuple #[]) ∧ (∃ C,RowAt w' blk (P ++ C ++ S) ∧ C.Perm X ∧ Sorted cf C) ∧ w.grownBy w' (some blk) := by
 by_cases hne : X = []
 ·subst hne
  have e : a = b := by simpa using hX
  subst e
  refine (insertion0 cf blk cap a n L w h (by rw [eL] at hlen;simp at hlen;omega)).mono ?_
  rintro e w' ⟨rfl,h1,h2⟩
  exact ⟨rfl,⟨[],by rw [eL] at h1;exact h1,List.Perm.refl _,List.Pairwise.nil⟩,h2⟩
 ·exact insertion cf hC blk cap a b n P X S L w h hlen hn eL hP hX hne ht
theorem AllLen.big {s : Nat} {Ds : List (List El)} (h : AllLen s Ds) (r : Nat) (hr : r < s) (hb : 2 * s ≤ Ds.flatten.length + r) : ∃ c d D,Ds = c :: d :: D ∧ c.length = s ∧ d.length = s ∧ AllLen s D := by
 match Ds,h with
 | [],_ => simp at hb;omega
 | [c],h => have := h c (by simp);simp at hb;omega
 | c :: d :: D,h => exact ⟨c,d,D,rfl,h c (by simp),h d (by simp),fun g hg => h g (by simp [hg])⟩
theorem AllLen.small {s : Nat} {Ds : List (List El)} (h : AllLen s Ds) (r : Nat) (hb : Ds.flatten.length + r < 2 * s) : Ds = [] ∨ ∃ d,Ds = [d] ∧ d.length = s := by
 match Ds,h with
 | [],_ => exact Or.inl rfl
 | [c],h => exact Or.inr ⟨c,rfl,h c (by simp)⟩
 | c :: d :: D,h =>
  have := h c (by simp)
  have := h d (by simp)
  simp at hb
  omega
structure MidAt (cf : Fe → Fe → Int) (X : List El) (s a : Nat) (Es Ds : List (List El)) (R : List El) (n : Nat) (L : List El) : Prop where
 segs : Segs cf X (Es ++ (Ds ++ [R]))
 le : AllLen (2 * s) Es
 ld : AllLen s Ds
 lr : R.length < s
 la : Es.flatten.length = a
 ll : a + (Ds.flatten.length + R.length) = n
 flat : L = (Es ++ (Ds ++ [R])).flatten
structure OutAt (cf : Fe → Fe → Int) (X : List El) (s : Nat) (n : Nat) (L : List El) : Prop where
 out : ∃ Gs R,Segs cf X (Gs ++ [R]) ∧ AllLen s Gs ∧ R.length < s ∧ Gs.flatten.length + R.length = n ∧ L = (Gs ++ [R]).flatten
theorem OutAt.enter {cf : Fe → Fe → Int} {X : List El} {s n : Nat} {L : List El} (h : OutAt cf X s n L) : ∃ Ds R,MidAt cf X s 0 [] Ds R n L := by
 obtain ⟨Gs,R,h1,h2,h3,h4,h5⟩ := h.out
 exact ⟨Gs,R,h1,fun g hg => absurd hg (by simp),h2,h3,rfl,by omega,h5⟩
theorem OutAt.done {cf : Fe → Fe → Int} {X : List El} {s n : Nat} {L : List El} (h : OutAt cf X s n L) (hs : n ≤ s) (hp : 0 < s) : L.Perm X ∧ Sorted cf L := by
 obtain ⟨Gs,R,h1,h2,h3,h4,h5⟩ := h.out
 subst h5
 refine ⟨h1.perm,?_⟩
 rcases h2.small R.length (by omega) with rfl | ⟨d,rfl,hd⟩
 ·simpa using h1.srt R (by simp)
 ·have : R = [] := List.length_eq_zero_iff.1 (by simp at h4;omega)
  subst this
  simpa using h1.srt d (by simp)
theorem MidAt.len {cf : Fe → Fe → Int} {X : List El} {s a n : Nat} {Es Ds : List (List El)} {R L : List El} (h : MidAt cf X s a Es Ds R n L) : L.length = n := by
 have h1 := h.la
 have h2 := h.ll
 rw [h.flat,List.flatten_append,List.flatten_append,List.length_append,List.length_append]
 simp [-List.length_flatten]
 omega
theorem MidAt.step {cf : Fe → Fe → Int} {X : List El} {s a n : Nat} {Es D : List (List El)} {c d R L C : List El} (h : MidAt cf X s a Es (c :: d :: D) R n L) (hp : C.Perm (c ++ d)) (hs : Sorted cf C) : MidAt cf X s (a + 2 * s) (Es ++ [C]) D R n (Es.flatten ++ C ++ (D ++ [R]).flatten) := by
 have hc := h.ld c (by simp)
 have hd := h.ld d (by simp)
 have hl : C.length = 2 * s := by rw [hp.length_eq,List.length_append];omega
 have h1 := h.la
 have h2 := h.ll
 refine ⟨?_,h.le.app hl,fun g hg => h.ld g (by simp [hg]),h.lr,?_,?_,?_⟩
 ·have := h.segs.merge (E := Es) (D := D ++ [R]) hp hs
  simpa using this
 ·rw [List.flatten_append,List.length_append];simp [-List.length_flatten];omega
 ·simp [-List.length_flatten] at h2 ⊢;omega
 ·simp
theorem MidAt.two {cf : Fe → Fe → Int} {X : List El} {s a n : Nat} {Es D : List (List El)} {c d R L : List El} (o : Ord3 cf) (h : MidAt cf X s a Es (c :: d :: D) R n L) : Two cf Es.flatten c d (D ++ [R]).flatten ∧ L = Es.flatten ++ c ++ d ++ (D ++ [R]).flatten :=
 ⟨Segs.two (E := Es) (D := D ++ [R]) o h.segs _ _,by rw [h.flat];simp⟩
theorem MidAt.two1 {cf : Fe → Fe → Int} {X : List El} {s a n : Nat} {Es : List (List El)} {d R L : List El} (o : Ord3 cf) (h : MidAt cf X s a Es [d] R n L) : Two cf Es.flatten d R [] ∧ L = Es.flatten ++ d ++ R ++ [] :=
 ⟨Segs.two (E := Es) (D := []) o h.segs _ _,by rw [h.flat];simp⟩
theorem MidAt.last1 {cf : Fe → Fe → Int} {X : List El} {s a n : Nat} {Es : List (List El)} {d R L C : List El} (h : MidAt cf X s a Es [d] R n L) (hp : C.Perm (d ++ R)) (hs : Sorted cf C) : OutAt cf X (2 * s) n (Es.flatten ++ C ++ []) := by
 have hd := h.ld d (by simp)
 have hr := h.lr
 have h1 := h.la
 have h2 := h.ll
 have hl := hp.length_eq
 rw [List.length_append] at hl
 refine ⟨Es,C,h.segs.merge (E := Es) (D := []) hp hs,h.le,by omega,by simp at h2;omega,by simp⟩
theorem MidAt.last0 {cf : Fe → Fe → Int} {X : List El} {s a n : Nat} {Es : List (List El)} {R L : List El} (h : MidAt cf X s a Es [] R n L) : OutAt cf X (2 * s) n L := by
 have hr := h.lr
 have h1 := h.la
 have h2 := h.ll
 exact ⟨Es,R,h.segs,h.le,by omega,by simp at h2;omega,h.flat⟩
theorem MidAt.last2 {cf : Fe → Fe → Int} {X : List El} {s a n : Nat} {Es : List (List El)} {d L : List El} (h : MidAt cf X s a Es [d] [] n L) : OutAt cf X (2 * s) n L := by
 have := h.last1 (C := d) (by rw [List.append_nil]) (h.segs.srt d (by simp))
 have e : L = Es.flatten ++ d ++ [] := by rw [h.flat];simp
 rw [e];exact this
structure BegAt (cf : Fe → Fe → Int) (X : List El) (a n : Nat) (L : List El) : Prop where
 out : ∃ Gs R,Half cf X Gs R ∧ AllLen 20 Gs ∧ Gs.flatten.length = a ∧ a + R.length = n ∧ L = Gs.flatten ++ R
set_option maxHeartbeats 8000000 in
set_option maxRecDepth 100000 in
theorem stable (cf : Fe → Fe → Int) (hC : CmpOk 13 cf) (blk cap n : Nat) (X : List El) (w : World) (h : RowAt w blk X) (hlen : X.length = n) (hn : n ≤ 1000000) (ht : Tags X) :
  Calls Try.prog 69 #[.slice (some ⟨blk,0,none⟩) n cap,.int .i64 n,.func (.func 13) #[] #[]] w fun e w' => e = .returned (.tuple #[]) ∧ (∃ C,RowAt w' blk C ∧ C.Perm X ∧ Sorted cf C) ∧ w.grownBy w' (some blk) := by
 have H := Aside0.mk h
 have HG := Aside0.mk (only_refl w blk)
 have HH : Aside0 (BegAt cf X 0 n X) := ⟨⟨[],X,Half.start ht,fun g hg => absurd hg (by simp),rfl,by omega,rfl⟩⟩
 clear h ht hlen
 go_enter Try.func69,Try.ntmps69
 go_wp2
 go_loopw [7,8] (fun iv jv wr => ∃ (a b : Nat) (L : List El),iv = .int .i64 (a : Int) ∧ jv = .int .i64 (b : Int) ∧ a ≤ n ∧ b ≤ a + 20 ∧ a + 20 ≤ b ∧ Aside0 (BegAt cf X a n L) ∧ Aside0 (RowAt wr blk L) ∧ Aside0 (w.grownBy wr (some blk))) (fun iv jv _ => n - (intOf iv).toNat)
 case atStart => exact ⟨0,20,X,rfl,rfl,by omega,by omega,by omega,HH,H,HG⟩
 case round =>
  clear H HG HH
  obtain ⟨a,b,L,rfl,rfl,han,hb1,hb2,HH,H,HG⟩ := hrel
  obtain ⟨Gs,R,hH,hA,hGa,hR,hL⟩ := HH.out.out
  have HLen := Aside0.mk (show L.length = n by rw [hL,List.length_append];omega)
  by_cases hbn : b ≤ n
  ·have T1 : decide (b ≤ n) = true := decide_eq_true (by omega)
   have T2 : decide ((b : Int) ≤ (n : Int)) = true := decide_eq_true (by omega)
   have T3 : (b : Int) ≤ (n : Int) := by omega
   have T4 : b ≤ n := by omega
   obtain ⟨R1,R2,rfl,hR1⟩ : ∃ R1 R2,R = R1 ++ R2 ∧ R1.length = 20 := ⟨R.take 20,R.drop 20,(List.take_append_drop _ _).symm,by simp;omega⟩
   have HX := Aside0.mk (show a + R1.length = b by omega)
   have EL := Aside0.mk (show L = Gs.flatten ++ R1 ++ R2 by rw [hL];simp)
   have H1 := Aside0.mk hH
   have H2 := Aside0.mk hA
   have H3 := Aside0.mk hGa
   have H4 := Aside0.mk (show b + R2.length = n by simp at hR;omega)
   have H5 := Aside0.mk hR1
   clear hH hA hGa hR hL hR1
   go_wp2_with (fail)
   refine (insertionA cf hC blk cap a b n Gs.flatten R1 R2 L _ H.out HLen.out hn EL.out H3.out HX.out (List.pairwise_append.1 H1.out.tags).1).mono ?_
   rintro e w1 ⟨rfl,⟨C,h1,h2,h3⟩,hg⟩
   have HN : Aside0 (BegAt cf X b n (Gs.flatten ++ C ++ R2)) := ⟨⟨Gs ++ [C],R2,H1.out.step h2 h3,H2.out.app (h2.length_eq.trans H5.out),by have := H3.out;have := H5.out;have := h2.length_eq;rw [List.flatten_append,List.length_append];simp [-List.length_flatten];omega,H4.out,by simp⟩⟩
   have R3 := Aside0.mk h1
   have G3 := Aside0.mk (only_trans HG.out hg)
   clear h1 h2 h3 hg H HG HH
   go_wp2_with (fail)
   go_roundw
   case rel => exact ⟨b,b + 20,_,rfl,by go_num,hbn,by omega,by omega,HN,R3,G3⟩
   case measure => simp [intOf];omega
  ·have T1 : decide (b ≤ n) = false := decide_eq_false (by omega)
   have T2 : decide ((b : Int) ≤ (n : Int)) = false := decide_eq_false (by omega)
   have T3 : (n : Int) < (b : Int) := by omega
   have T4 : n < b := by omega
   have EL := Aside0.mk (show L = Gs.flatten ++ R ++ [] by rw [hL];simp)
   have H1 := Aside0.mk hH
   have H2 := Aside0.mk hA
   have H3 := Aside0.mk hGa
   have H4 := Aside0.mk hR
   clear hH hA hGa hR hL
   go_wp2_with (fail)
   refine (insertionA cf hC blk cap a n n Gs.flatten R [] L _ H.out HLen.out hn EL.out H3.out H4.out H1.out.tags).mono ?_
   rintro e w1 ⟨rfl,⟨C,h1,h2,h3⟩,hg⟩
   have HN : Aside0 (OutAt cf X 20 n (Gs.flatten ++ C ++ [])) := ⟨⟨Gs,C,H1.out.segs h2 h3,H2.out,by have := h2.length_eq;have := H4.out;omega,by have := h2.length_eq;have := H3.out;have := H4.out;omega,by simp⟩⟩
   obtain ⟨L1,hL1⟩ : ∃ L1,Gs.flatten ++ C ++ [] = L1 := ⟨_,rfl⟩
   rw [hL1] at HN h1
   have R3 := Aside0.mk h1
   have G3 := Aside0.mk (only_trans HG.out hg)
   clear h1 h2 h3 hg H HG HH T1 T2 T3 T4 hL1 EL H1 H2 H3 H4 HLen hbn hb1 hb2
   go_wp2_with (fail)
   go_loopw [6] (fun iv wr => ∃ (s : Nat) (L : List El),iv = .int .i64 (s : Int) ∧ 20 ≤ s ∧ s ≤ 2 * n + 20 ∧ Aside0 (OutAt cf X s n L) ∧ Aside0 (RowAt wr blk L) ∧ Aside0 (w.grownBy wr (some blk))) (fun iv _ => 2 * n + 21 - (intOf iv).toNat)
   case atStart => exact ⟨20,L1,rfl,by omega,by omega,HN,R3,G3⟩
   case round =>
    clear HN R3 G3
    obtain ⟨s,L,rfl,hs1,hs2,HO,H,HG⟩ := hrel
    by_cases hsn : s < n
    ·have T1 : decide (s < n) = true := decide_eq_true (by omega)
     have T2 : decide ((s : Int) < (n : Int)) = true := decide_eq_true (by omega)
     have T3 : (s : Int) < (n : Int) := by omega
     have T4 : s < n := by omega
     obtain ⟨Ds,R,hM⟩ := HO.out.enter
     have HM := Aside0.mk hM
     clear hM HO
     go_wp2_with (fail)
     go_loopw [7,8] (fun iv jv wr => ∃ (a b : Nat) (Es Ds : List (List El)) (L : List El),iv = .int .i64 (a : Int) ∧ jv = .int .i64 (b : Int) ∧ a ≤ n ∧ b ≤ a + 2 * s ∧ a + 2 * s ≤ b ∧ Aside0 (MidAt cf X s a Es Ds R n L) ∧ Aside0 (RowAt wr blk L) ∧ Aside0 (w.grownBy wr (some blk))) (fun iv jv _ => n - (intOf iv).toNat)
     case atStart => exact ⟨0,2 * s,[],Ds,L,rfl,by go_num,by omega,by omega,by omega,HM,H,HG⟩
     case round =>
      clear HM H HG
      obtain ⟨a,b,Es,Ds,L,rfl,rfl,han,hb1,hb2,HM,H,HG⟩ := hrel
      obtain ⟨m,hm⟩ : ∃ m : Nat,(a : Int) + (s : Int) = (m : Int) := ⟨a + s,by omega⟩
      by_cases hbn : b ≤ n
      ·have Tb1 : decide (b ≤ n) = true := decide_eq_true (by omega)
       have Tb2 : decide ((b : Int) ≤ (n : Int)) = true := decide_eq_true (by omega)
       have Tb3 : (b : Int) ≤ (n : Int) := by omega
       have Tb4 : b ≤ n := by omega
       obtain ⟨c,d,D,rfl,hc,hd,hD⟩ := HM.out.ld.big R.length HM.out.lr (by have := HM.out.ll;omega)
       have TW := Aside0.mk (HM.out.two hC.ord)
       have HC := Aside0.mk hc
       have HD := Aside0.mk hd
       clear hc hd hD
       go_wp2_with (fail)
       refine (sym_merge cf hC blk cap n hn (c.length + d.length + 1) Es.flatten c d (D ++ [R]).flatten L a m b _ (by omega) H.out HM.out.len TW.out.1 TW.out.2 HM.out.la (by have := HC.out;omega) (by have := HD.out;omega) (by have := HC.out;omega) (by have := HD.out;omega)).mono ?_
       rintro e w1 ⟨rfl,⟨C,h1,h2,h3⟩,hg⟩
       have HN := Aside0.mk (show MidAt cf X s b (Es ++ [C]) D R n _ by rw [show b = a + 2 * s by omega];exact HM.out.step h2 h3)
       have R3 := Aside0.mk h1
       have G3 := Aside0.mk (only_trans HG.out hg)
       clear h1 h2 h3 hg H HG HM TW
       go_wp2_with (fail)
       go_roundw
       case rel => exact ⟨b,b + 2 * s,_,_,_,rfl,by go_num,hbn,by omega,by omega,HN,R3,G3⟩
       case measure => simp [intOf];omega
      ·have Tb1 : decide (b ≤ n) = false := decide_eq_false (by omega)
       have Tb2 : decide ((b : Int) ≤ (n : Int)) = false := decide_eq_false (by omega)
       have Tb3 : (n : Int) < (b : Int) := by omega
       have Tb4 : n < b := by omega
       have sm := HM.out.ld.small R.length (by have := HM.out.ll;omega)
       by_cases hmn : m < n
       ·have Tm1 : decide (m < n) = true := decide_eq_true (by omega)
        have Tm2 : decide ((m : Int) < (n : Int)) = true := decide_eq_true (by omega)
        have Tm3 : (m : Int) < (n : Int) := by omega
        have Tm4 : m < n := by omega
        have HDs : Aside0 (∃ d,Ds = [d] ∧ d.length = s ∧ R.length ≠ 0) := ⟨by
         have hll := HM.out.ll
         have hlr := HM.out.lr
         rcases sm with rfl | ⟨d,rfl,hd⟩
         ·simp at hll;omega
         ·exact ⟨d,rfl,hd,by simp at hll;omega⟩⟩
        obtain ⟨d,rfl,hd,hR0⟩ := HDs.out
        have HD := Aside0.mk hd
        have HR0 := Aside0.mk hR0
        have TW := Aside0.mk (HM.out.two1 hC.ord)
        clear sm hd hR0 HDs
        go_wp2_with (fail)
        refine (sym_merge cf hC blk cap n hn (d.length + R.length + 1) Es.flatten d R [] L a m n _ (by omega) H.out HM.out.len TW.out.1 TW.out.2 HM.out.la (by have := HD.out;omega) (by have := HM.out.ll;have := HD.out;simp at *;omega) (by have := HD.out;omega) HR0.out).mono ?_
        rintro e w1 ⟨rfl,⟨C,h1,h2,h3⟩,hg⟩
        have HN := Aside0.mk (HM.out.last1 h2 h3)
        have R3 := Aside0.mk h1
        have G3 := Aside0.mk (only_trans HG.out hg)
        clear h1 h2 h3 hg H HG HM TW
        go_wp2_with (fail)
        go_roundw
        case rel => exact ⟨2 * s,_,by go_num,by omega,by omega,HN,R3,G3⟩
        case measure => simp [intOf];omega
       ·have Tm1 : decide (m < n) = false := decide_eq_false (by omega)
        have Tm2 : decide ((m : Int) < (n : Int)) = false := decide_eq_false (by omega)
        have Tm3 : (n : Int) ≤ (m : Int) := by omega
        have Tm4 : n ≤ m := by omega
        have HN : Aside0 (OutAt cf X (2 * s) n L) := ⟨by
         have hll := HM.out.ll
         rcases sm with rfl | ⟨d,rfl,hd⟩
         ·exact HM.out.last0
         ·have : R = [] := List.length_eq_zero_iff.1 (by simp at hll;omega)
          subst this
          exact HM.out.last2⟩
        clear sm HM
        go_wp2_with (fail)
        go_roundw
        case rel => exact ⟨2 * s,_,by go_num,by omega,by omega,HN,H,HG⟩
        case measure => simp [intOf];omega
    ·have T1 : decide (s < n) = false := decide_eq_false (by omega)
     have T2 : decide ((s : Int) < (n : Int)) = false := decide_eq_false (by omega)
     have T3 : (n : Int) ≤ (s : Int) := by omega
     have T4 : n ≤ s := by omega
     have HD := Aside0.mk (HO.out.done (by omega) (by omega))
     go_wp2_with (fail)
     go_end0
     exact ⟨rfl,⟨L,H.out,HD.out.1,HD.out.2⟩,HG.out⟩
end Go.Proofs.Ytfoaeigoajooeaa.Z
end
section
namespace Go.Proofs.Ytfoaeigoajooeaa.Z
set_option linter.unusedVariables false
set_option linter.unusedSimpArgs false
open Go.RowKit Go.Proofs.YtfoaeigoajooeaaW.PrintWords Go.Proofs.YtfoaeigoajooeaaW.PrintLast Go.Proofs.YtfoaeigoajooeaaW.PrintMore
set_option maxHeartbeats 4000000 in
set_option maxRecDepth 100000 in
theorem sort_func (cf : Fe → Fe → Int) (hC : CmpOk 13 cf) (blk cap n : Nat) (X : List El) (w : World) (h : RowAt w blk X) (hlen : X.length = n) (hn : n ≤ 1000000) (ht : Tags X) :
  Calls Try.prog 56 #[.slice (some ⟨blk,0,none⟩) n cap,.func (.func 13) #[] #[]] w fun e w' => e = .returned (.tuple #[]) ∧ (∃ C,RowAt w' blk C ∧ C.Perm X ∧ Sorted cf C) ∧ w.grownBy w' (some blk) := by
 have H := Aside0.mk (stable cf hC blk cap n X w h hlen hn ht)
 clear h hlen ht
 go_enter Try.func56,Try.ntmps56
 go_wp2_with (fail)
 refine H.out.mono ?_
 rintro e w1 ⟨rfl,h1,h2⟩
 have R1 := Aside0.mk h1
 have R2 := Aside0.mk h2
 clear h1 h2
 go_wp2_with (fail)
 go_end0
 exact ⟨rfl,R1.out,R2.out⟩
end Go.Proofs.Ytfoaeigoajooeaa.Z
end
section
namespace Go.Proofs.Ytfoaeigoajooeaa.Z
set_option linter.unusedVariables false
set_option linter.unusedSimpArgs false
open Go.RowKit Go.Proofs.YtfoaeigoajooeaaW.PrintWords Go.Proofs.YtfoaeigoajooeaaW.PrintLast Go.Proofs.YtfoaeigoajooeaaW.PrintMore
structure SameOk (g : Nat) (cf : Fe → Fe → Int) : Prop where
 calls : ∀ (u v : Fe) (W : World) (blk : Nat),Gd W blk u → Gd W blk v → Calls Try.prog g #[.slice u.A u.row.length u.c,.slice v.A v.row.length v.c] W fun e w' => e = .returned (.bool (decide (cf u v = 0))) ∧ Below W.heap.size W w'
def keepJ (cf : Fe → Fe → Int) (L : List El) (j : Nat) : Bool := decide (j = 0) || !decide (cf (atL L j).1 (atL L (j - 1)).1 = 0)
def compU (cf : Fe → Fe → Int) (L : List El) (m : Nat) : List El := ((List.range m).filter (keepJ cf L)).map (atL L)
def compL (cf : Fe → Fe → Int) (L : List El) : List El := compU cf L L.length
theorem compU_succ (cf : Fe → Fe → Int) (L : List El) (m : Nat) : compU cf L (m + 1) = compU cf L m ++ (if keepJ cf L m = true then [atL L m] else []) := by
 unfold compU
 rw [List.range_succ,List.filter_append,List.map_append]
 congr 1
 by_cases h : keepJ cf L m = true
 ·simp [h]
 ·simp [h]
theorem take_atL (L : List El) (m : Nat) (h : m < L.length) : L.take (m + 1) = L.take m ++ [atL L m] := by
 rw [List.take_add_one,List.getElem?_eq_getElem h]
 unfold atL
 rw [List.getD_eq_getElem?_getD,List.getElem?_eq_getElem h]
 rfl
theorem compU_all {cf : Fe → Fe → Int} {L : List El} : ∀ m,m ≤ L.length → (∀ j,j < m → keepJ cf L j = true) → compU cf L m = L.take m
 | 0,_,_ => rfl
 | m + 1,h,hk => by
  rw [compU_succ,compU_all m (by omega) (fun j hj => hk j (by omega)),if_pos (hk m (by omega)),take_atL L m (by omega)]
structure CI (cf : Fe → Fe → Int) (L : List El) (m kk : Nat) (Lk : List El) : Prop where
 len : Lk.length = L.length
 cnt : (compU cf L m).length = kk
 pre : Lk.take kk = compU cf L m
 lt : kk < m
 mle : m ≤ L.length
 high : ∀ j,m ≤ j + 1 → j < L.length → atL Lk j = atL L j
theorem CI.start {cf : Fe → Fe → Int} {L : List El} {k : Nat} (hk : k < L.length) (ha : ∀ j,j < k → keepJ cf L j = true) (hn : keepJ cf L k = false) : CI cf L (k + 1) k L := by
 have h := compU_all k (by omega) ha
 have h2 : compU cf L (k + 1) = L.take k := by rw [compU_succ,h,hn];simp
 exact ⟨rfl,by rw [h2,List.length_take];omega,h2.symm,by omega,by omega,fun _ _ _ => rfl⟩
theorem CI.skip {cf : Fe → Fe → Int} {L Lk : List El} {m kk : Nat} (h : CI cf L m kk Lk) (hm : m < L.length) (hn : keepJ cf L m = false) : CI cf L (m + 1) kk Lk := by
 have h2 : compU cf L (m + 1) = compU cf L m := by rw [compU_succ,hn];simp
 exact ⟨h.len,by rw [h2,h.cnt],by rw [h2,h.pre],by have := h.lt;omega,hm,fun j h1 h2 => h.high j (by omega) h2⟩
theorem CI.keep {cf : Fe → Fe → Int} {L Lk : List El} {m kk : Nat} (h : CI cf L m kk Lk) (hm : m < L.length) (hn : keepJ cf L m = true) : CI cf L (m + 1) (kk + 1) (Lk.set kk (atL L m)) := by
 have hlt := h.lt
 have hl := h.len
 have h2 : compU cf L (m + 1) = compU cf L m ++ [atL L m] := by rw [compU_succ,if_pos hn]
 refine ⟨by rw [List.length_set,h.len],by rw [h2,List.length_append,h.cnt];rfl,?_,by omega,hm,fun j h1 h3 => ?_⟩
 ·rw [take_atL _ _ (by rw [List.length_set];omega),atL_set _ _ _ (by omega),if_pos rfl,h2,← h.pre,List.take_set_of_le (Nat.le_refl _)]
 ·rw [atL_set _ _ _ (by omega),if_neg (by omega)]
  exact h.high j (by omega) h3
theorem CI.done {cf : Fe → Fe → Int} {L Lk : List El} {m kk : Nat} (h : CI cf L m kk Lk) (hm : m = L.length) : Lk.take kk = compL cf L ∧ (compL cf L).length = kk := by
 subst hm
 exact ⟨h.pre,h.cnt⟩
theorem setCells_blk {blk : Nat} : ∀ (vs : List Value) (o : Nat) (w : World) (cells : Array Value),w.heap[blk]? = some (.cells cells 22 (0,0)) → ∃ cells',(w.setCells blk o vs).heap[blk]? = some (.cells cells' 22 (0,0))
 | [],_,_,cells,h => ⟨cells,h⟩
 | v :: r,o,w,cells,h => setCells_blk r (o + 1) _ _ (blk_set h o v)
theorem only_setCells {a : World} {blk : Nat} : ∀ (vs : List Value) (o : Nat) {w : World},a.grownBy w (some blk) → a.grownBy (w.setCells blk o vs) (some blk)
 | [],_,_,h => h
 | v :: r,o,_,h => only_setCells r (o + 1) (only_setCell h (.inl rfl) v)
theorem atL_take (L : List El) (m i : Nat) (h : i < m) : atL (L.take m) i = atL L i := by
 unfold atL
 rw [List.getD_eq_getElem?_getD,List.getD_eq_getElem?_getD,List.getElem?_take_of_lt h]
theorem RowAt.pre {w : World} {blk : Nat} {L : List El} (h : RowAt w blk L) (m : Nat) : RowAt w blk (L.take m) := by
 obtain ⟨cells,hb,hc⟩ := h.out
 refine ⟨⟨cells,hb,fun i hi => ?_⟩,fun i hi => ?_⟩
 ·rw [List.length_take] at hi
  rw [atL_take L m i (by omega)]
  exact hc i (by omega)
 ·rw [List.length_take] at hi
  rw [atL_take L m i (by omega)]
  exact h.good i (by omega)
theorem RowAt.clear {w : World} {blk : Nat} {L : List El} (h : RowAt w blk L) (m : Nat) (hm : m ≤ L.length) (vs : List Value) (o : Nat) (ho : m ≤ o) : RowAt (w.setCells blk o vs) blk (L.take m) := by
 have hsz := (setCells_same blk vs o w).2.2.2
 have key : ∀ i j,i < m → j < 1 → (w.setCells blk o vs).cell? ⟨blk,i + j,none⟩ = w.cell? ⟨blk,i + j,none⟩ := fun i j hi hj => World.cell?_setCells_out blk vs o w ⟨blk,i + j,none⟩ (fun _ _ => .inl (by show i + j < o;omega))
 obtain ⟨cells,hb,hc⟩ := h.out
 have hb2 : ∃ cells',(w.setCells blk o vs).heap[blk]? = some (.cells cells' 22 (0,0)) := setCells_blk vs o w cells hb
 obtain ⟨cells',hb'⟩ := hb2
 refine ⟨⟨cells',hb',fun i hi => ?_⟩,fun i hi => ?_⟩
 ·rw [List.length_take] at hi
  rw [atL_take L m i (by omega)]
  have h1 := hc i (by omega)
  have k2 : ∀ j,j < 1 → cells'[i + j]? = cells[i + j]? := fun j hj => by
   have := key i j (by omega) hj
   rw [q0e hb',q0e hb] at this
   exact this
  exact (k2 0 (by omega)).trans h1
 ·rw [List.length_take] at hi
  rw [atL_take L m i (by omega)]
  exact (h.good i (by omega)).step (Nat.le_of_eq hsz.symm) (fun k _ hn => setCells_far vs o k hn)
theorem RowAt.isCell {w : World} {blk : Nat} {L : List El} (h : RowAt w blk L) (q : Nat) (hq : q < L.length) : (w.cell? ⟨blk,q,none⟩).isSome = true := by
 have hd : q = q / 1 + q % 1 := by omega
 have hi : q / 1 < L.length := by omega
 have hm : q % 1 < 1 := Nat.mod_lt _ (by decide)
 have hc := h.cell hi
 rw [hd]
 generalize q / 1 = i at *
 generalize q % 1 = j at *
 obtain rfl : j = 0 := by omega
 rw [Nat.add_zero,hc.1];rfl
theorem zero_len (zs : Array Value) (n : Nat) : (Builtin.zeroCells zs n).toList.length = n * zs.size := by
 simp [Builtin.zeroCells]
theorem zero_one (zs : Array Value) (n : Nat) (hp : 0 < zs.size) (h : ∀ i,i < zs.size → (zs[i]!).oneCell' = true) : ∀ v ∈ (Builtin.zeroCells zs n).toList,v.oneCell' = true := by
 intro v hv
 simp only [Builtin.zeroCells,Array.toList_map,List.mem_map] at hv
 obtain ⟨i,_,rfl⟩ := hv
 exact h _ (Nat.mod_lt _ hp)
theorem clear_els {w : World} {blk : Nat} {L : List El} (h : RowAt w blk L) (kk d c ty : Nat) (hd : kk + d = L.length) (h0 : 0 < d) :
  ∃ vs,(Builtin.clear_ #[42] ty #[.slice (Option.some ⟨blk,kk,none⟩) d c]).run Try.prog w = .ok (.tuple #[]) (w.setCells blk (kk) vs) := by
 obtain ⟨z,hz⟩ : ∃ z : Value,z = .slice none 0 0 := ⟨_,rfl⟩
 have hsz : z.cells.size = 1 := by subst hz;rfl
 have hone : ∀ v ∈ (Builtin.zeroCells z.cells d).toList,v.oneCell' = true := zero_one _ _ (by rw [hsz];decide) (fun i hi => by
  rw [hsz] at hi
  subst hz
  obtain rfl : i = 0 := by omega
  rfl)
 have hlen : (Builtin.zeroCells z.cells d).toList.length = d := by rw [zero_len,hsz,Nat.mul_one]
 have ht : Try.prog.underlying 42 = Option.some (.slice 22) := by kernel_rfl
 have hv : ∀ w,(zeroValue 22).run Try.prog w = .ok z w := fun w => by subst hz;kernel_rfl
 have hst := run_storeCells_cells (P := Try.prog) blk (kk) (Builtin.zeroCells z.cells d).toList 0 w (fun j hj => h.isCell _ (by rw [hlen] at hj;omega)) (fun j hj => by
  obtain ⟨cells,hb,_⟩ := h.out
  exact q0d hb _) hone
 simp only [Nat.add_zero] at hst
 obtain ⟨m,rfl⟩ : ∃ m,d = m + 1 := ⟨d - 1,by omega⟩
 exact ⟨(Builtin.zeroCells z.cells (m + 1)).toList,by simp [Builtin.clear_,run_underlying ht,hv,hst]⟩
set_option maxHeartbeats 8000000 in
set_option maxRecDepth 100000 in
theorem compact (cf : Fe → Fe → Int) (hS : SameOk 21 cf) (blk cap n : Nat) (L : List El) (w : World) (h : RowAt w blk L) (hlen : L.length = n) (hn : n ≤ 1000000) (hcap : n ≤ cap) :
  Calls Try.prog 57 #[.slice (some ⟨blk,0,none⟩) n cap,.func (.func 21) #[] #[]] w fun e w' => e = .returned (.slice (some ⟨blk,0,none⟩) (compL cf L).length cap) ∧ RowAt w' blk (compL cf L) ∧ w.grownBy w' (some blk) := by
 have H := Aside0.mk h
 have HG := Aside0.mk (only_refl w blk)
 have HL := Aside0.mk hlen
 obtain ⟨C,hC⟩ : ∃ C,compL cf L = C := ⟨_,rfl⟩
 have HC := Aside0.mk hC
 rw [hC]
 clear h hlen hC
 by_cases h2 : n < 2
 ·have hCC : C = L := by
   have e1 := HC.out
   have e2 := HL.out
   rw [← e1]
   unfold compL
   rw [compU_all L.length (Nat.le_refl _) (fun j hj => by
    obtain rfl : j = 0 := by omega
    rfl),List.take_length]
  have t0 : decide ((n : Int) < (2 : Int)) = true := decide_eq_true (by omega)
  have HC2 := Aside0.mk hCC
  clear hCC
  go_enter Try.func57,Try.ntmps57
  go_wp2
  go_ret
  exact ⟨by rw [HC2.out,HL.out];rfl,by rw [HC2.out];exact H.out,HG.out⟩
 ·have t0 : decide ((n : Int) < (2 : Int)) = false := decide_eq_false (by omega)
  go_enter Try.func57,Try.ntmps57
  go_wp2
  go_loopw [5] (fun iv wr => ∃ k : Nat,iv = .int .i64 (k : Int) ∧ 1 ≤ k ∧ k ≤ n ∧ Aside0 (∀ j,j < k → keepJ cf L j = true) ∧ Aside0 (RowAt wr blk L) ∧ Aside0 (w.grownBy wr (some blk))) (fun iv _ => n - (intOf iv).toNat)
  case atStart => exact ⟨1,rfl,Nat.le_refl _,by omega,⟨fun j hj => by have e : j = 0 := (by omega);subst e;rfl⟩,H,HG⟩
  case round =>
   clear H HG
   rename World => wr
   obtain ⟨k,rfl,hk1,hkn,KP,H,HG⟩ := hrel
   by_cases hlt : k < n
   ·obtain ⟨kp,rfl⟩ : ∃ kp,k = kp + 1 := ⟨k - 1,by omega⟩
    obtain ⟨x0,z,hbl,gx⟩ := H.out.cell (i := kp + 1) (by have := HL.out;omega)
    obtain ⟨y0,_,_,gy⟩ := H.out.cell (i := kp) (by have := HL.out;omega)
    have BL := Aside0.mk hbl
    clear hbl z
    generalize hx : atL L (kp + 1) = ex at x0 gx
    generalize hy : atL L kp = ey at y0 gy
    have HXE := Aside0.mk hx
    have HYE := Aside0.mk hy
    clear hx hy
    have b0 : decide ((kp : Int) + 1 < (n : Int)) = true := decide_eq_true (by omega)
    have hwp : IntKind.i64.wrap (kp : Int) = (kp : Int) := by rw [IntKind.wrap_i64];omega
    have jz : (kp : Int) + 1 < (n : Int) := by omega
    have jz1 : (kp : Int) < (n : Int) := by omega
    have p0 : (0 : Int) ≤ (kp : Int) + 1 := by omega
    have p1 : (0 : Int) ≤ (kp : Int) := by omega
    have e0 : ((kp : Int) + 1).toNat = kp + 1 := by omega
    by_cases hc : cf ex.1 ey.1 = 0
    ·have c0 : decide (cf ex.1 ey.1 = 0) = true := decide_eq_true hc
     have KN := Aside0.mk (show keepJ cf L (kp + 1) = false by unfold keepJ;rw [Nat.add_sub_cancel,HXE.out,HYE.out];simp [hc])
     clear hc HXE HYE
     go_wp2_with (fail)
     go_region_held3 (fun w' => w'.cell? ⟨blk,kp + 1,none⟩ = some (.slice ex.1.A ex.1.row.length ex.1.c) ∧ w'.cell? ⟨blk,kp,none⟩ = some (.slice ey.1.A ey.1.row.length ey.1.c)) (first | go_keep | exact ⟨by assumption,by assumption⟩) (first | (go_at_call 21;refine (hS.calls ex.1 ey.1 _ blk ?_ ?_).mono ?_;exact gx;exact gy;rintro e w2 ⟨rfl,hb2⟩;have N2 := Aside0.mk (sameW_next (w1 := wr) hb2);clear hb2;have u0 := (N2.out.cell (p := ⟨blk,kp + 1,none⟩) BL.out).trans x0;have v0 := (N2.out.cell (p := ⟨blk,kp,none⟩) BL.out).trans y0))
     have R2 := Aside0.mk (H.out.below N2.out)
     have G1 := Aside0.mk (only_belowT HG.out N2.out)
     clear x0 gx y0 gy u0 v0 H HG BL N2
     go_wp2
     generalize hd : n - (kp + 1) = d
     have HD := Aside0.mk (show kp + 1 + d = n by omega)
     have hd1 : kp + 1 + d ≤ n := by omega
     have hd2 : n ≤ kp + 1 + d := by omega
     have CI0 := Aside0.mk (CI.start (L := L) (k := kp + 1) (by have := HL.out;omega) KP.out KN.out)
     clear hd KP KN c0
     go_loopw [5,7] (fun kv jv wr => ∃ (kk kq : Nat) (Lk : List El),kv = .int .i64 (kk : Int) ∧ jv = .int .i64 ((kq : Int) + 1) ∧ kq + 1 ≤ d ∧ kk ≤ kp + 1 + kq ∧ Aside0 (CI cf L (kp + 1 + kq + 1) kk Lk) ∧ Aside0 (RowAt wr blk Lk) ∧ Aside0 (w.grownBy wr (some blk))) (fun _ jv _ => d - (intOf jv).toNat)
     case atStart => exact ⟨kp + 1,0,L,by go_num,by go_num,by omega,by omega,CI0,R2,G1⟩
     case round =>
      clear R2 G1 CI0
      rename World => wr
      obtain ⟨kk,kq,Lk,rfl,rfl,hq,hkk,CX,H,HG⟩ := hrel
      by_cases hlt2 : kq + 1 < d
      ·obtain ⟨x0,z,hbl,gx⟩ := H.out.cell (i := kp + 1 + (kq + 1)) (by have := HL.out;have := CX.out.len;omega)
       obtain ⟨y0,_,_,gy⟩ := H.out.cell (i := kp + 1 + kq) (by have := HL.out;have := CX.out.len;omega)
       have hx2 : atL Lk (kp + 1 + (kq + 1)) = atL L (kp + 1 + (kq + 1)) := CX.out.high _ (by omega) (by have := HL.out;omega)
       have hy2 : atL Lk (kp + 1 + kq) = atL L (kp + 1 + kq) := CX.out.high _ (by omega) (by have := HL.out;omega)
       have BL := Aside0.mk hbl
       clear hbl
       have FZ := Aside0.mk z
       clear z
       rw [hx2] at x0 gx
       rw [hy2] at y0 gy
       clear hx2 hy2
       skip
       generalize hx : atL L (kp + 1 + (kq + 1)) = ex at x0 gx
       generalize hy : atL L (kp + 1 + kq) = ey at y0 gy
       have HXE := Aside0.mk hx
       have HYE := Aside0.mk hy
       clear hx hy
       have b0 : decide ((kq : Int) + 1 < (d : Int)) = true := decide_eq_true (by omega)
       have hwp : IntKind.i64.wrap (kq : Int) = (kq : Int) := by rw [IntKind.wrap_i64];omega
       have jz : (kq : Int) + 1 < (d : Int) := by omega
       have jz1 : (kq : Int) < (d : Int) := by omega
       have p0 : (0 : Int) ≤ (kq : Int) + 1 := by omega
       have p1 : (0 : Int) ≤ (kq : Int) := by omega
       have e0 : ((kq : Int) + 1).toNat = kq + 1 := by omega
       by_cases hc : cf ex.1 ey.1 = 0
       ·have c0 : decide (cf ex.1 ey.1 = 0) = true := decide_eq_true hc
        have KN := Aside0.mk (show keepJ cf L (kp + 1 + kq + 1) = false by unfold keepJ;rw [Nat.add_sub_cancel,show kp + 1 + kq + 1 = kp + 1 + (kq + 1) from rfl,HXE.out,HYE.out];simp [hc])
        clear hc HXE HYE
        go_wp2_with (fail)
        go_region_held3 (fun w' => w'.cell? ⟨blk,(kp + 1) + (kq + 1),none⟩ = some (.slice ex.1.A ex.1.row.length ex.1.c) ∧ w'.cell? ⟨blk,(kp + 1) + kq,none⟩ = some (.slice ey.1.A ey.1.row.length ey.1.c)) (first | go_keep | exact ⟨by assumption,by assumption⟩) (first | (go_at_call 21;refine (hS.calls ex.1 ey.1 _ blk ?_ ?_).mono ?_;exact gx;exact gy;rintro e w2 ⟨rfl,hb2⟩;have N2 := Aside0.mk (sameW_next (w1 := wr) hb2);clear hb2;have u0 := (N2.out.cell (p := ⟨blk,(kp + 1) + (kq + 1),none⟩) BL.out).trans x0;have v0 := (N2.out.cell (p := ⟨blk,(kp + 1) + kq,none⟩) BL.out).trans y0))
        have R2 := Aside0.mk (H.out.below N2.out)
        have G1 := Aside0.mk (only_belowT HG.out N2.out)
        clear x0 gx y0 gy u0 v0 H HG BL N2 FZ
        go_wp2
        go_roundw
        case rel => exact ⟨kk,kq + 1,Lk,rfl,by go_num,by omega,by omega,⟨CX.out.skip (by have := HL.out;omega) KN.out⟩,R2,G1⟩
        case measure => simp [intOf];omega
       ·have c0 : decide (cf ex.1 ey.1 = 0) = false := decide_eq_false hc
        have KN := Aside0.mk (show keepJ cf L (kp + 1 + kq + 1) = true by unfold keepJ;rw [Nat.add_sub_cancel,show kp + 1 + kq + 1 = kp + 1 + (kq + 1) from rfl,HXE.out,HYE.out];simp [hc])
        clear hc HYE
        go_wp2_with (fail)
        go_region_held3 (fun w' => w'.cell? ⟨blk,(kp + 1) + (kq + 1),none⟩ = some (.slice ex.1.A ex.1.row.length ex.1.c) ∧ w'.cell? ⟨blk,(kp + 1) + kq,none⟩ = some (.slice ey.1.A ey.1.row.length ey.1.c)) (first | go_keep | exact ⟨by assumption,by assumption⟩) (first | (go_at_call 21;refine (hS.calls ex.1 ey.1 _ blk ?_ ?_).mono ?_;exact gx;exact gy;rintro e w2 ⟨rfl,hb2⟩;have N2 := Aside0.mk (sameW_next (w1 := wr) hb2);clear hb2;have u0 := (N2.out.cell (p := ⟨blk,(kp + 1) + (kq + 1),none⟩) BL.out).trans x0;have v0 := (N2.out.cell (p := ⟨blk,(kp + 1) + kq,none⟩) BL.out).trans y0))
        have R2 := Aside0.mk (H.out.below N2.out)
        have G1 := Aside0.mk (only_belowT HG.out N2.out)
        have R3 := Aside0.mk (R2.out.put (i := kk) (by have := HL.out;have := CX.out.len;omega) (atL L (kp + 1 + kq + 1)) (by rw [show kp + 1 + kq + 1 = kp + 1 + (kq + 1) from rfl,HXE.out];exact gx.step N2.out.size (fun k hk _ => N2.out.block k hk)))
        have G3 := Aside0.mk (only_putN (i := kk) (u := ex.1) G1.out)
        rw [show kp + 1 + kq + 1 = kp + 1 + (kq + 1) from rfl,HXE.out] at R3
        unfold putN at R3 G3
        obtain ⟨q0,zz,_,_⟩ := R2.out.cell (i := kk) (by have := HL.out;have := CX.out.len;omega)
        have kz : (kk : Int) < (n : Int) := by omega
        have kz0 : (0 : Int) ≤ (kk : Int) := by omega
        clear x0 gx y0 gy H HG BL N2 FZ R2 G1
        go_wp2
        go_roundw
        case rel => exact ⟨kk + 1,kq + 1,Lk.set kk (atL L (kp + 1 + kq + 1)),by go_num,by go_num,by omega,by omega,⟨CX.out.keep (by have := HL.out;omega) KN.out⟩,⟨by rw [show kp + 1 + kq + 1 = kp + 1 + (kq + 1) from rfl,HXE.out];exact R3.out⟩,G3⟩
        case measure => simp [intOf];omega
      ·have b0 : decide ((kq : Int) + 1 < (d : Int)) = false := decide_eq_false (by omega)
       have kz : (kk : Int) ≤ (n : Int) := by omega
       have kz0 : (0 : Int) ≤ (kk : Int) := by omega
       have hdn := CX.out.done (by have := HL.out;omega)
       have hkl : kk < n := by omega
       obtain ⟨vs,hcl⟩ := clear_els H.out kk (n - kk) (cap - kk) 0 (by have := HL.out;have := CX.out.len;omega) (by omega)
       have R3 := Aside0.mk (H.out.clear kk (by have := HL.out;have := CX.out.len;omega) vs (kk) (Nat.le_refl _))
       have G3 := Aside0.mk (only_setCells vs (kk) HG.out)
       rw [hdn.1,HC.out] at R3
       have hkC := Aside0.mk (show C.length = kk by rw [← HC.out];exact hdn.2)
       clear hdn H HG
       go_wp2
       go_ret
       exact ⟨by rw [hkC.out];rfl,R3.out,G3.out⟩
    ·have c0 : decide (cf ex.1 ey.1 = 0) = false := decide_eq_false hc
     have KN := Aside0.mk (show keepJ cf L (kp + 1) = true by unfold keepJ;rw [Nat.add_sub_cancel,HXE.out,HYE.out];simp [hc])
     clear hc HXE HYE
     go_wp2_with (fail)
     go_region_held3 (fun w' => w'.cell? ⟨blk,kp + 1,none⟩ = some (.slice ex.1.A ex.1.row.length ex.1.c) ∧ w'.cell? ⟨blk,kp,none⟩ = some (.slice ey.1.A ey.1.row.length ey.1.c)) (first | go_keep | exact ⟨by assumption,by assumption⟩) (first | (go_at_call 21;refine (hS.calls ex.1 ey.1 _ blk ?_ ?_).mono ?_;exact gx;exact gy;rintro e w2 ⟨rfl,hb2⟩;have N2 := Aside0.mk (sameW_next (w1 := wr) hb2);clear hb2;have u0 := (N2.out.cell (p := ⟨blk,kp + 1,none⟩) BL.out).trans x0;have v0 := (N2.out.cell (p := ⟨blk,kp,none⟩) BL.out).trans y0))
     have R2 := Aside0.mk (H.out.below N2.out)
     have G1 := Aside0.mk (only_belowT HG.out N2.out)
     clear x0 gx y0 gy u0 v0 H HG BL N2
     go_wp2
     go_roundw
     case rel => exact ⟨kp + 1 + 1,by go_num,by omega,by omega,⟨fun j hj => by
      by_cases e : j = kp + 1
      ·subst e;exact KN.out
      ·exact KP.out j (by omega)⟩,R2,G1⟩
     case measure => simp [intOf];omega
   ·have b0 : decide ((k : Int) < (n : Int)) = false := decide_eq_false (by omega)
    have hCC : C = L := by
     have e1 := HC.out
     have e2 := HL.out
     rw [← e1]
     unfold compL
     rw [compU_all L.length (Nat.le_refl _) (fun j hj => KP.out j (by omega)),List.take_length]
    have HC2 := Aside0.mk hCC
    clear hCC
    go_wp2
    go_ret
    exact ⟨by rw [HC2.out,HL.out];rfl,by rw [HC2.out];exact H.out,HG.out⟩
end Go.Proofs.Ytfoaeigoajooeaa.Z
end
section
namespace Go.Proofs.Ytfoaeigoajooeaa.Z
set_option linter.unusedVariables false
set_option linter.unusedSimpArgs false
section
variable {α β : Type}
def insE (cf : α → α → Int) (x : α) : List α → List α
 | [] => [x]
 | y :: r => if cf y x < 0 then y :: insE cf x r else if cf y x = 0 then y :: r else x :: y :: r
def drp (cf : α → α → Int) (p : α) : List α → List α
 | [] => []
 | y :: r => if cf y p = 0 then drp cf y r else y :: drp cf y r
def uniq (cf : α → α → Int) : List α → List α
 | [] => []
 | y :: r => y :: drp cf y r
def insF (cf : α → α → Int) (x : α) : List α → List α
 | [] => [x]
 | y :: r => if cf x y < 0 then x :: y :: r else y :: insF cf x r
structure Law3 (cf : α → α → Int) : Prop where
 anti : ∀ x y,cf y x = -cf x y
 trans : ∀ x y z,cf x y ≤ 0 → cf y z ≤ 0 → cf x z ≤ 0
def Up (cf : α → α → Int) (l : List α) : Prop := l.Pairwise (fun a b => cf a b ≤ 0)
theorem drp_eq {cf : α → α → Int} (o : Law3 cf) : ∀ (r : List α) (p x : α),Up cf (p :: r) → cf p x = 0 → drp cf p (insF cf x r) = drp cf p r
 | [],p,x,_,h => by
  have := o.anti p x
  simp only [insF,drp]
  rw [if_pos (by omega)]
 | y :: r,p,x,hu,h => by
  have a1 := o.anti p x
  have a2 := o.anti x y
  have a3 := o.anti p y
  have a4 := o.anti y x
  have t1 := o.trans x y p
  have t2 := o.trans p x y
  have t3 := o.trans p y x
  have t4 := o.trans x p y
  have t5 := o.trans y p x
  have t6 := o.trans y x p
  have hpy : cf p y ≤ 0 := (List.pairwise_cons.1 hu).1 y List.mem_cons_self
  simp only [insF]
  by_cases c : cf x y < 0
  ·rw [if_pos c]
   simp only [drp]
   rw [if_pos (by omega),if_neg (by omega),if_neg (by omega)]
  ·rw [if_neg c]
   simp only [drp]
   have hyp : cf y p = 0 := by omega
   rw [if_pos hyp,if_pos hyp]
   exact drp_eq o r y x (List.pairwise_cons.1 hu).2 (by omega)
theorem drp_lt {cf : α → α → Int} (o : Law3 cf) : ∀ (r : List α) (p x : α),Up cf (p :: r) → cf p x < 0 → drp cf p (insF cf x r) = insE cf x (drp cf p r)
 | [],p,x,_,h => by
  have := o.anti p x
  simp only [insF,drp,insE]
  rw [if_neg (by omega)]
 | y :: r,p,x,hu,h => by
  have a1 := o.anti p x
  have a2 := o.anti x y
  have a3 := o.anti p y
  have t1 := o.trans x y p
  have t2 := o.trans p x y
  have t3 := o.trans p y x
  have t4 := o.trans x p y
  have t5 := o.trans y p x
  have t6 := o.trans y x p
  have hpy : cf p y ≤ 0 := (List.pairwise_cons.1 hu).1 y List.mem_cons_self
  have hu2 := (List.pairwise_cons.1 hu).2
  simp only [insF]
  by_cases c : cf x y < 0
  ·rw [if_pos c]
   simp only [drp]
   rw [if_neg (by omega),if_neg (by omega),if_neg (by omega)]
   simp only [insE]
   rw [if_neg (by omega),if_neg (by omega)]
  ·rw [if_neg c]
   simp only [drp]
   by_cases hyp : cf y p = 0
   ·rw [if_pos hyp,if_pos hyp]
    exact drp_lt o r y x hu2 (by omega)
   ·rw [if_neg hyp,if_neg hyp]
    simp only [insE]
    by_cases hyx : cf y x < 0
    ·rw [if_pos hyx,drp_lt o r y x hu2 hyx]
    ·rw [if_neg hyx,if_pos (by omega),drp_eq o r y x hu2 (by omega)]
theorem uniq_ins {cf : α → α → Int} (o : Law3 cf) (x : α) : ∀ (l : List α),Up cf l → uniq cf (insF cf x l) = insE cf x (uniq cf l)
 | [],_ => by
  simp only [insF,uniq,insE,drp]
 | p :: r,hu => by
  have a1 := o.anti p x
  simp only [insF]
  by_cases c : cf x p < 0
  ·rw [if_pos c]
   simp only [uniq,drp,insE]
   rw [if_neg (by omega),if_neg (by omega),if_neg (by omega)]
  ·rw [if_neg c]
   simp only [uniq,insE]
   by_cases h : cf p x < 0
   ·rw [if_pos h,drp_lt o r p x hu h]
   ·rw [if_neg h,if_pos (by omega),drp_eq o r p x hu (by omega)]
def allE (cf : α → α → Int) (l : List α) : List α := l.foldl (fun out x => insE cf x out) []
theorem allE_snoc (cf : α → α → Int) (l : List α) (x : α) : allE cf (l ++ [x]) = insE cf x (allE cf l) := by
 unfold allE
 rw [List.foldl_append]
 rfl
theorem insE_map {cf : α → α → Int} {cg : β → β → Int} {f : α → β} (h : ∀ a b,cf a b = cg (f a) (f b)) (x : α) : ∀ l : List α,(insE cf x l).map f = insE cg (f x) (l.map f)
 | [] => rfl
 | y :: r => by
  simp only [insE,List.map_cons]
  rw [← h y x]
  split
  ·rw [List.map_cons,insE_map h x r]
  ·split <;> rfl
theorem allE_map {cf : α → α → Int} {cg : β → β → Int} {f : α → β} (h : ∀ a b,cf a b = cg (f a) (f b)) (l : List α) : (allE cf l).map f = allE cg (l.map f) := by
 unfold allE
 have : ∀ (l : List α) (out : List α),(l.foldl (fun out x => insE cf x out) out).map f = (l.map f).foldl (fun out x => insE cg x out) (out.map f) := by
  intro l
  induction l with
  | nil => intro out;rfl
  | cons y r ih =>
   intro out
   simp only [List.foldl_cons,List.map_cons]
   rw [ih,insE_map h]
 exact this l []
theorem insE_len (cf : α → α → Int) (x : α) : ∀ l : List α,(insE cf x l).length ≤ l.length + 1
 | [] => by simp [insE]
 | y :: r => by
  have := insE_len cf x r
  simp only [insE]
  split
  ·simp only [List.length_cons];omega
  ·split <;> simp only [List.length_cons] <;> omega
theorem allE_len (cf : α → α → Int) (l : List α) : (allE cf l).length ≤ l.length := by
 have : ∀ n (l : List α),l.length = n → (allE cf l).length ≤ n := by
  intro n
  induction n with
  | zero =>
   intro l hl
   rw [List.length_eq_zero_iff.1 hl]
   exact Nat.le_refl _
  | succ n ih =>
   intro l hl
   rcases List.eq_nil_or_concat l with rfl | ⟨r,x,rfl⟩
   ·simp at hl
   ·rw [List.concat_eq_append] at hl ⊢
    rw [allE_snoc]
    have h2 := ih r (by simpa using hl)
    have := insE_len cf x (allE cf r)
    omega
 exact this _ l rfl
theorem mem_insE (cf : α → α → Int) (x z : α) : ∀ l : List α,z ∈ insE cf x l → z = x ∨ z ∈ l
 | [],h => by simp [insE] at h;exact .inl h
 | y :: r,h => by
  simp only [insE] at h
  split at h
  ·rcases List.mem_cons.1 h with e | h
   ·exact .inr (e ▸ List.mem_cons_self)
   ·exact (mem_insE cf x z r h).imp id (List.mem_cons_of_mem _)
  ·split at h
   ·exact .inr h
   ·rcases List.mem_cons.1 h with e | h
    ·exact .inl e
    ·exact .inr h
theorem mem_allE (cf : α → α → Int) (z : α) : ∀ (l : List α),z ∈ allE cf l → z ∈ l := by
 have : ∀ n (l : List α),l.length = n → z ∈ allE cf l → z ∈ l := by
  intro n
  induction n with
  | zero =>
   intro l hl h
   rw [List.length_eq_zero_iff.1 hl] at h
   cases h
  | succ n ih =>
   intro l hl h
   rcases List.eq_nil_or_concat l with rfl | ⟨r,x,rfl⟩
   ·simp at hl
   ·rw [List.concat_eq_append] at hl h ⊢
    rw [allE_snoc] at h
    rcases mem_insE cf x z _ h with e | h
    ·rw [e];simp
    ·exact List.mem_append_left _ (ih r (by simpa using hl) h)
 exact fun l => this _ l rfl
end
def insT (cf : Fe → Fe → Int) (e : El) : List El → List El
 | [] => [e]
 | y :: r => if cf e.1 y.1 < 0 then e :: y :: r else y :: insT cf e r
theorem insT_perm (cf : Fe → Fe → Int) (e : El) : ∀ l,(insT cf e l).Perm (e :: l)
 | [] => List.Perm.refl _
 | y :: r => by
  simp only [insT]
  split
  ·exact List.Perm.refl _
  ·exact ((insT_perm cf e r).cons y).trans (List.Perm.swap e y r)
theorem insT_map (cf : Fe → Fe → Int) (e : El) : ∀ l,(insT cf e l).map Prod.fst = insF cf e.1 (l.map Prod.fst)
 | [] => rfl
 | y :: r => by
  simp only [insT,insF,List.map_cons]
  split
  ·rfl
  ·rw [List.map_cons,insT_map cf e r]
theorem insT_sorted {cf : Fe → Fe → Int} (o : Ord3 cf) (e : El) : ∀ l,Sorted cf l → (∀ y ∈ l,y.2 < e.2) → Sorted cf (insT cf e l)
 | [],_,_ => List.pairwise_singleton _ _
 | y :: r,hs,ht => by
  obtain ⟨h1,h2⟩ := List.pairwise_cons.1 hs
  have hy := ht y List.mem_cons_self
  have a1 := o.anti e.1 y.1
  simp only [insT]
  by_cases c : cf e.1 y.1 < 0
  ·rw [if_pos c]
   exact List.pairwise_cons.2 ⟨fun z hz => by
    rcases List.mem_cons.1 hz with q | hz
    ·rw [q];exact .inl c
    ·exact Lx.trans o (.inl c) (h1 z hz),hs⟩
  ·rw [if_neg c]
   refine List.pairwise_cons.2 ⟨fun z hz => ?_,insT_sorted o e r h2 (fun z hz => ht z (List.mem_cons_of_mem _ hz))⟩
   rcases List.mem_cons.1 ((insT_perm cf e r).subset hz) with q | hz
   ·rw [q]
    unfold Lx
    omega
   ·exact h1 z hz
theorem Ord3.law {cf : Fe → Fe → Int} (o : Ord3 cf) : Law3 cf := ⟨o.anti,o.trans⟩
theorem Sorted.up {cf : Fe → Fe → Int} {C : List El} (h : Sorted cf C) : Up cf (C.map Prod.fst) := by
 unfold Up
 rw [List.pairwise_map]
 refine List.Pairwise.imp (fun {a b} hab => ?_) h
 unfold Lx at hab
 omega
theorem zip_snoc (l : List Fe) (x : Fe) : (l ++ [x]).zipIdx = l.zipIdx ++ [(x,l.length)] := by
 rw [List.zipIdx_append]
 simp
theorem sort_uniq {cf : Fe → Fe → Int} (o : Ord3 cf) : ∀ (n : Nat) (l : List Fe),l.length = n → ∃ C,C.Perm l.zipIdx ∧ Sorted cf C ∧ uniq cf (C.map Prod.fst) = allE cf l := by
 intro n
 induction n with
 | zero =>
  intro l hl
  rw [List.length_eq_zero_iff.1 hl]
  exact ⟨[],List.Perm.refl _,List.Pairwise.nil,rfl⟩
 | succ n ih =>
  intro l hl
  rcases List.eq_nil_or_concat l with rfl | ⟨r,x,rfl⟩
  ·simp at hl
  ·rw [List.concat_eq_append] at hl ⊢
   obtain ⟨C,hp,hs,hu⟩ := ih r (by simpa using hl)
   refine ⟨insT cf (x,r.length) C,?_,?_,?_⟩
   ·rw [zip_snoc]
    exact (insT_perm cf _ C).trans ((hp.cons _).trans (List.perm_append_comm (l₁ := [(x,r.length)])))
   ·refine insT_sorted o _ C hs (fun y hy => ?_)
    have := hp.subset hy
    have := List.mem_zipIdx this
    simp at this ⊢
    omega
   ·rw [insT_map,uniq_ins o.law _ _ hs.up,hu,allE_snoc]
theorem drp_snoc {α : Type} (cf : α → α → Int) (z d : α) : ∀ (r : List α) (p : α),drp cf p (r ++ [z]) = drp cf p r ++ (if cf z ((p :: r).getD r.length d) = 0 then [] else [z])
 | [],p => by simp only [List.nil_append,drp,List.length_nil,List.getD_cons_zero]
 | y :: r,p => by
  have h := drp_snoc cf z d r y
  simp only [List.cons_append,drp,List.length_cons,List.getD_cons_succ]
  split
  ·exact h
  ·rw [h];rfl
theorem uniq_take (cf : Fe → Fe → Int) (L : List El) : ∀ m,m ≤ L.length → (compU cf L m).map Prod.fst = uniq cf ((L.take m).map Prod.fst) := by
 intro m
 induction m with
 | zero => intro _;rfl
 | succ m ih =>
  intro hm
  rw [compU_succ,take_atL L m (by omega),List.map_append,List.map_append,ih (by omega)]
  cases m with
  | zero => simp [keepJ,uniq,drp]
  | succ m =>
   have hne : L.take (m + 1) ≠ [] := by
    intro e
    have := congrArg List.length e
    rw [List.length_take,List.length_nil] at this
    omega
   obtain ⟨y,r,hyr⟩ : ∃ y r,(L.take (m + 1)).map Prod.fst = y :: r := by
    cases h : (L.take (m + 1)).map Prod.fst with
    | nil => rw [List.map_eq_nil_iff] at h;exact absurd h hne
    | cons y r => exact ⟨y,r,rfl⟩
   have hlen : r.length = m := by
    have := congrArg List.length hyr
    rw [List.length_map,List.length_take,List.length_cons] at this
    omega
   have hlast : (y :: r).getD r.length zEl.1 = (atL L m).1 := by
    rw [← hyr,hlen,List.getD_eq_getElem?_getD,List.getElem?_map,List.getElem?_take_of_lt (by omega)]
    unfold atL
    rw [List.getD_eq_getElem?_getD,List.getElem?_eq_getElem (by omega)]
    rfl
   rw [hyr]
   simp only [List.map_cons,List.map_nil,uniq,List.cons_append]
   rw [drp_snoc cf (atL L (m + 1)).1 zEl.1 r y,hlast]
   congr 1
   congr 1
   unfold keepJ
   by_cases e : cf (atL L (m + 1)).1 (atL L m).1 = 0
   ·simp [e]
   ·simp [e]
theorem comp_all {cf : Fe → Fe → Int} (o : Ord3 cf) {l : List Fe} {C : List El} (hp : C.Perm l.zipIdx) (hs : Sorted cf C) : (compL cf C).map Prod.fst = allE cf l := by
 obtain ⟨C',hp',hs',hu⟩ := sort_uniq o l.length l rfl
 obtain rfl := perm_eq o C C' (hp.trans hp'.symm) hs hs'
 unfold compL
 rw [uniq_take cf C C.length (Nat.le_refl _),List.take_length,hu]
end Go.Proofs.Ytfoaeigoajooeaa.Z
end
section
namespace Go.Proofs.Ytfoaeigoajooeaa.Z
open Go.RowKit Go.Proofs.YtfoaeigoajooeaaW.PrintWords Go.Proofs.YtfoaeigoajooeaaW.PrintLast Go.Proofs.YtfoaeigoajooeaaW.PrintMore
attribute [local go_sem] max2_int min2_int max_two min_two max_three min_three max_four min_four
set_option linter.unusedVariables false
set_option linter.unusedSimpArgs false
def row_Same.f (k : Nat) (l0 : List (S50)) (l1 : List (S50)) : Option (Bool) := (row_Compare.f k l0 l1).bind fun t140 => (some (t140 == 0))
theorem row_Same.mono : ∀ a0 a1 k,LeO (row_Same.f k a0 a1) (row_Same.f (k + 1) a0 a1) := by
 intro a0 a1 k
 unfold row_Same.f
 repeat' first
   | (with_reducible exact row_Compare.mono _ _ _)
   | (with_reducible exact LeO.refl _)
   | (with_reducible exact LeO.none _)
   | (with_reducible refine LeO.ite ?_ ?_)
   | (with_reducible refine LeO.bind ?_ (fun _ => ?_))
   | exact row_Compare.mono _ _ _
   | exact LeO.none _
   | refine LeO.ite ?_ ?_
   | refine LeO.bind ?_ (fun _ => ?_)
set_option maxHeartbeats 8000000 in
set_option maxRecDepth 100000 in
theorem row_Same.calls (k : Nat) (A0 : Option Addr) (c0 : Nat) (l0 : List (S50)) (A1 : Option Addr) (c1 : Nat) (l1 : List (S50)) (r : Bool) (w : World) (hr0 : Kd.C k50 w A0 l0.length l0) (hc0 : l0.length ≤ c0) (hr1 : Kd.C k50 w A1 l1.length l1) (hc1 : l1.length ≤ c1) (h : row_Same.f k l0 l1 = some r) :
  Calls Try.prog 21 #[.slice A0 l0.length c0,.slice A1 l1.length c1] w fun e w' => e = .returned (.bool r) ∧ Below w.heap.size w w' := by
 have HR0 := Aside0.mk hr0
 have HC0 := Aside0.mk hc0
 clear hr0 hc0
 have HR1 := Aside0.mk hr1
 have HC1 := Aside0.mk hc1
 clear hr1 hc1
 have HB := Aside0.mk (Below.refl w.heap.size w)
 have H : ((row_Compare.f k l0 l1).bind fun t140 => (some (t140 == 0))) = some r := h
 clear h
 replace H := Option.bind_eq_some_iff.mp H
 obtain ⟨t140,A30,H⟩ := H
 replace H : (some (t140 == 0)) = some r := H
 have A3 := Aside0.mk A30
 clear A30
 obtain rfl := Option.some.inj H
 go_enter Try.func21,Try.ntmps21
 go_wp2_with (first | ((with_reducible refine q0t (f := 13) rfl ?_);refine goesL_ (some 7) rfl rfl Try.func13 (by kernel_rfl) rfl #[.slice A0 l0.length c0,.slice A1 l1.length c1] rfl (by (try simp only [List.map_toArray,List.map_cons,List.map_nil]);first | done | rfl | (simp only [List.length_drop,List.length_take];rfl)) ?_;(with_reducible refine (row_Compare.calls k _ _ l0 _ _ l1 t140 _ ?side1 ?side2 ?side3 ?side4 A3.out).mono ?_);(case side1 => repeat (first | exact HR0.out | (with_reducible refine Kd.C_alloc ?_ _) | (with_reducible refine Kd.C_drewN ?_ _) | (with_reducible refine Kd.C_drew ?_)));(case side2 => exact HC0.out);(case side3 => repeat (first | exact HR1.out | (with_reducible refine Kd.C_alloc ?_ _) | (with_reducible refine Kd.C_drewN ?_ _) | (with_reducible refine Kd.C_drew ?_)));(case side4 => exact HC1.out);rintro e w4 ⟨rfl,hb⟩;refine ⟨_,rfl,?_⟩;have n0_ := Aside0.mk (q0l (by repeat (first | (with_reducible first | exact HB.out | apply q0b | apply q0a | apply q0c) | exact HB.out)) hb);clear HB;have HB := n0_;clear n0_;(try clear hb);(try clear hb2);(try clear hk);(try clear hi)))
 go_ret
 exact ⟨by first | rfl | (simp [q0n,q0o] <;> rfl) | (simp [*,q0n,q0o] <;> rfl),by repeat (first | (with_reducible first | exact HB.out | apply q0b | apply q0a | apply q0c) | exact HB.out)⟩
end Go.Proofs.Ytfoaeigoajooeaa.Z
end
section
namespace Go.Proofs.Ytfoaeigoajooeaa.Z
set_option linter.unusedVariables false
set_option linter.unusedSimpArgs false
set_option linter.unnecessarySimpa false
open Go.RowKit Go.Proofs.YtfoaeigoajooeaaW.PrintWords Go.Proofs.YtfoaeigoajooeaaW.PrintLast Go.Proofs.YtfoaeigoajooeaaW.PrintMore Go.Proofs.Ytfoaeigoajooeaa.Cmp
abbrev Vl := List S50
abbrev kEl : Kd Vl := Kd.slice 50 k50
theorem kEl_heap : Kd.Heap kEl := Kd.heap_slice _ heapV
def vl (e : Fe) : Vl := e.row
def encF (e : Fe) : List Value := [.slice e.A e.row.length e.c]
theorem el_open {w : World} {x : Vl} {cs : List Value} (h : kEl.K w x cs) : ∃ e : Fe,vl e = x ∧ cs = encF e ∧ RowC w e.A e.c e.row := by
 obtain ⟨A,c,rfl,hc,hr⟩ := h
 exact ⟨⟨A,c,x⟩,rfl,rfl,⟨hc,hr⟩⟩
theorem el_mk {w : World} (e : Fe) (h : RowC w e.A e.c e.row) : kEl.K w (vl e) (encF e) := by
 exact ⟨e.A,e.c,rfl,h.cap,h.row⟩
theorem encF_inj {e e' : Fe} (h : encF e = encF e') (hv : vl e = vl e') : e = e' := by
 obtain ⟨A,c,row⟩ := e
 obtain ⟨A',c',row'⟩ := e'
 simp only [encF,vl,List.cons.injEq,Value.slice.injEq,Value.string.injEq,and_true] at h hv
 obtain ⟨rfl,_,rfl⟩ := h
 subst hv
 rfl
theorem pick_list {α : Type} {p : Nat → α → Prop} : ∀ n,(∀ j,j < n → ∃ e,p j e) → ∃ es : List α,es.length = n ∧ ∀ j e,es[j]? = some e → p j e
 | 0,_ => ⟨[],rfl,fun j e h => by simp at h⟩
 | n + 1,h => by
  obtain ⟨es,h1,h2⟩ := pick_list n (fun j hj => h j (by omega))
  obtain ⟨e,he⟩ := h n (by omega)
  refine ⟨es ++ [e],by simp [h1],fun j x hx => ?_⟩
  rcases Nat.lt_trichotomy j n with q | q | q
  ·rw [List.getElem?_append_left (by omega)] at hx
   exact h2 j x hx
  ·subst q
   rw [List.getElem?_append_right (by omega),h1] at hx
   simp at hx
   subst hx
   exact he
  ·rw [List.getElem?_eq_none (by simp;omega)] at hx
   cases hx
theorem atL_zip (l : List Fe) (i : Nat) (u : Fe) (h : l[i]? = some u) : atL l.zipIdx i = (u,i) := by
 unfold atL
 rw [List.getD_eq_getElem?_getD,List.getElem?_zipIdx,h]
 simp
theorem tags_zip (l : List Fe) : Tags l.zipIdx := by
 unfold Tags
 rw [List.pairwise_iff_getElem]
 intro i j hi hj hij
 simp
 exact hij
theorem N_row {w : World} {base : Nat} {ok : Nat → Prop} {v : Value} {xs : List Vl} (h : Kd.N kEl 22 w base ok v xs) : (v = .slice none 0 0 ∧ xs = []) ∨ ∃ g cap,∃ es : List Fe,v = .slice (some ⟨g,0,none⟩) xs.length cap ∧ base ≤ g ∧ xs.length ≤ cap ∧ es.map vl = xs ∧ RowAt w g es.zipIdx := by
 obtain ⟨h0,rows,hl,hR,hf⟩ := h
 obtain ⟨_,inner,⟨h1,h2⟩,h3,h4⟩ := hR
 rcases h2 with ⟨e1,e2⟩ | ⟨g,cap,cur,e1,e2,e3,e4,e5,e6,e7⟩
 ·exact Or.inl ⟨e1,List.length_eq_zero_iff.1 (by rw [← hl];exact e2)⟩
 ·have hown : v.ownBlock = some g := by rw [e1];rfl
  have key : ∀ j,j < xs.length → ∃ e : Fe,xs[j]? = some (vl e) ∧ (∀ k,k < 1 → cur[j * 1 + k]? = (encF e)[k]?) ∧ Gd w g e := by
   intro j hj
   have hx := List.getElem?_eq_getElem hj
   have hc := List.getElem?_eq_getElem (show j < rows.length by omega)
   have hfk := hf j _ _ hx hc
   obtain ⟨e,hv,hcs,hrow⟩ := el_open (Foot.now hfk)
   have hm := (h4 j _ hc).1
   refine ⟨e,by rw [hx,hv],fun k hk => ?_,fun W' hW => ?_⟩
   ·have e8 : cur[j * 1 + k]? = ((inner.drop (j * 1)).take 1)[k]? := by
     have e9 : List.take (rows.length * 1) cur.toList = inner := e7
     rw [List.getElem?_take_of_lt hk,List.getElem?_drop,← e9,List.getElem?_take_of_lt (show j * 1 + k < rows.length * 1 from by omega)]
     simp
    rw [e8]
    have hm' : (inner.drop (j * 1)).take 1 = rows[j] := hm
    rw [hm',hcs]
   ·have h5 := hfk W' (fun k hk hlt => hW k hlt (fun q => hk.2 (by rw [q,hown])))
    obtain ⟨e',hv',hcs',hrow'⟩ := el_open h5
    rw [encF_inj (hcs.symm.trans hcs') (hv.trans hv'.symm)]
    exact hrow'
  obtain ⟨es,g1,g2⟩ := pick_list xs.length key
  have hlen : es.zipIdx.length = xs.length := by rw [List.length_zipIdx,g1]
  refine Or.inr ⟨g,cap,es,by rw [e1,hl],e2,by rw [← hl];exact e4,?_,⟨⟨cur,e3,fun i hi => ?_⟩,fun i hi => ?_⟩⟩
  ·apply List.ext_getElem?
   intro j
   rw [List.getElem?_map]
   by_cases hj : j < es.length
   ·have he := List.getElem?_eq_getElem hj
    rw [he,(g2 j _ he).1]
    rfl
   ·rw [List.getElem?_eq_none (by omega),List.getElem?_eq_none (by omega)]
    rfl
  ·rw [hlen] at hi
   have he := List.getElem?_eq_getElem (show i < es.length by omega)
   rw [atL_zip es i _ he]
   have h6 := (g2 i _ he).2.1
   have h7 := h6 0 (by decide)
   rw [Nat.mul_one,Nat.add_zero] at h7
   exact h7
  ·rw [hlen] at hi
   have he := List.getElem?_eq_getElem (show i < es.length by omega)
   rw [atL_zip es i _ he]
   exact (g2 i _ he).2.2
theorem RowAt.reads {w : World} {g : Nat} {L : List El} (h : RowAt w g L) (hn : L.length ≤ 1000000) : Kd.C kEl w (some ⟨g,0,none⟩) L.length (L.map (fun e => vl e.1)) := by
 obtain ⟨cells,hb,hc⟩ := h.out
 refine ⟨by simp,by omega,fun _ => ⟨_,rfl,?_⟩⟩
 intro j p hp
 have hj : j < L.length := by
  have := (List.getElem?_eq_some_iff.1 hp).1
  simpa using this
 have ep : vl (atL L j).1 = p := by
  rw [List.getElem?_map,List.getElem?_eq_getElem hj] at hp
  unfold atL
  rw [List.getD_eq_getElem?_getD,List.getElem?_eq_getElem hj]
  simpa using hp
 subst ep
 have hcj := hc j hj
 refine ⟨_,rfl,el_mk (atL L j).1 (h.good j hj).now,?_⟩
 intro i u hu
 have e : (Addr.add ⟨g,0,none⟩ (j * kEl.sz + i)) = ⟨g,j * 1 + i,none⟩ := by
  rw [Addr.add_lit,Nat.zero_add]
  rfl
 rw [e]
 rw [Nat.mul_one]
 match i,hu with
 | 0,hu => cases hu;exact (q0e hb _).trans hcj
theorem below_of_grown {w w1 w2 : World} {g : Nat} (h : Below w.heap.size w w1) (hg : w1.grownBy w2 (some g)) (hge : w.heap.size ≤ g) : Below w.heap.size w w2 :=
 ⟨hg.os.trans h.os,hg.tape.trans h.tape,hg.output.trans h.output,Nat.le_trans h.size hg.size,fun k hk => by
  have ne : some k ≠ some g := by
   intro e
   have : k = g := by simpa using e
   omega
  exact (hg.block k (Nat.lt_of_lt_of_le hk h.size) ne).trans (h.block k hk)⟩
theorem eq_nil1 (a : Addr) (n c : Nat) (w : World) : (binOp .eql 42 (.slice (some a) n c) (.slice none 0 0)).run Try.prog w = .ok (.bool false) w := by
 first | kernel_rfl | rfl | simp [binOp]
theorem R_made0 (w : World) : Kd.R kEl 22 (w.alloc (.cells #[] 22)) w.heap.size (fun _ => True) (.slice (some ⟨w.heap.size,0,none⟩) 0 0) [] := by
 refine ⟨fun _ _ => trivial,[],?_,?_⟩
 ·have h2 := World.ownsRow_lit (base := w.heap.size) (e := 22) (size := 1) w #[] 0 (Nat.le_refl _) (by decide) rfl
  have h3 : World.ownsRow (w.alloc (Obj.cells #[] 22)) w.heap.size 22 1 (Value.slice (some ⟨w.heap.size,0,none⟩) 0 0) 0 [] := by simpa using h2
  exact h3
 ·exact ⟨rfl,by simp⟩
set_option maxHeartbeats 4000000 in
set_option maxRecDepth 100000 in
theorem clone_nil (c : Nat) (w : World) : Calls Try.prog 55 #[.slice none 0 c] w fun e w' => e = .returned (.slice none 0 0) ∧ Below w.heap.size w w' := by
 have HB := Aside0.mk (Below.refl w.heap.size w)
 have hq : (binOp .eql 42 (.slice none 0 c) (.slice none 0 0)).run Try.prog w = .ok (.bool true) w := Lib.run_eql_slice_nil w 42 22 none 0 c 0 0 (by kernel_rfl)
 go_enter Try.func55,Try.ntmps55
 go_wp2
 go_ret
 exact ⟨rfl,HB.out⟩
theorem C_F0 {w W : World} {A : Option Addr} {n : Nat} {l : List Vl} (h : Kd.C kEl w A n l) (hb : Below w.heap.size w W) : Kd.F kEl W (fun k => k < w.heap.size) A n l := fun W' hW =>
 kEl_heap.C (fun k hk => (hW k hk (Nat.lt_of_lt_of_le hk hb.size)).trans (hb.block k hk)) h
theorem own_lit (g n c : Nat) : (Value.slice (some ⟨g,0,none⟩) n c).ownBlock = some g := rfl
set_option maxHeartbeats 4000000 in
set_option maxRecDepth 100000 in
theorem clone_some (a : Addr) (n c : Nat) (l : List Vl) (w : World) (hr : Kd.C kEl w (some a) n l) (hn : n ≤ 1000000) : Calls Try.prog 55 #[.slice (some a) n c] w fun e w' => ∃ v,e = .returned v ∧ Kd.N kEl 22 w' w.heap.size (fun _ => True) v l ∧ Below w.heap.size w w' := by
 have hq := eq_nil1 a n c w
 have HR := Aside0.mk hr
 have HO := Aside0.mk (Kd.R_N (R_made0 w))
 have HB := Aside0.mk (Below.refl w.heap.size w)
 clear hr
 go_enter Try.func55,Try.ntmps55
 go_wp2_with (first | ((with_reducible refine gate_builtin (b := .append) (xs := #[.tmp 5,.tmp 6]) rfl ?_);at_builtin;refine Kd.N_append_rows kEl (w0 := w) w.heap.size rfl (.tmp 5) (.tmp 6) 42 22 (.slice none 0 0) 24 rfl (by kernel_rfl) (by kernel_rfl) rfl (show 0 < 1 by decide) (by omega) (.slice (some ⟨w.heap.size,0,none⟩) 0 0) [] l (some a) n c (fun _ => True) (fun k => k < w.heap.size) rfl rfl HO.out (C_F0 HR.out (q0b HB.out _)) (fun k h => ⟨trivial,by rw [own_lit];simp;omega⟩) (fun _ _ => trivial) (q0b HB.out _) (by simp) (by simp;omega) ?_;intro v1 w1 hv hb hg hat;have R1 := Aside0.mk hv;have B1 := Aside0.mk hb;clear hv hb hg hat))
 go_ret
 exact ⟨_,rfl,R1.out,B1.out⟩
set_option maxHeartbeats 4000000 in
set_option maxRecDepth 100000 in
theorem insertionE (A : Option Addr) (cap : Nat) (w : World) :
  Calls Try.prog 73 #[.slice A 0 cap,.int .i64 0,.int .i64 0,.func (.func 13) #[] #[]] w fun e w' => e = .returned (.tuple #[]) ∧ Below w.heap.size w w' := by
 have HB := Aside0.mk (Below.refl w.heap.size w)
 go_enter Try.func73,Try.ntmps73
 go_wp2
 go_loopw [8] (fun iv wr => iv = .int .i64 1 ∧ Aside0 (Below w.heap.size w wr)) (fun iv _ => 0)
 case atStart => exact ⟨rfl,HB⟩
 case round =>
  clear HB
  obtain ⟨rfl,HB⟩ := hrel
  go_wp2
  go_end0
  exact ⟨rfl,HB.out⟩
set_option maxHeartbeats 4000000 in
set_option maxRecDepth 100000 in
theorem stableE (A : Option Addr) (cap : Nat) (w : World) :
  Calls Try.prog 69 #[.slice A 0 cap,.int .i64 0,.func (.func 13) #[] #[]] w fun e w' => e = .returned (.tuple #[]) ∧ Below w.heap.size w w' := by
 have HB := Aside0.mk (Below.refl w.heap.size w)
 go_enter Try.func69,Try.ntmps69
 go_wp2
 go_loopw [7,8] (fun iv jv wr => iv = .int .i64 0 ∧ jv = .int .i64 20 ∧ Aside0 (Below w.heap.size w wr)) (fun iv jv _ => 0)
 case atStart => exact ⟨rfl,rfl,HB⟩
 case round =>
  clear HB
  obtain ⟨rfl,rfl,HB⟩ := hrel
  go_wp2_with (fail)
  refine (insertionE A cap wr).mono ?_
  rintro e w1 ⟨rfl,hb⟩
  have HB1 := Aside0.mk (HB.out.trans (hb.mono HB.out.size))
  clear HB hb
  go_wp2_with (fail)
  go_loopw [6] (fun iv wr => iv = .int .i64 20 ∧ Aside0 (Below w.heap.size w wr)) (fun iv _ => 0)
  case atStart => exact ⟨rfl,HB1⟩
  case round =>
   clear HB1
   obtain ⟨rfl,HB⟩ := hrel
   go_wp2
   go_end0
   exact ⟨rfl,HB.out⟩
set_option maxHeartbeats 4000000 in
set_option maxRecDepth 100000 in
theorem sort_funcE (A : Option Addr) (cap : Nat) (w : World) :
  Calls Try.prog 56 #[.slice A 0 cap,.func (.func 13) #[] #[]] w fun e w' => e = .returned (.tuple #[]) ∧ Below w.heap.size w w' := by
 have H := Aside0.mk (stableE A cap w)
 go_enter Try.func56,Try.ntmps56
 go_wp2_with (fail)
 refine H.out.mono ?_
 rintro e w1 ⟨rfl,h1⟩
 have R1 := Aside0.mk h1
 clear h1
 go_wp2_with (fail)
 go_end0
 exact ⟨rfl,R1.out⟩
set_option maxHeartbeats 4000000 in
set_option maxRecDepth 100000 in
theorem compactE (A : Option Addr) (cap : Nat) (w : World) :
  Calls Try.prog 57 #[.slice A 0 cap,.func (.func 21) #[] #[]] w fun e w' => e = .returned (.slice A 0 cap) ∧ Below w.heap.size w w' := by
 have HB := Aside0.mk (Below.refl w.heap.size w)
 go_enter Try.func57,Try.ntmps57
 go_wp2
 go_ret
 exact ⟨rfl,HB.out⟩
def vcp : Vl → Vl → Int := rcmp
def cfV (a b : Fe) : Int := vcp (vl a) (vl b)
theorem cfV_ok : CmpOk 13 cfV := ⟨⟨fun x y => rcmp_law.anti _ _,fun x y z => rcmp_law.le _ _ _⟩,fun u v W blk hu hv => by
 have h1 := hu.now
 have h2 := hv.now
 exact row_Compare.calls (u.row.length + 1) u.A u.c u.row v.A v.c v.row _ W h1.row h1.cap h2.row h2.cap (rowCompare_f u.row v.row h1.max _ (Nat.lt_succ_self _))⟩
theorem cfV_same : SameOk 21 cfV := ⟨fun u v W blk hu hv => by
 have h1 := hu.now
 have h2 := hv.now
 refine row_Same.calls (u.row.length + 1) u.A u.c u.row v.A v.c v.row _ W h1.row h1.cap h2.row h2.cap ?_
 unfold row_Same.f
 rw [rowCompare_f u.row v.row h1.max _ (Nat.lt_succ_self _)]
 rfl⟩
set_option maxHeartbeats 4000000 in
set_option maxRecDepth 100000 in
theorem sort_rows (A : Option Addr) (n c : Nat) (l : List Vl) (w : World) (hr : Kd.C kEl w A n l) (hn : n ≤ 1000000) :
  Calls Try.prog 29 #[.slice A n c] w fun e w' => ∃ A' cap,e = .returned (.slice A' (allE vcp l).length cap) ∧ (allE vcp l).length ≤ cap ∧ Kd.C kEl w' A' (allE vcp l).length (allE vcp l) ∧ Below w.heap.size w w' := by
 have hl : l.length = n := hr.1
 cases A with
 | none =>
  have h0 : n = 0 := by
   rcases Nat.eq_zero_or_pos n with h | h
   ·exact h
   ·obtain ⟨ad,e,_⟩ := hr.2.2 h
    cases e
  subst h0
  have : l = [] := List.length_eq_zero_iff.1 hl
  subst this
  clear hr hl
  go_enter Try.func29,Try.ntmps29
  go_wp2_with (fail)
  refine (clone_nil c w).mono ?_
  rintro e w1 ⟨rfl,hb⟩
  have B1 := Aside0.mk hb
  clear hb
  go_wp2_with (fail)
  refine (sort_funcE none 0 w1).mono ?_
  rintro e w2 ⟨rfl,hb⟩
  have B2 := Aside0.mk (B1.out.trans (hb.mono B1.out.size))
  clear hb B1
  go_wp2_with (fail)
  refine (compactE none 0 w2).mono ?_
  rintro e w3 ⟨rfl,hb⟩
  have B3 := Aside0.mk (B2.out.trans (hb.mono B2.out.size))
  clear hb B2
  go_wp2_with (fail)
  go_ret
  exact ⟨none,0,rfl,Nat.le_refl _,⟨rfl,by show 0 ≤ _;omega,fun h => absurd h (Nat.lt_irrefl 0)⟩,B3.out⟩
 | some a =>
  have CL := Aside0.mk (clone_some a n c l w hr hn)
  obtain ⟨R,hR⟩ : ∃ R,allE vcp l = R := ⟨_,rfl⟩
  have HRR := Aside0.mk hR
  rw [hR]
  clear hr hR
  go_enter Try.func29,Try.ntmps29
  go_wp2_with (fail)
  refine CL.out.mono ?_
  rintro e w1 ⟨v,rfl,hv,hb⟩
  have B1 := Aside0.mk hb
  rcases N_row hv with ⟨rfl,rfl⟩ | ⟨g,cap,es,rfl,hg,hcap,hes,hrow⟩
  ·have h0 : n = 0 := hl.symm
   subst h0
   obtain rfl : [] = R := HRR.out
   clear hv hb hl CL
   go_wp2_with (fail)
   refine (sort_funcE none 0 w1).mono ?_
   rintro e w2 ⟨rfl,hb⟩
   have B2 := Aside0.mk (B1.out.trans (hb.mono B1.out.size))
   clear hb B1
   go_wp2_with (fail)
   refine (compactE none 0 w2).mono ?_
   rintro e w3 ⟨rfl,hb⟩
   have B3 := Aside0.mk (B2.out.trans (hb.mono B2.out.size))
   clear hb B2
   go_wp2_with (fail)
   go_ret
   exact ⟨none,0,rfl,Nat.le_refl _,⟨rfl,by show 0 ≤ _;omega,fun h => absurd h (Nat.lt_irrefl 0)⟩,B3.out⟩
  ·rw [hl] at hcap
   rw [hl]
   have HG := Aside0.mk hg
   have HC := Aside0.mk hcap
   have HL := Aside0.mk hl
   have HE := Aside0.mk hes
   have HR := Aside0.mk hrow
   have HEL := Aside0.mk (show es.zipIdx.length = n by rw [List.length_zipIdx,← hl,← hes,List.length_map])
   clear hv hb CL hg hcap hl hrow hes
   go_wp2_with (fail)
   refine (sort_func cfV cfV_ok g cap n es.zipIdx w1 HR.out HEL.out hn (tags_zip es)).mono ?_
   rintro e w2 ⟨rfl,⟨C,h1,h2,h3⟩,hgr⟩
   have B2 := Aside0.mk (below_of_grown B1.out hgr HG.out)
   have R2 := Aside0.mk h1
   have S2 := Aside0.mk (comp_all cfV_ok.ord h2 h3)
   have LC := Aside0.mk (show C.length = n by rw [h2.length_eq];exact HEL.out)
   clear h1 h2 h3 hgr B1 HR
   go_wp2_with (fail)
   refine (compact cfV cfV_same g cap n C w2 R2.out LC.out hn HC.out).mono ?_
   rintro e w3 ⟨rfl,h1,hgr⟩
   have B3 := Aside0.mk (below_of_grown B2.out hgr HG.out)
   have hmap : (compL cfV C).map (fun e => vl e.1) = R := by
    rw [← HRR.out,← HE.out,← allE_map (f := vl) (cf := cfV) (fun a b => rfl) es,← S2.out,List.map_map]
    rfl
   have hlen : (compL cfV C).length = R.length := by rw [← hmap,List.length_map]
   have hle : R.length ≤ n := by rw [← HRR.out,← HL.out];exact allE_len _ _
   rw [hlen]
   have R3 := Aside0.mk (show Kd.C kEl w3 (some ⟨g,0,none⟩) R.length R by
    have := h1.reads (by omega)
    rw [hmap,hlen] at this
    exact this)
   clear h1 hgr B2 R2 S2 hmap hlen
   go_wp2_with (fail)
   go_ret
   exact ⟨_,_,rfl,Nat.le_trans hle HC.out,R3.out,B3.out⟩
end Go.Proofs.Ytfoaeigoajooeaa.Z
end
section
namespace Go.Proofs.Ytfoaeigoajooeaa.Z
open Go.RowKit Go.Proofs.YtfoaeigoajooeaaW.PrintWords Go.Proofs.YtfoaeigoajooeaaW.PrintLast Go.Proofs.YtfoaeigoajooeaaW.PrintMore
attribute [local go_sem] max2_int min2_int max_two min_two max_three min_three max_four min_four
set_option linter.unusedVariables false
set_option linter.unusedSimpArgs false
mutual
def verdererref01_Text.l0 : Nat → ByteArray → ByteArray → Int → Option (Int)
 | 0,_,_,_ => none
 | k + 1,x0,x1,x5 => if x5 < (x0.size : Int) then (verdererref01_Text.j1 k x0 x1 x5 (decide (x5 < (x1.size : Int)))) else (verdererref01_Text.j1 k x0 x1 x5 false)
def verdererref01_Text.j1 : Nat → ByteArray → ByteArray → Int → Bool → Option (Int)
 | 0,_,_,_,_ => none
 | k + 1,x0,x1,x5,x15 => if x15 = true then (if 0 ≤ x5 then (if x5 < (x0.size : Int) then (if x5 < (x1.size : Int) then (if (bt x0 x5) < (bt x1 x5) then (some (-1)) else (if (bt x0 x5) > (bt x1 x5) then (some 1) else (verdererref01_Text.l0 k x0 x1 (wrap64 (x5 + 1))))) else (none)) else (none)) else (none)) else (if (x0.size : Int) < (x1.size : Int) then (some (-1)) else (if (x0.size : Int) > (x1.size : Int) then (some 1) else (some 0)))
end
def verdererref01_Text.f (k : Nat) (a0 : ByteArray) (a1 : ByteArray) : Option (Int) := verdererref01_Text.l0 k a0 a1 0
theorem verdererref01_Text.mono_l : ∀ k,(∀ y0 y1 y2,LeO (verdererref01_Text.l0 k y0 y1 y2) (verdererref01_Text.l0 (k + 1) y0 y1 y2)) ∧ (∀ y0 y1 y2 y3,LeO (verdererref01_Text.j1 k y0 y1 y2 y3) (verdererref01_Text.j1 (k + 1) y0 y1 y2 y3))
 | 0 => ⟨fun _ _ _ r h => by simp [verdererref01_Text.l0] at h,fun _ _ _ _ r h => by simp [verdererref01_Text.j1] at h⟩
 | k + 1 => by
  obtain ⟨ih0,ih1⟩ := verdererref01_Text.mono_l k
  refine ⟨?_,?_⟩
  ·intro y0 y1 y2
   unfold verdererref01_Text.l0
   repeat' first
   | (with_reducible exact ih0 _ _ _)
   | (with_reducible exact ih1 _ _ _ _)
   | (with_reducible exact LeO.refl _)
   | (with_reducible exact LeO.none _)
   | (with_reducible refine LeO.ite ?_ ?_)
   | (with_reducible refine LeO.bind ?_ (fun _ => ?_))
   | exact ih0 _ _ _
   | exact ih1 _ _ _ _
   | exact LeO.none _
   | refine LeO.ite ?_ ?_
   | refine LeO.bind ?_ (fun _ => ?_)
  ·intro y0 y1 y2 y3
   unfold verdererref01_Text.j1
   repeat' first
   | (with_reducible exact ih0 _ _ _)
   | (with_reducible exact ih1 _ _ _ _)
   | (with_reducible exact LeO.refl _)
   | (with_reducible exact LeO.none _)
   | (with_reducible refine LeO.ite ?_ ?_)
   | (with_reducible refine LeO.bind ?_ (fun _ => ?_))
   | exact ih0 _ _ _
   | exact ih1 _ _ _ _
   | exact LeO.none _
   | refine LeO.ite ?_ ?_
   | refine LeO.bind ?_ (fun _ => ?_)
theorem verdererref01_Text.mono : ∀ a0 a1 k,LeO (verdererref01_Text.f k a0 a1) (verdererref01_Text.f (k + 1) a0 a1) := by
 intro a0 a1 k
 obtain ⟨ih0,ih1⟩ := verdererref01_Text.mono_l k
 unfold verdererref01_Text.f
 repeat' first
   | (with_reducible exact ih0 _ _ _)
   | (with_reducible exact ih1 _ _ _ _)
   | (with_reducible exact LeO.refl _)
   | (with_reducible exact LeO.none _)
   | (with_reducible refine LeO.ite ?_ ?_)
   | (with_reducible refine LeO.bind ?_ (fun _ => ?_))
   | exact ih0 _ _ _
   | exact ih1 _ _ _ _
   | exact LeO.none _
   | refine LeO.ite ?_ ?_
   | refine LeO.bind ?_ (fun _ => ?_)
set_option maxHeartbeats 8000000 in
set_option maxRecDepth 100000 in
theorem verdererref01_Text.calls (k : Nat) (a0 : ByteArray) (a1 : ByteArray) (r : Int) (w : World) (h : verdererref01_Text.f k a0 a1 = some r) :
  Calls Try.prog 41 #[.string a0,.string a1] w fun e w' => e = .returned (.int .i64 r) ∧ Drawn0 w w' := by
 have H : (verdererref01_Text.l0 k a0 a1 0) = some r := h
 clear h
 have H' := Aside0.mk H
 clear H
 go_enter Try.func41,Try.ntmps41
 go_wp2
 repeat (go_quiet (fail);try go_wp2)
 go_loopg [5] k (fun kq v5 w' => ∃ (x5_1 : Int),v5 = .int .i64 x5_1 ∧ Aside0 (verdererref01_Text.l0 kq a0 a1 x5_1 = some r) ∧ Aside0 (kq ≤ k) ∧ Drawn0 w w')
 case atStart => exact ⟨(0),(by first | rfl | (simp;done) | (simp [*];done)),H',⟨Nat.le_refl _⟩,by repeat (first | exact Drawn0.refl _ | apply Drawn0.step)⟩
 case round =>
  clear H'
  try clear p2
  obtain ⟨x5_1,rfl,HA,HK1,⟨m1,rfl⟩⟩ := hrel
  cases gk with
  | zero => exact absurd HA.out (by simp [verdererref01_Text.l0])
  | succ k1 =>
   have H := HA.out
   clear HA
   simp only [verdererref01_Text.l0] at H
   have HC3 := Aside0.mk H
   clear H
   go_upto_region 2 with (fail)
   repeat (go_quiet (fail);go_upto_region 2 with (fail))
   go_cut [15] (fun v15 wc => ∃ (kq : Nat) (x15_2 : Bool),v15 = .bool x15_2 ∧ Aside0 (verdererref01_Text.j1 kq a0 a1 x5_1 x15_2 = some r) ∧ Aside0 (kq ≤ k1) ∧ Drawn0 w wc)
   case first =>
    have H := HC3.out
    clear HC3
    by_cases c4 : x5_1 < (a0.size : Int)
    ·rw [if_pos c4] at H
     have c4b0 : decide (x5_1 < (a0.size : Int)) = true := decide_eq_true c4
     clear c4
     (first | rw [c4b0] | (simp only [i64_w,i32_w];rw [c4b0]) | skip)
     have H' := Aside0.mk H
     clear H
     go_wp2
     repeat (go_quiet (fail);try go_wp2)
     go_meet
     case rel => exact ⟨_,(decide (x5_1 < (a1.size : Int))),(by first | rfl | (simp;done) | (simp [*];done)),H',⟨by have := HK1.out;first | omega | exact Nat.le_refl _⟩,by repeat (first | exact Drawn0.refl _ | apply Drawn0.step)⟩
    ·rw [if_neg c4] at H
     have c4b0 : decide (x5_1 < (a0.size : Int)) = false := decide_eq_false c4
     clear c4
     (first | rw [c4b0] | (simp only [i64_w,i32_w];rw [c4b0]) | skip)
     have H' := Aside0.mk H
     clear H
     go_wp2
     repeat (go_quiet (fail);try go_wp2)
     go_meet
     case rel => exact ⟨_,(false),(by first | rfl | (simp;done) | (simp [*];done)),H',⟨by have := HK1.out;first | omega | exact Nat.le_refl _⟩,by repeat (first | exact Drawn0.refl _ | apply Drawn0.step)⟩
   case rest =>
    clear HC3
    try clear p2
    try clear c4
    try clear c4b0
    try clear p2
    obtain ⟨kq,x15_2,rfl,HA,HJ2,⟨mc2,rfl⟩⟩ := hcut
    cases kq with
    | zero => exact absurd HA.out (by simp [verdererref01_Text.j1])
    | succ kj2 =>
     have H := HA.out
     clear HA
     simp only [verdererref01_Text.j1] at H
     by_cases c5 : x15_2 = true
     ·subst c5
      have H1 : (if 0 ≤ x5_1 then (if x5_1 < (a0.size : Int) then (if x5_1 < (a1.size : Int) then (if (bt a0 x5_1) < (bt a1 x5_1) then (some (-1)) else (if (bt a0 x5_1) > (bt a1 x5_1) then (some 1) else (verdererref01_Text.l0 kj2 a0 a1 (wrap64 (x5_1 + 1))))) else (none)) else (none)) else (none)) = some r := by rw [if_pos rfl] at H;exact H
      clear H
      have H := H1
      clear H1
      by_cases c6 : 0 ≤ x5_1
      ·rw [if_pos c6] at H
       have c6b0 : decide (0 ≤ x5_1) = true := decide_eq_true c6
       clear c6
       by_cases c7 : x5_1 < (a0.size : Int)
       ·rw [if_pos c7] at H
        have c7b0 : decide (x5_1 < (a0.size : Int)) = true := decide_eq_true c7
        clear c7
        by_cases c9 : x5_1 < (a1.size : Int)
        ·rw [if_pos c9] at H
         have c9b0 : decide (x5_1 < (a1.size : Int)) = true := decide_eq_true c9
         clear c9
         by_cases c11 : (bt a0 x5_1) < (bt a1 x5_1)
         ·rw [if_pos c11] at H
          have c11b0 : decide ((bt a0 x5_1) < (bt a1 x5_1)) = true := decide_eq_true c11
          clear c11
          obtain rfl := Option.some.inj H
          have p8 : 0 ≤ (x5_1 : Int) := of_decide_eq_true (by first | (with_reducible assumption) | assumption)
          have q8 : x5_1 < (a0.size : Int) := of_decide_eq_true (by first | (with_reducible assumption) | assumption)
          have hx8 := bt_at a0 x5_1
          replace p8 := eq_true p8
          replace q8 := eq_true q8
          have p10 : 0 ≤ (x5_1 : Int) := of_decide_eq_true (by first | (with_reducible assumption) | assumption)
          have q10 : x5_1 < (a1.size : Int) := of_decide_eq_true (by first | (with_reducible assumption) | assumption)
          have hx10 := bt_at a1 x5_1
          replace p10 := eq_true p10
          replace q10 := eq_true q10
          go_wp2
          repeat (go_quiet (fail);try go_wp2)
          go_ret
          exact ⟨by first | rfl | (simp;done) | (simp [*];done),by repeat (first | exact Drawn0.refl _ | apply Drawn0.step)⟩
         ·rw [if_neg c11] at H
          have c11b0 : decide ((bt a0 x5_1) < (bt a1 x5_1)) = false := decide_eq_false c11
          clear c11
          by_cases c14 : (bt a0 x5_1) > (bt a1 x5_1)
          ·rw [if_pos c14] at H
           have c14b0 : decide ((bt a1 x5_1) < (bt a0 x5_1)) = true := decide_eq_true c14
           clear c14
           obtain rfl := Option.some.inj H
           have p8 : 0 ≤ (x5_1 : Int) := of_decide_eq_true (by first | (with_reducible assumption) | assumption)
           have q8 : x5_1 < (a0.size : Int) := of_decide_eq_true (by first | (with_reducible assumption) | assumption)
           have hx8 := bt_at a0 x5_1
           replace p8 := eq_true p8
           replace q8 := eq_true q8
           have p10 : 0 ≤ (x5_1 : Int) := of_decide_eq_true (by first | (with_reducible assumption) | assumption)
           have q10 : x5_1 < (a1.size : Int) := of_decide_eq_true (by first | (with_reducible assumption) | assumption)
           have hx10 := bt_at a1 x5_1
           replace p10 := eq_true p10
           replace q10 := eq_true q10
           have p12 : 0 ≤ (x5_1 : Int) := of_decide_eq_true (by first | (with_reducible assumption) | assumption)
           have q12 : x5_1 < (a0.size : Int) := of_decide_eq_true (by first | (with_reducible assumption) | assumption)
           have hx12 := bt_at a0 x5_1
           replace p12 := eq_true p12
           replace q12 := eq_true q12
           have p13 : 0 ≤ (x5_1 : Int) := of_decide_eq_true (by first | (with_reducible assumption) | assumption)
           have q13 : x5_1 < (a1.size : Int) := of_decide_eq_true (by first | (with_reducible assumption) | assumption)
           have hx13 := bt_at a1 x5_1
           replace p13 := eq_true p13
           replace q13 := eq_true q13
           go_wp2
           repeat (go_quiet (fail);try go_wp2)
           go_ret
           exact ⟨by first | rfl | (simp;done) | (simp [*];done),by repeat (first | exact Drawn0.refl _ | apply Drawn0.step)⟩
          ·rw [if_neg c14] at H
           have c14b0 : decide ((bt a1 x5_1) < (bt a0 x5_1)) = false := decide_eq_false c14
           clear c14
           have H' := Aside0.mk H
           clear H
           have p8 : 0 ≤ (x5_1 : Int) := of_decide_eq_true (by first | (with_reducible assumption) | assumption)
           have q8 : x5_1 < (a0.size : Int) := of_decide_eq_true (by first | (with_reducible assumption) | assumption)
           have hx8 := bt_at a0 x5_1
           replace p8 := eq_true p8
           replace q8 := eq_true q8
           have p10 : 0 ≤ (x5_1 : Int) := of_decide_eq_true (by first | (with_reducible assumption) | assumption)
           have q10 : x5_1 < (a1.size : Int) := of_decide_eq_true (by first | (with_reducible assumption) | assumption)
           have hx10 := bt_at a1 x5_1
           replace p10 := eq_true p10
           replace q10 := eq_true q10
           have p12 : 0 ≤ (x5_1 : Int) := of_decide_eq_true (by first | (with_reducible assumption) | assumption)
           have q12 : x5_1 < (a0.size : Int) := of_decide_eq_true (by first | (with_reducible assumption) | assumption)
           have hx12 := bt_at a0 x5_1
           replace p12 := eq_true p12
           replace q12 := eq_true q12
           have p13 : 0 ≤ (x5_1 : Int) := of_decide_eq_true (by first | (with_reducible assumption) | assumption)
           have q13 : x5_1 < (a1.size : Int) := of_decide_eq_true (by first | (with_reducible assumption) | assumption)
           have hx13 := bt_at a1 x5_1
           replace p13 := eq_true p13
           replace q13 := eq_true q13
           go_wp2
           repeat (go_quiet (fail);try go_wp2)
           go_roundg kj2
           case measure => have := HK1.out;have := HJ2.out;omega
           case rel => exact ⟨(wrap64 (x5_1 + 1)),(by first | rfl | (simp;done) | (simp [*];done)),H',⟨by have := HK1.out;have := HJ2.out;omega⟩,by repeat (first | exact Drawn0.refl _ | apply Drawn0.step)⟩
        ·rw [if_neg c9] at H
         exact absurd H (by simp)
       ·rw [if_neg c7] at H
        exact absurd H (by simp)
      ·rw [if_neg c6] at H
       exact absurd H (by simp)
     ·replace c5 := Bool.eq_false_iff.mpr c5
      subst c5
      have H1 : (if (a0.size : Int) < (a1.size : Int) then (some (-1)) else (if (a0.size : Int) > (a1.size : Int) then (some 1) else (some 0))) = some r := by rw [if_neg (show ¬ (false = true) by decide)] at H;exact H
      clear H
      have H := H1
      clear H1
      by_cases c15 : (a0.size : Int) < (a1.size : Int)
      ·rw [if_pos c15] at H
       have c15b0 : decide ((a0.size : Int) < (a1.size : Int)) = true := decide_eq_true c15
       have c15b1 : decide (a0.size < a1.size) = true := decide_eq_true (Int.ofNat_lt.mp c15)
       clear c15
       obtain rfl := Option.some.inj H
       go_wp2
       repeat (go_quiet (fail);try go_wp2)
       go_ret
       exact ⟨by first | rfl | (simp;done) | (simp [*];done),by repeat (first | exact Drawn0.refl _ | apply Drawn0.step)⟩
      ·rw [if_neg c15] at H
       have c15b0 : decide ((a0.size : Int) < (a1.size : Int)) = false := decide_eq_false c15
       have c15b1 : decide (a0.size < a1.size) = false := decide_eq_false (fun h => c15 (Int.ofNat_lt.mpr h))
       clear c15
       by_cases c16 : (a0.size : Int) > (a1.size : Int)
       ·rw [if_pos c16] at H
        have c16b0 : decide ((a1.size : Int) < (a0.size : Int)) = true := decide_eq_true c16
        have c16b1 : decide (a1.size < a0.size) = true := decide_eq_true (Int.ofNat_lt.mp c16)
        clear c16
        obtain rfl := Option.some.inj H
        go_wp2
        repeat (go_quiet (fail);try go_wp2)
        go_ret
        exact ⟨by first | rfl | (simp;done) | (simp [*];done),by repeat (first | exact Drawn0.refl _ | apply Drawn0.step)⟩
       ·rw [if_neg c16] at H
        have c16b0 : decide ((a1.size : Int) < (a0.size : Int)) = false := decide_eq_false c16
        have c16b1 : decide (a1.size < a0.size) = false := decide_eq_false (fun h => c16 (Int.ofNat_lt.mpr h))
        clear c16
        obtain rfl := Option.some.inj H
        go_wp2
        repeat (go_quiet (fail);try go_wp2)
        go_ret
        exact ⟨by first | rfl | (simp;done) | (simp [*];done),by repeat (first | exact Drawn0.refl _ | apply Drawn0.step)⟩
end Go.Proofs.Ytfoaeigoajooeaa.Z
end
