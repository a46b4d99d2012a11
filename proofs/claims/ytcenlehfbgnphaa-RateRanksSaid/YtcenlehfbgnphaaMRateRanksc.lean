/-
  verdererlaw35.RateRanks: for every input the law returns true, and each argument reads behind the call as it read before. No condition.
-/
import Derived.Test.YtcenlehfbgnphaaMRateRanksa
import Derived.Test.YtcenlehfbgnphaaMRateRanksb
import Derived.Deep.Slices
import Derived.ProofKit
import Derived.Test.YtcenlehfbgnphaaRows
import Derived.WalkKit
import Derived.OpenShut
import Derived.ShutString
import Derived.ChangeOld
import Derived.Below
import Derived.Laws.Cover2
section
namespace Go.Proofs.Ytcenlehfbgnphaa.Z
set_option linter.unusedVariables false
set_option linter.unusedSimpArgs false
set_option linter.unnecessarySimpa false
open Go.RowKit Go.Proofs.YtcenlehfbgnphaaW.PrintWords Go.Proofs.YtcenlehfbgnphaaW.PrintLast Go.Proofs.YtcenlehfbgnphaaW.PrintMore
structure BestAt (l : List S45) (i r : Nat) : Prop where
  out : ∃ u k,k < i ∧ l[k]? = some u ∧ IsShare u.f2 u.f3 r ∧ ∀ j v,j < i → l[j]? = some v → cmpF (shrQ v.f2 v.f3) (shrQ u.f2 u.f3) ≤ 0
theorem BestAt.lt {l : List S45} {i r : Nat} (h : BestAt l i r) : r < 2 ^ 64 := by
  obtain ⟨u,k,_,_,h3,_⟩ := h.out
  exact h3.lt
theorem BestAt.start {l : List S45} {u : S45} {r : Nat} (h : l[0]? = some u) (hr : IsShare u.f2 u.f3 r) : BestAt l 1 r :=
  ⟨u,0,by omega,h,hr,fun j v hj hv => by
    have : j = 0 := by omega
    subst this
    rw [h] at hv
    cases hv
    rw [cmpF_self]
    exact Int.le_refl _⟩
theorem BestAt.keep {l : List S45} {i r s : Nat} {x : S45} (h : BestAt l i r) (hx : l[i]? = some x) (hs : IsShare x.f2 x.f3 s) (hc : ¬ 0 < cmpF s r) : BestAt l (i + 1) r := by
  obtain ⟨u,k,h1,h2,h3,h4⟩ := h.out
  rw [cmpF_shr hs h3] at hc
  refine ⟨u,k,by omega,h2,h3,fun j v hj hv => ?_⟩
  rcases Nat.lt_or_ge j i with c | c
  · exact h4 j v c hv
  · have : j = i := by omega
    subst this
    rw [hx] at hv
    cases hv
    omega
theorem BestAt.take {l : List S45} {i r s t : Nat} {x : S45} (h : BestAt l i r) (hx : l[i]? = some x) (hs : IsShare x.f2 x.f3 s) (ht : IsShare x.f2 x.f3 t) (hc : 0 < cmpF s r) : BestAt l (i + 1) t := by
  obtain ⟨u,k,h1,h2,h3,h4⟩ := h.out
  rw [cmpF_shr hs h3] at hc
  refine ⟨x,i,by omega,hx,ht,fun j v hj hv => ?_⟩
  rcases Nat.lt_or_ge j i with c | c
  · exact cmpF_trans _ _ _ (h4 j v c hv) (by rw [cmpF_anti];omega)
  · have : j = i := by omega
    subst this
    rw [hx] at hv
    cases hv
    rw [cmpF_self]
    exact Int.le_refl _
theorem BestAt.done {l : List S45} {r : Nat} (h : BestAt l l.length r) : MostIs l r := by
  obtain ⟨u,k,h1,h2,h3,h4⟩ := h.out
  refine ⟨h3.lt,fun e => by subst e;simp at h1,fun _ => ⟨u,List.mem_of_getElem? h2,h3,fun v hv => ?_⟩⟩
  obtain ⟨j,hj,e⟩ := List.getElem_of_mem hv
  exact h4 j v hj (by rw [List.getElem?_eq_getElem hj,e])
theorem rd_get (l : List S45) (i : Nat) (h : i < l.length) : l[i]? = some (rd_T45 l (i : Int)) := by
  unfold rd_T45
  rw [List.getD_eq_getElem?_getD]
  simp [h]
set_option maxHeartbeats 4000000 in
set_option maxRecDepth 100000 in
theorem ref_most (A : Option Addr) (n c : Nat) (l : List S45) (w : World) (hr : Kd.C k45 w A n l) (hn : n ≤ 1000000) : Calls Try.prog 43 #[.slice A n c] w fun e w' => ∃ r,e = .returned (.float .f64 r) ∧ MostIs l r ∧ Below w.heap.size w w' := by
  have hl : l.length = n := hr.1
  have hu45 := Try.underlying45
  by_cases h0 : n = 0
  · subst h0
    have e : l = [] := List.length_eq_zero_iff.1 hl
    subst e
    have HB := Aside0.mk (Below.refl w.heap.size w)
    clear hr
    go_enter Try.func43,Try.ntmps43
    go_wp2_with (fail)
    refine (nan_walk _).mono ?_
    rintro e w1 ⟨rfl,rfl⟩
    go_wp2_with (fail)
    go_ret
    exact ⟨_,rfl,⟨by decide,fun _ => rfl,fun h => absurd rfl h⟩,HB.out⟩
  · have HR := Aside0.mk hr
    have HL := Aside0.mk hl
    have HG := Aside0.mk (rd_get l 0 (by omega))
    have b0 : ((n : Int) == 0) = false := by rw [beq_eq_false_iff_ne];omega
    have b1 : 0 < n := by omega
    have b2 : (0 : Int) < (n : Int) := by omega
    obtain ⟨ad,e,x0,x1,x2,x3⟩ := at_T45 hr 0 (by omega) (by omega)
    cases e
    have z : ad.add (Int.toNat 0 * 4) = ad := by cases ad;rfl
    rw [z] at x0 x1 x2 x3
    generalize rd_T45 l (0 : Int) = u0 at *
    have HG : Aside0 (l[0]? = some u0) := HG
    obtain ⟨xa,xb,xc,xd⟩ := u0
    clear hr hl z
    go_enter Try.func43,Try.ntmps43
    go_wp2_with (fail)
    refine (ref_share xa xb xc xd _).mono ?_
    rintro e w1 ⟨r,rfl,hr,hb⟩
    have HS := Aside0.mk (BestAt.start HG.out hr)
    have HB := Aside0.mk hb
    clear x0 x1 x2 x3 hr hb HG
    go_wp2_with (fail)
    go_loopw [3,4] (fun rv iv wr => ∃ (i r : Nat),rv = .float .f64 r ∧ iv = .int .i64 (i : Int) ∧ i ≤ n ∧ Aside0 (BestAt l i r) ∧ Aside0 (Below w.heap.size w wr)) (fun _ iv _ => n - (intOf iv).toNat)
    case atStart => exact ⟨1,r,rfl,rfl,b1,HS,HB⟩
    case round =>
      clear HS HB
      obtain ⟨i,r,rfl,rfl,hi,HS,HB⟩ := hrel
      by_cases hlt : i < n
      · have HG := Aside0.mk (rd_get l i (by have := HL.out;omega))
        obtain ⟨ad',e,x0,x1,x2,x3⟩ := at_T45 HR.out (i : Int) (by omega) (by omega)
        cases e
        replace x0 := (HB.out.cell (World.block_lt_of_cell? w _ x0)).trans x0
        replace x1 := (HB.out.cell (World.block_lt_of_cell? w _ x1)).trans x1
        replace x2 := (HB.out.cell (World.block_lt_of_cell? w _ x2)).trans x2
        replace x3 := (HB.out.cell (World.block_lt_of_cell? w _ x3)).trans x3
        have ei : (i : Int).toNat = i := rfl
        rw [ei] at x0 x1 x2 x3
        generalize rd_T45 l (i : Int) = u1 at *
        obtain ⟨ya,yb,yc,yd⟩ := u1
        go_wp2_with (fail)
        refine (ref_share ya yb yc yd _).mono ?_
        rintro e w2 ⟨s,rfl,hs,hb⟩
        replace x0 := (hb.cell (World.block_lt_of_cell? _ _ x0)).trans x0
        replace x1 := (hb.cell (World.block_lt_of_cell? _ _ x1)).trans x1
        replace x2 := (hb.cell (World.block_lt_of_cell? _ _ x2)).trans x2
        replace x3 := (hb.cell (World.block_lt_of_cell? _ _ x3)).trans x3
        have SS := Aside0.mk hs
        have HB2 := Aside0.mk (HB.out.trans (hb.mono HB.out.size))
        clear hs hb HB
        go_wp2_with (fail)
        refine (ref_compare s r SS.out.lt HS.out.lt _).mono ?_
        rintro e w3 ⟨rfl,rfl⟩
        by_cases hv : 0 < cmpF s r
        · have c0 : decide (0 < cmpF s r) = true := decide_eq_true hv
          go_wp2_with (fail)
          refine (ref_share ya yb yc yd _).mono ?_
          rintro e w4 ⟨t,rfl,ht,hb⟩
          have NB := Aside0.mk (HS.out.take HG.out SS.out ht hv)
          have HB3 := Aside0.mk (HB2.out.trans (hb.mono HB2.out.size))
          clear x0 x1 x2 x3 ht hb HB2 HS SS HG hv
          go_wp2_with (fail)
          go_roundw
          case rel => exact ⟨i + 1,t,rfl,by go_num,hlt,NB,HB3⟩
          case measure => simp [intOf];omega
        · have c0 : decide (0 < cmpF s r) = false := decide_eq_false hv
          have c1 : cmpF s r ≤ 0 := by omega
          have NB := Aside0.mk (HS.out.keep HG.out SS.out hv)
          clear x0 x1 x2 x3 HS SS HG hv
          go_wp2_with (fail)
          go_roundw
          case rel => exact ⟨i + 1,r,rfl,by go_num,hlt,NB,HB2⟩
          case measure => simp [intOf];omega
      · have b5 : n ≤ i := by omega
        have FIN := Aside0.mk (show MostIs l r by have h := HS.out;rw [show i = l.length by have := HL.out;omega] at h;exact h.done)
        go_wp2_with (fail)
        go_ret
        exact ⟨r,rfl,FIN.out,HB.out⟩
end Go.Proofs.Ytcenlehfbgnphaa.Z
end
section
namespace Go.Proofs.Ytcenlehfbgnphaa.Z
set_option linter.unusedVariables false
set_option linter.unusedSimpArgs false
set_option linter.unnecessarySimpa false
open Go.RowKit Go.Proofs.YtcenlehfbgnphaaW.PrintWords Go.Proofs.YtcenlehfbgnphaaW.PrintLast Go.Proofs.YtcenlehfbgnphaaW.PrintMore
theorem cls_read {b : Nat} (h : cls b = 0) : ∃ s f,rdF b = .nan s f := by
  unfold cls at h
  cases e : rdF b with
  | nan s f => exact ⟨s,f,rfl⟩
  | infinity s => rw [e] at h;cases s <;> simp at h
  | number s m i =>
    rw [e] at h
    simp only at h
    split at h <;> split at h <;> omega
def Sim (r s : Nat) : Prop := r = s ∨ (cls r = 0 ∧ cls s = 0)
theorem Sim.cmp {r s t : Nat} (h : Sim r t) (k : Sim s t) : cmpF r s = 0 := by
  have z (a b : Nat) (h1 : cls a = 0) (h2 : cls b = 0) : cmpF a b = 0 := by unfold cmpF;rw [h1,h2];simp
  rcases h with rfl | ⟨h1,h2⟩ <;> rcases k with rfl | ⟨k1,k2⟩
  · exact cmpF_self _
  · exact z _ _ k2 k1
  · exact z _ _ h1 h2
  · exact z _ _ h1 k1
theorem cls_nanC : cls nanC = 0 := cls_nan _ (by decide) (by decide)
theorem Sim.share {a l : Int} {r : Nat} (h : IsShare a l r) : Sim r (shrQ a l) := shrQ_eq h
theorem add_nan1 {x : Nat} (h : cls x = 0) (y : Nat) : FloatKind.f64.format.add x y = none := by
  obtain ⟨s,f,e⟩ := cls_read h
  have : Ieee.Datum.sum (rdF x) (rdF y) = none := by rw [e];rfl
  show (Ieee.Datum.sum (rdF x) (rdF y)).map _ = none
  rw [this];rfl
theorem add_nan2 {y : Nat} (h : cls y = 0) (x : Nat) : FloatKind.f64.format.add x y = none := by
  obtain ⟨s,f,e⟩ := cls_read h
  have : Ieee.Datum.sum (rdF x) (rdF y) = none := by rw [e];cases rdF x <;> rfl
  show (Ieee.Datum.sum (rdF x) (rdF y)).map _ = none
  rw [this];rfl
theorem div_nan1 {x : Nat} (h : cls x = 0) (y : Nat) : FloatKind.f64.format.div x y = none := by
  obtain ⟨s,f,e⟩ := cls_read h
  show (Ieee.Datum.quotient _ (rdF x) (rdF y)).map _ = none
  rw [e];rfl
def addC (x y : Nat) : Nat := (FloatKind.f64.format.add x y).getD nanC
def divC (x y : Nat) : Nat := (FloatKind.f64.format.div x y).getD nanC
theorem add_sim {x y x' y' r : Nat} (h : Sim x x') (k : Sim y y') (h1 : ∀ q,FloatKind.f64.format.add x y = some q → r = q) (h2 : FloatKind.f64.format.add x y = none → cls r = 0) : Sim r (addC x' y') := by
  unfold addC
  rcases h with rfl | ⟨a1,a2⟩
  · rcases k with rfl | ⟨b1,b2⟩
    · cases e : FloatKind.f64.format.add x y with
      | none => exact Or.inr ⟨h2 e,cls_nanC⟩
      | some q => exact Or.inl (h1 q e)
    · rw [add_nan2 b2]
      exact Or.inr ⟨h2 (add_nan2 b1 _),cls_nanC⟩
  · rw [add_nan1 a2]
    exact Or.inr ⟨h2 (add_nan1 a1 _),cls_nanC⟩
theorem div_sim {x x' y r : Nat} (h : Sim x x') (h1 : ∀ q,FloatKind.f64.format.div x y = some q → r = q) (h2 : FloatKind.f64.format.div x y = none → cls r = 0) : Sim r (divC x' y) := by
  unfold divC
  rcases h with rfl | ⟨a1,a2⟩
  · cases e : FloatKind.f64.format.div x y with
    | none => exact Or.inr ⟨h2 e,cls_nanC⟩
    | some q => exact Or.inl (h1 q e)
  · rw [div_nan1 a2]
    exact Or.inr ⟨h2 (div_nan1 a1 _),cls_nanC⟩
theorem run_add_none {x y : Nat} (h : FloatKind.f64.format.add x y = none) (w : World) : (binOp .add 46 (.float .f64 x) (.float .f64 y)).run Try.prog w = .ok (.float .f64 (nanV w x y)) w.drew := by
  simp [binOp,Op.floatArith,h]
  rw [if_neg (show ¬ ((Question.nanBits FloatKind.f64 x y).forced = true) from Bool.false_ne_true)]
  rfl
theorem run_add {x y x' y' : Nat} (h : Sim x x') (k : Sim y y') (w : World) : ∃ r w',(binOp .add 46 (.float .f64 x) (.float .f64 y)).run Try.prog w = .ok (.float .f64 r) w' ∧ Sim r (addC x' y') ∧ r < 2 ^ 64 ∧ Below w.heap.size w w' := by
  cases e : FloatKind.f64.format.add x y with
  | none => exact ⟨_,_,run_add_none e w,add_sim h k (fun q hq => by rw [e] at hq;cases hq) (fun _ => (nanV_ok _ _ _).2),(nanV_ok _ _ _).1,below_drew1 (Below.refl _ _)⟩
  | some q => exact ⟨q,w,run_float_arith w .add 46 .f64 x y q e,add_sim h k (fun q' hq => by rw [e] at hq;exact Option.some.inj hq) (fun hq => by rw [e] at hq;cases hq),lt_of_wf (floatBits_wf (op := .add) e),Below.refl _ _⟩
theorem run_div {x x' y : Nat} (h : Sim x x') (w : World) : ∃ r w',(binOp .quo 46 (.float .f64 x) (.float .f64 y)).run Try.prog w = .ok (.float .f64 r) w' ∧ Sim r (divC x' y) ∧ r < 2 ^ 64 ∧ Below w.heap.size w w' := by
  cases e : FloatKind.f64.format.div x y with
  | none => exact ⟨_,_,run_quo_none e w,div_sim h (fun q hq => by rw [e] at hq;cases hq) (fun _ => (nanV_ok _ _ _).2),(nanV_ok _ _ _).1,below_drew1 (Below.refl _ _)⟩
  | some q => exact ⟨q,w,run_float_arith w .quo 46 .f64 x y q e,div_sim h (fun q' hq => by rw [e] at hq;exact Option.some.inj hq) (fun hq => by rw [e] at hq;cases hq),lt_of_wf (floatBits_wf (op := .quo) e),Below.refl _ _⟩
def sumC (l : List S45) : Nat → Nat
  | 0 => 0
  | i + 1 => addC (sumC l i) (shrQ (rd_T45 l (i : Int)).f2 (rd_T45 l (i : Int)).f3)
def meanC (l : List S45) : Nat := divC (sumC l l.length) (floatOfInt .f64 l.length)
set_option maxHeartbeats 4000000 in
set_option maxRecDepth 100000 in
theorem ref_mean (A : Option Addr) (n c : Nat) (l : List S45) (w : World) (hr : Kd.C k45 w A n l) (hn : n ≤ 1000000) : Calls Try.prog 41 #[.slice A n c] w fun e w' => ∃ r,e = .returned (.float .f64 r) ∧ r < 2 ^ 64 ∧ Sim r (meanC l) ∧ Below w.heap.size w w' := by
  have hl : l.length = n := hr.1
  have hu45 := Try.underlying45
  have HR := Aside0.mk hr
  have HL := Aside0.mk hl
  have HB := Aside0.mk (Below.refl w.heap.size w)
  have HS := Aside0.mk (show Sim 0 (sumC l 0) from Or.inl rfl)
  clear hr hl
  go_enter Try.func41,Try.ntmps41
  go_wp2_with (fail)
  go_loopw [3,4] (fun rv iv wr => ∃ (i r : Nat),rv = .float .f64 r ∧ iv = .int .i64 (i : Int) ∧ i ≤ n ∧ Aside0 (Sim r (sumC l i)) ∧ Aside0 (Below w.heap.size w wr)) (fun _ iv _ => n - (intOf iv).toNat)
  case atStart => exact ⟨0,0,rfl,rfl,Nat.zero_le _,HS,HB⟩
  case round =>
    clear HS HB
    obtain ⟨i,r,rfl,rfl,hi,HS,HB⟩ := hrel
    by_cases hlt : i < n
    · obtain ⟨ad',e,x0,x1,x2,x3⟩ := at_T45 HR.out (i : Int) (by omega) (by omega)
      cases e
      replace x0 := (HB.out.cell (World.block_lt_of_cell? w _ x0)).trans x0
      replace x1 := (HB.out.cell (World.block_lt_of_cell? w _ x1)).trans x1
      replace x2 := (HB.out.cell (World.block_lt_of_cell? w _ x2)).trans x2
      replace x3 := (HB.out.cell (World.block_lt_of_cell? w _ x3)).trans x3
      have ei : (i : Int).toNat = i := rfl
      rw [ei] at x0 x1 x2 x3
      have EU : Aside0 (∃ u,rd_T45 l (i : Int) = u) := ⟨⟨_,rfl⟩⟩
      obtain ⟨u,hu⟩ := EU.out
      rw [hu] at x0 x1 x2 x3
      have HU := Aside0.mk hu
      clear hu EU
      obtain ⟨ya,yb,yc,yd⟩ := u
      go_wp2_with (fail)
      refine (ref_share ya yb yc yd _).mono ?_
      rintro e w2 ⟨s,rfl,hs,hb⟩
      obtain ⟨r2,w3,hq,h1,h2,h3⟩ := run_add HS.out (Sim.share hs) w2
      have HS2 := Aside0.mk (show Sim r2 (sumC l (i + 1)) by unfold sumC;rw [HU.out];exact h1)
      have HB2 := Aside0.mk (HB.out.trans ((hb.trans (h3.mono hb.size)).mono HB.out.size))
      clear x0 x1 x2 x3 hs hb HB HS h1 h2 h3
      go_wp2_with (fail)
      go_roundw
      case rel => exact ⟨i + 1,r2,rfl,by go_num,hlt,HS2,HB2⟩
      case measure => simp [intOf];omega
    · have b5 : n ≤ i := by omega
      obtain ⟨r2,w3,hq,h1,h2,h3⟩ := run_div (y := floatOfInt .f64 (n : Int)) HS.out wr
      have FIN := Aside0.mk (show Sim r2 (meanC l) by unfold meanC;rw [HL.out];rw [show i = n by omega] at h1;exact h1)
      have HB2 := Aside0.mk (HB.out.trans (h3.mono HB.out.size))
      have H2 := Aside0.mk h2
      clear h1 h2 h3 HB HS
      go_wp2_with (fail)
      go_ret
      exact ⟨r2,rfl,H2.out,FIN.out,HB2.out⟩
end Go.Proofs.Ytcenlehfbgnphaa.Z
end
section
namespace Go.Proofs.Ytcenlehfbgnphaa.Z
set_option linter.unusedVariables false
set_option linter.unusedSimpArgs false
set_option linter.unnecessarySimpa false
open Go.RowKit Go.Proofs.YtcenlehfbgnphaaW.PrintWords Go.Proofs.YtcenlehfbgnphaaW.PrintLast Go.Proofs.YtcenlehfbgnphaaW.PrintMore
set_option maxHeartbeats 4000000 in
set_option maxRecDepth 100000 in
theorem rate_mean (A : Option Addr) (n c : Nat) (l : List S45) (w : World) (hr : Kd.C k45 w A n l) (hn : n ≤ 1000000) : Calls Try.prog 40 #[.slice A n c] w fun e w' => ∃ r,e = .returned (.float .f64 r) ∧ r < 2 ^ 64 ∧ Sim r (meanC l) ∧ Below w.heap.size w w' := by
  have hl : l.length = n := hr.1
  have hu45 := Try.underlying45
  have HR := Aside0.mk hr
  have HL := Aside0.mk hl
  have HB := Aside0.mk (Below.refl w.heap.size w)
  have HS := Aside0.mk (show Sim 0 (sumC l 0) from Or.inl rfl)
  clear hr hl
  go_enter Try.func40,Try.ntmps40
  go_wp2_with (fail)
  go_loopw [3,8] (fun rv iv wr => ∃ (i r : Nat),rv = .float .f64 r ∧ iv = .int .i64 (i : Int) ∧ i ≤ n ∧ Aside0 (Sim r (sumC l i)) ∧ Aside0 (Below w.heap.size w wr)) (fun _ iv _ => n - (intOf iv).toNat)
  case atStart => exact ⟨0,0,rfl,rfl,Nat.zero_le _,HS,HB⟩
  case round =>
    clear HS HB
    obtain ⟨i,r,rfl,rfl,hi,HS,HB⟩ := hrel
    by_cases hlt : i < n
    · obtain ⟨ad',e,x0,x1,x2,x3⟩ := at_T45 HR.out (i : Int) (by omega) (by omega)
      cases e
      replace x0 := (HB.out.cell (World.block_lt_of_cell? w _ x0)).trans x0
      replace x1 := (HB.out.cell (World.block_lt_of_cell? w _ x1)).trans x1
      replace x2 := (HB.out.cell (World.block_lt_of_cell? w _ x2)).trans x2
      replace x3 := (HB.out.cell (World.block_lt_of_cell? w _ x3)).trans x3
      have ei : (i : Int).toNat = i := rfl
      rw [ei] at x0 x1 x2 x3
      have EU : Aside0 (∃ u,rd_T45 l (i : Int) = u) := ⟨⟨_,rfl⟩⟩
      obtain ⟨u,hu⟩ := EU.out
      rw [hu] at x0 x1 x2 x3
      have HU := Aside0.mk hu
      clear hu EU
      obtain ⟨ya,yb,yc,yd⟩ := u
      go_wp2_with (fail)
      have HA := Aside0.mk (below_alloc HB.out (.cells #[.string ya,.string yb,.int .i64 yc,.int .i64 yd] 45))
      refine (rate_share ya yb yc yd _).mono ?_
      rintro e w2 ⟨s,rfl,hs,hb⟩
      obtain ⟨r2,w3,hq,h1,h2,h3⟩ := run_add HS.out (Sim.share hs) w2
      have HS2 := Aside0.mk (show Sim r2 (sumC l (i + 1)) by unfold sumC;rw [HU.out];exact h1)
      have HB2 := Aside0.mk (HA.out.trans ((hb.trans (h3.mono hb.size)).mono HA.out.size))
      clear x0 x1 x2 x3 hs hb HB HS h1 h2 h3 HA
      go_wp2_with (fail)
      go_roundw
      case rel => exact ⟨i + 1,r2,rfl,by go_num,hlt,HS2,HB2⟩
      case measure => simp [intOf];omega
    · have b5 : n ≤ i := by omega
      obtain ⟨r2,w3,hq,h1,h2,h3⟩ := run_div (y := floatOfInt .f64 (n : Int)) HS.out wr
      have FIN := Aside0.mk (show Sim r2 (meanC l) by unfold meanC;rw [HL.out];rw [show i = n by omega] at h1;exact h1)
      have HB2 := Aside0.mk (HB.out.trans (h3.mono HB.out.size))
      have H2 := Aside0.mk h2
      clear h1 h2 h3 HB HS
      go_wp2_with (fail)
      go_ret
      exact ⟨r2,rfl,H2.out,FIN.out,HB2.out⟩
end Go.Proofs.Ytcenlehfbgnphaa.Z
end
section
namespace Go.Proofs.Ytcenlehfbgnphaa.Z
set_option linter.unusedVariables false
set_option linter.unusedSimpArgs false
set_option linter.unnecessarySimpa false
theorem Ranked.uniq {l : List S45} {C D : List El} (h : Ranked l C) (k : Ranked l D) : C = D := perm_eq cfR_ord _ _ (h.perm.trans k.perm.symm) h.srt k.srt
structure RefAt (l : List S45) (i : Nat) (C : List El) : Prop where
  perm : C.Perm (l.zipIdx.take i)
  srt : Sorted cfR C
theorem RefAt.start (l : List S45) : RefAt l 0 [] := ⟨List.Perm.refl _,List.Pairwise.nil⟩
theorem RefAt.len {l : List S45} {i : Nat} {C : List El} (h : RefAt l i C) (hi : i ≤ l.length) : C.length = i := by
  rw [h.perm.length_eq,List.length_take,List.length_zipIdx];omega
theorem RefAt.done {l : List S45} {C : List El} (h : RefAt l l.length C) : Ranked l C := by
  have := h.perm
  rw [List.take_of_length_le (by rw [List.length_zipIdx];exact Nat.le_refl _)] at this
  exact ⟨this,h.srt⟩
theorem atL_get {C : List El} {k : Nat} (h : k < C.length) : atL C k = C[k] := by
  unfold atL
  rw [List.getD_eq_getElem?_getD,List.getElem?_eq_getElem h]
  rfl
theorem RefAt.insert {l : List S45} {i j : Nat} {C : List El} {x : S45} (h : RefAt l i C) (hx : l[i]? = some x) (hj : j ≤ C.length)
    (h1 : ∀ k,k < j → ¬ cmpF (shrQ (atL C k).1.f2 (atL C k).1.f3) (shrQ x.f2 x.f3) < 0)
    (h2 : j = C.length ∨ cmpF (shrQ (atL C j).1.f2 (atL C j).1.f3) (shrQ x.f2 x.f3) < 0) : RefAt l (i + 1) (C.take j ++ (x,i) :: C.drop j) := by
  have hi : i < l.length := (List.getElem?_eq_some_iff.1 hx).1
  have ez : l.zipIdx.take (i + 1) = l.zipIdx.take i ++ [(x,i)] := by
    rw [List.take_add_one,List.getElem?_zipIdx,hx]
    simp
  have tag : ∀ y ∈ C,y.2 < i := by
    intro y hy
    have hm := h.perm.mem_iff.1 hy
    obtain ⟨k,hk,e⟩ := List.getElem_of_mem hm
    rw [List.length_take,List.length_zipIdx] at hk
    rw [List.getElem_take,List.getElem_zipIdx] at e
    rw [← e]
    simp
    omega
  constructor
  · rw [ez]
    refine List.perm_middle.trans ?_
    rw [List.take_append_drop]
    exact (List.Perm.cons _ h.perm).trans (List.perm_append_comm (l₁ := [(x,i)]))
  · have hs := h.srt
    rw [← List.take_append_drop j C] at hs
    refine sorted_three hs ?_ ?_
    · intro u hu
      obtain ⟨k,hk,e⟩ := List.getElem_of_mem hu
      rw [List.length_take] at hk
      rw [List.getElem_take] at e
      have a := h1 k (by omega)
      rw [atL_get (by omega),e] at a
      have t := tag u (List.mem_of_mem_take hu)
      have b := cmpF_anti (shrQ u.1.f2 u.1.f3) (shrQ x.f2 x.f3)
      unfold Lx cfR
      simp only
      omega
    · intro v hv
      obtain ⟨k,hk,e⟩ := List.getElem_of_mem hv
      rw [List.length_drop] at hk
      rw [List.getElem_drop] at e
      have hjl : j < C.length := by omega
      have a : cmpF (shrQ (atL C j).1.f2 (atL C j).1.f3) (shrQ x.f2 x.f3) < 0 := by
        rcases h2 with h2 | h2
        · omega
        · exact h2
      rw [atL_get hjl] at a
      have lx : Lx cfR (x,i) C[j] := Or.inl a
      rcases Nat.eq_zero_or_pos k with rfl | k0
      · simp only [Nat.add_zero] at e
        rw [← e];exact lx
      · have := List.pairwise_iff_getElem.1 h.srt j (j + k) hjl (by omega) (by omega)
        rw [e] at this
        exact lx.trans cfR_ord this
end Go.Proofs.Ytcenlehfbgnphaa.Z
end
section
namespace Go.Proofs.Ytcenlehfbgnphaa.Z
set_option linter.unusedVariables false
set_option linter.unusedSimpArgs false
set_option linter.unnecessarySimpa false
open Go.RowKit Go.Proofs.YtcenlehfbgnphaaW.PrintWords Go.Proofs.YtcenlehfbgnphaaW.PrintLast Go.Proofs.YtcenlehfbgnphaaW.PrintMore
structure NextW (N : Nat) (w w' : World) : Prop where
  below : Below N w w'
  le : N ≤ w'.heap.size
theorem NextW.next {N : Nat} {w w1 w2 W : World} (h : NextW N w w1) (hb : Below W.heap.size W w2) (e : SameW w1 W := by exact ⟨rfl,rfl,rfl,rfl⟩) : NextW N w w2 := by
  have h1 : Below N w W := ⟨e.os.trans h.below.os,e.tape.trans h.below.tape,e.output.trans h.below.output,by rw [e.heap];exact h.below.size,fun k hk => by rw [e.heap];exact h.below.block k hk⟩
  have hs : N ≤ W.heap.size := by rw [e.heap];exact h.le
  exact ⟨h1.trans (hb.mono hs),Nat.le_trans hs hb.size⟩
theorem fresh_below {w2 w3 w4 : World} {v1 : Value} (g3 : w2.grownBy w3 none) (g4 : w3.grownBy w4 v1.ownBlock) (ha : v1.ownBlock = (Value.slice none 0 0).ownBlock ∨ ∃ b,v1.ownBlock = some b ∧ w2.heap.size ≤ b) : Below w2.heap.size w2 w4 :=
  ⟨g4.os.trans g3.os,g4.tape.trans g3.tape,g4.output.trans g3.output,Nat.le_trans g3.size g4.size,fun k hk => by
    have n1 : some k ≠ none := fun e => by cases e
    have n2 : some k ≠ v1.ownBlock := by
      intro e
      rcases ha with h | ⟨b,h,hb⟩
      · rw [h] at e;cases e
      · rw [h] at e;cases e;omega
    exact (g4.block k (Nat.lt_of_lt_of_le hk g3.size) n2).trans (g3.block k hk n1)⟩
theorem C_zero (A : Option Addr) (w : World) : Kd.C k45 w A 0 [] := ⟨rfl,by omega,fun h => absurd h (Nat.lt_irrefl 0)⟩
set_option maxHeartbeats 4000000 in
set_option maxRecDepth 100000 in
theorem ref_rank (A : Option Addr) (n c : Nat) (l : List S45) (w : World) (hr : Kd.C k45 w A n l) (hn : n ≤ 1000000) :
    Calls Try.prog 39 #[.slice A n c] w fun e w' => ∃ v C,e = .returned v ∧ Ranked l C ∧ Kd.R k45 45 w' w.heap.size (fun _ => True) v (C.map Prod.fst) ∧ Below w.heap.size w w' := by
  have hl : l.length = n := hr.1
  have hu45 := Try.underlying45
  have HR := Aside0.mk hr
  have HL := Aside0.mk hl
  have HB := Aside0.mk (Below.refl w.heap.size w)
  have HS := Aside0.mk (RefAt.start l)
  have HV := Aside0.mk (Kd.R_nil k45 45 w w.heap.size (fun _ => True))
  clear hr hl
  go_enter Try.func39,Try.ntmps39
  go_wp2_with (fail)
  go_loopw [3,4] (fun vv iv wr => ∃ (i : Nat) (C : List El),iv = .int .i64 (i : Int) ∧ i ≤ n ∧ Aside0 (RefAt l i C) ∧ Aside0 (Kd.R k45 45 wr w.heap.size (fun _ => True) vv (C.map Prod.fst)) ∧ Aside0 (Below w.heap.size w wr)) (fun _ iv _ => n - (intOf iv).toNat)
  case atStart => exact ⟨0,[],rfl,Nat.zero_le _,HS,HV,HB⟩
  case round =>
    clear HS HB HV
    obtain ⟨i,C,rfl,hi,HS,HV,HB⟩ := hrel
    obtain ⟨Ao,co,eo⟩ := Kd.R_slice HV.out
    subst eo
    obtain ⟨m,hm⟩ : ∃ m,(C.map Prod.fst).length = m := ⟨_,rfl⟩
    have HM := Aside0.mk hm
    have HMC := Aside0.mk (show C.length = m by rw [← hm,List.length_map])
    rw [hm] at HV ⊢
    have HCO := Aside0.mk (Kd.R_reads' HV.out).2.1
    have HRD := Aside0.mk (Kd.R_reads' HV.out).2.2
    by_cases hlt : i < n
    · have HMI := Aside0.mk (show m = i by have := HS.out.len (by have := HL.out;omega);have := HMC.out;omega)
      have mi : m ≤ 1000000 := by have := HMI.out;omega
      have HX := Aside0.mk (rd_get l i (by have := HL.out;omega))
      obtain ⟨ad2,e2,y0,y1,y2,y3⟩ := at_T45 HR.out (i : Int) (by omega) (by omega)
      cases e2
      have Y9 := Aside0.mk (And.intro y0 (And.intro y1 (And.intro y2 y3)))
      replace y0 := (HB.out.cell (World.block_lt_of_cell? w _ y0)).trans y0
      replace y1 := (HB.out.cell (World.block_lt_of_cell? w _ y1)).trans y1
      replace y2 := (HB.out.cell (World.block_lt_of_cell? w _ y2)).trans y2
      replace y3 := (HB.out.cell (World.block_lt_of_cell? w _ y3)).trans y3
      have ei : (i : Int).toNat = i := rfl
      rw [ei] at y0 y1 y2 y3
      generalize rd_T45 l (i : Int) = u2 at *
      obtain ⟨ya,yb,yc,yd⟩ := u2
      clear hm
      go_wp2_with (fail)
      obtain ⟨wo,hwo⟩ : ∃ wo : World,wo = wr := ⟨_,rfl⟩
      rw [← hwo] at y0 y1 y2 y3 HV HB HRD
      have HBB := Aside0.mk (Below.refl wo.heap.size wo)
      rw [← hwo]
      clear hwo
      have HJ : Aside0 (∀ k,k < 0 → 0 ≤ cmpF (shrQ (atL C k).1.f2 (atL C k).1.f3) (shrQ yc yd)) := ⟨fun k hk => absurd hk (Nat.not_lt_zero k)⟩
      go_loopw [5] (fun jv wq => ∃ j : Nat,jv = .int .i64 (j : Int) ∧ j ≤ m ∧ Aside0 (∀ k,k < j → 0 ≤ cmpF (shrQ (atL C k).1.f2 (atL C k).1.f3) (shrQ yc yd)) ∧ Aside0 (Below wo.heap.size wo wq)) (fun jv _ => m - (intOf jv).toNat)
      case atStart => exact ⟨0,rfl,Nat.zero_le _,HJ,HBB⟩
      case round =>
        clear HJ HBB
        obtain ⟨j,rfl,hj,HJ,HBB⟩ := hrel
        by_cases hjm : j < m
        · have QM := Aside0.mk (show j < C.length by have := HMC.out;omega)
          obtain ⟨ad1,e1,x0,x1,x2,x3⟩ := at_T45 HRD.out (j : Int) (by omega) (by rw [HM.out];omega)
          cases e1
          have ej : (j : Int).toNat = j := rfl
          have ep : rd_T45 (C.map Prod.fst) (j : Int) = (atL C j).1 := by
            have q := QM.out
            unfold rd_T45
            rw [atL_get q,List.getD_eq_getElem?_getD]
            simp [q]
          rw [ej,ep] at x0 x1 x2 x3
          replace x0 := (HBB.out.cell (World.block_lt_of_cell? _ _ x0)).trans x0
          replace x1 := (HBB.out.cell (World.block_lt_of_cell? _ _ x1)).trans x1
          replace x2 := (HBB.out.cell (World.block_lt_of_cell? _ _ x2)).trans x2
          replace x3 := (HBB.out.cell (World.block_lt_of_cell? _ _ x3)).trans x3
          have Y0 := Aside0.mk (And.intro y0 (And.intro y1 (And.intro y2 y3)))
          replace y0 := (HBB.out.cell (World.block_lt_of_cell? _ _ y0)).trans y0
          replace y1 := (HBB.out.cell (World.block_lt_of_cell? _ _ y1)).trans y1
          replace y2 := (HBB.out.cell (World.block_lt_of_cell? _ _ y2)).trans y2
          replace y3 := (HBB.out.cell (World.block_lt_of_cell? _ _ y3)).trans y3
          have I1 : Aside0 (NextW wo.heap.size wo wr) := ⟨⟨HBB.out,HBB.out.size⟩⟩
          generalize hp : (atL C j).1 = p at *
          have HPE := Aside0.mk hp
          obtain ⟨pa,pb,pc,pd⟩ := p
          clear hp ep ej HBB
          have g1 : decide ((j : Int) < (m : Int)) = true := decide_eq_true (by omega)
          have g2 : decide (j < m) = true := decide_eq_true hjm
          have p0 : (0 : Int) ≤ (j : Int) := by omega
          have p1 : (j : Int) < (m : Int) := by omega
          have p2 : (0 : Int) ≤ (i : Int) := by omega
          have p3 : (i : Int) < (n : Int) := by omega
          go_wp2_with (fail)
          go_region_held3 (fun w' => w'.cell? (ad1.add (j * 4)) = some (.string pa) ∧ w'.cell? ⟨(ad1.add (j * 4)).block,(ad1.add (j * 4)).off + 1,none⟩ = some (.string pb) ∧ w'.cell? ⟨(ad1.add (j * 4)).block,(ad1.add (j * 4)).off + 2,none⟩ = some (.int .i64 pc) ∧ w'.cell? ⟨(ad1.add (j * 4)).block,(ad1.add (j * 4)).off + 3,none⟩ = some (.int .i64 pd) ∧ w'.cell? (ad2.add (i * 4)) = some (.string ya) ∧ w'.cell? ⟨(ad2.add (i * 4)).block,(ad2.add (i * 4)).off + 1,none⟩ = some (.string yb) ∧ w'.cell? ⟨(ad2.add (i * 4)).block,(ad2.add (i * 4)).off + 2,none⟩ = some (.int .i64 yc) ∧ w'.cell? ⟨(ad2.add (i * 4)).block,(ad2.add (i * 4)).off + 3,none⟩ = some (.int .i64 yd)) (first | go_keep | exact ⟨by assumption,by assumption,by assumption,by assumption,by assumption,by assumption,by assumption,by assumption⟩) (first | (go_at_call 31;first | ((with_reducible refine (ref_share pa pb pc pd _).mono ?_);rintro e w2 ⟨rp,rfl,hrp,hb1⟩;replace x0 := (hb1.cell (World.block_lt_of_cell? _ _ x0)).trans x0;replace x1 := (hb1.cell (World.block_lt_of_cell? _ _ x1)).trans x1;replace x2 := (hb1.cell (World.block_lt_of_cell? _ _ x2)).trans x2;replace x3 := (hb1.cell (World.block_lt_of_cell? _ _ x3)).trans x3;replace y0 := (hb1.cell (World.block_lt_of_cell? _ _ y0)).trans y0;replace y1 := (hb1.cell (World.block_lt_of_cell? _ _ y1)).trans y1;replace y2 := (hb1.cell (World.block_lt_of_cell? _ _ y2)).trans y2;replace y3 := (hb1.cell (World.block_lt_of_cell? _ _ y3)).trans y3;have I2 := Aside0.mk (I1.out.next hb1);clear I1;have I1 := I2;clear I2 hb1) | ((with_reducible refine (ref_share ya yb yc yd _).mono ?_);rintro e w2 ⟨ry,rfl,hry,hb1⟩;replace x0 := (hb1.cell (World.block_lt_of_cell? _ _ x0)).trans x0;replace x1 := (hb1.cell (World.block_lt_of_cell? _ _ x1)).trans x1;replace x2 := (hb1.cell (World.block_lt_of_cell? _ _ x2)).trans x2;replace x3 := (hb1.cell (World.block_lt_of_cell? _ _ x3)).trans x3;replace y0 := (hb1.cell (World.block_lt_of_cell? _ _ y0)).trans y0;replace y1 := (hb1.cell (World.block_lt_of_cell? _ _ y1)).trans y1;replace y2 := (hb1.cell (World.block_lt_of_cell? _ _ y2)).trans y2;replace y3 := (hb1.cell (World.block_lt_of_cell? _ _ y3)).trans y3;have I2 := Aside0.mk (I1.out.next hb1);clear I1;have I1 := I2;clear I2 hb1)) | (go_at_call 35;(with_reducible refine (ref_compare rp ry hrp.lt hry.lt _).mono ?_);rintro e w' ⟨rfl,rfl⟩))
          rw [cmpF_shr hrp hry]
          have I2 := Aside0.mk I1.out.below
          clear I1 x0 x1 x2 x3 y0 y1 y2 y3 hrp hry
          by_cases hv : cmpF (shrQ pc pd) (shrQ yc yd) < 0
          · have c0 : decide (0 ≤ cmpF (shrQ pc pd) (shrQ yc yd)) = false := decide_eq_false (by omega)
            have c1 := hv
            have NX := Aside0.mk (HS.out.insert HX.out (Nat.le_of_lt QM.out) (fun k hk => by have := HJ.out k hk;show ¬ cmpF _ (shrQ yc yd) < 0;omega) (.inr (by rw [HPE.out];exact hv)))
            have HT := Aside0.mk (show Kd.C k45 w2 (some ad1) j ((C.map Prod.fst).take j) by
              have h := Kd.C_take (Kd.C_below HRD.out I2.out) (m := j) (by have := HM.out;omega)
              rwa [show ((C.map Prod.fst).take j).length = j by rw [List.length_take];have := HM.out;omega] at h)
            have HB3 := Aside0.mk (HB.out.trans (I2.out.mono HB.out.size))
            have jco : j < co := by have := HCO.out;omega
            have jc1 : ¬ co = j := by omega
            have jc2 : ¬ co - j = 0 := by omega
            have HDR : Aside0 (∀ w4,Below w2.heap.size w2 w4 → Kd.C k45 w4 (some (ad1.add (j * 4))) (m - j) ((C.map Prod.fst).drop j)) := ⟨fun w4 hb => by
              have h := Kd.C_drop (c := co) (Kd.C_below (Kd.C_below HRD.out I2.out) hb) (m := j) (by have := HM.out;omega) (by have := HM.out;have := HCO.out;omega)
              rw [if_neg jc1] at h
              rwa [show ((C.map Prod.fst).drop j).length = m - j by rw [List.length_drop];have := HM.out;omega] at h⟩
            clear HPE HJ hv
            go_wp2_with (first | ((with_reducible refine gate_builtin (b := .append) (xs := #[.tmp 33,.tmp 36]) rfl ?_);at_builtin;refine Kd.R_append_rows k45 (w0 := w) w.heap.size rfl (.tmp 33) (.tmp 36) 53 45 (.agg #[(.string ⟨#[]⟩),(.string ⟨#[]⟩),(.int .i64 0),(.int .i64 0)]) 48 rfl Try.underlying53 info45 rfl (by decide) (by omega) (.slice none 0 0) [] ((C.map Prod.fst).take j) (some ad1) j co (fun _ => True) (fun _ => False) rfl rfl (Kd.R_nil _ _ _ _ _) HT.out (fun x cs h => by rw [k45_open h];exact k45_mkM _ _ _ _) (fun _ h => h.elim) (fun _ _ => trivial) HB3.out HB3.out.size (by simp;omega) ?_;intro v1 w3 hv1 hb3 hg3 hat3;have V1 := Aside0.mk hv1;have B4 := Aside0.mk hb3;have G3 := Aside0.mk hg3;have AT3 := Aside0.mk hat3;obtain ⟨z0,z1,z2,z3⟩ := Y9.out;replace z0 := (hb3.cell (World.block_lt_of_cell? w _ z0)).trans z0;replace z1 := (hb3.cell (World.block_lt_of_cell? w _ z1)).trans z1;replace z2 := (hb3.cell (World.block_lt_of_cell? w _ z2)).trans z2;replace z3 := (hb3.cell (World.block_lt_of_cell? w _ z3)).trans z3;have ek : (i : Int).toNat = i := rfl;rw [ek] at z0 z1 z2 z3;clear hv1 hb3 hg3 hat3 ek) | ((with_reducible refine gate_builtin (b := .append) (xs := #[.tmp 38,.tmp 43]) rfl ?_);at_builtin;refine Kd.R_append k45 (w0 := w) w.heap.size rfl (.tmp 38) (.tmp 43) 53 45 (.agg #[(.string ⟨#[]⟩),(.string ⟨#[]⟩),(.int .i64 0),(.int .i64 0)]) 48 rfl Try.underlying53 info45 rfl (by decide) (by omega) v1 ([] ++ (C.map Prod.fst).take j) ⟨ya,yb,yc,yd⟩ [.string ya,.string yb,.int .i64 yc,.int .i64 yd] (fun _ => True) (fun _ => False) rfl rfl (k45_mkM _ _ _ _) (fun _ h => h.elim) (fun _ _ => trivial) V1.out B4.out B4.out.size (by simp;omega) ?_;intro v2 w4 hv1 hb3 hg3 hat3;have V2 := Aside0.mk hv1;have B5 := Aside0.mk hb3;have G4 := Aside0.mk hg3;have AT4 := Aside0.mk hat3;have HD := Aside0.mk (HDR.out w4 (fresh_below G3.out hg3 AT3.out));clear hv1 hb3 hg3 hat3 z0 z1 z2 z3) | ((with_reducible refine gate_builtin (b := .append) (xs := #[.tmp 45,.tmp 48]) rfl ?_);at_builtin;refine Kd.R_append_rows k45 (w0 := w) w.heap.size rfl (.tmp 45) (.tmp 48) 53 45 (.agg #[(.string ⟨#[]⟩),(.string ⟨#[]⟩),(.int .i64 0),(.int .i64 0)]) 48 rfl Try.underlying53 info45 rfl (by decide) (by omega) v2 (([] ++ (C.map Prod.fst).take j) ++ [⟨ya,yb,yc,yd⟩]) ((C.map Prod.fst).drop j) (some (ad1.add (j * 4))) (m - j) (co - j) (fun _ => True) (fun _ => False) rfl rfl V2.out HD.out (fun x cs h => by rw [k45_open h];exact k45_mkM _ _ _ _) (fun _ h => h.elim) (fun _ _ => trivial) B5.out B5.out.size (by simp;omega) ?_;intro v3 w5 hv1 hb3 hg3 hat3;have V3 := Aside0.mk hv1;have B6 := Aside0.mk hb3;clear hv1 hb3 hg3 hat3))
            go_roundw
            case rel => exact ⟨i + 1,C.take j ++ (⟨ya,yb,yc,yd⟩,i) :: C.drop j,by go_num,hlt,NX,⟨by have := V3.out;simpa [List.map_take,List.map_drop] using this⟩,B6⟩
            case measure => simp [intOf];omega
          · have c0 : decide (0 ≤ cmpF (shrQ pc pd) (shrQ yc yd)) = true := decide_eq_true (by omega)
            have c1 : 0 ≤ cmpF (shrQ pc pd) (shrQ yc yd) := by omega
            have HJ2 : Aside0 (∀ k,k < j + 1 → 0 ≤ cmpF (shrQ (atL C k).1.f2 (atL C k).1.f3) (shrQ yc yd)) := ⟨fun k hk => by
              rcases Nat.lt_or_ge k j with q | q
              · exact HJ.out k q
              · rw [show k = j by omega,HPE.out];exact c1⟩
            clear HPE HJ hv QM
            go_wp2_with (fail)
            go_roundw
            case rel => exact ⟨j + 1,by go_num,hjm,HJ2,I2⟩
            case measure => simp [intOf];omega
        · have jm : j = m := by omega
          have NX := Aside0.mk (HS.out.insert (j := j) HX.out (by have := HMC.out;omega) (fun k hk => by have := HJ.out k hk;show ¬ cmpF _ (shrQ yc yd) < 0;omega) (.inl (by have := HMC.out;omega)))
          have g1 : decide ((j : Int) < (m : Int)) = false := decide_eq_false (by omega)
          have g2 : decide (j < m) = false := decide_eq_false hjm
          have g3 : (m : Int) ≤ (j : Int) := by omega
          go_wp2_with (fail)
          go_quiet (fail)
          have I2 := Aside0.mk (show Below wo.heap.size wo (wr.drewN nq) from pw_below_drewN HBB.out nq)
          have HB3 := Aside0.mk (HB.out.trans (I2.out.mono HB.out.size))
          have HT := Aside0.mk (Kd.C_below HRD.out I2.out)
          rw [HM.out] at HT
          clear HBB g1 g2 g3
          generalize wr.drewN nq = w2 at *
          subst jm
          have jco : j ≤ co := HCO.out
          clear y0 y1 y2 y3 hj hjm
          by_cases hcj : co = j
          · subst hcj
            cases Ao with
            | none =>
              go_wp2_with (first | ((with_reducible refine gate_builtin (b := .append) (xs := #[.tmp 33,.tmp 36]) rfl ?_);at_builtin;refine Kd.R_append_rows k45 (w0 := w) w.heap.size rfl (.tmp 33) (.tmp 36) 53 45 (.agg #[(.string ⟨#[]⟩),(.string ⟨#[]⟩),(.int .i64 0),(.int .i64 0)]) 48 rfl Try.underlying53 info45 rfl (by decide) (by omega) (.slice none 0 0) [] (C.map Prod.fst) none co co (fun _ => True) (fun _ => False) rfl rfl (Kd.R_nil _ _ _ _ _) HT.out (fun x cs h => by rw [k45_open h];exact k45_mkM _ _ _ _) (fun _ h => h.elim) (fun _ _ => trivial) HB3.out HB3.out.size (by have := HMC.out;simp;omega) ?_;intro v1 w3 hv1 hb3 hg3 hat3;have V1 := Aside0.mk hv1;have B4 := Aside0.mk hb3;have G3 := Aside0.mk hg3;have AT3 := Aside0.mk hat3;obtain ⟨z0,z1,z2,z3⟩ := Y9.out;replace z0 := (hb3.cell (World.block_lt_of_cell? w _ z0)).trans z0;replace z1 := (hb3.cell (World.block_lt_of_cell? w _ z1)).trans z1;replace z2 := (hb3.cell (World.block_lt_of_cell? w _ z2)).trans z2;replace z3 := (hb3.cell (World.block_lt_of_cell? w _ z3)).trans z3;have ek : (i : Int).toNat = i := rfl;rw [ek] at z0 z1 z2 z3;clear hv1 hb3 hg3 hat3 ek) | ((with_reducible refine gate_builtin (b := .append) (xs := #[.tmp 38,.tmp 43]) rfl ?_);at_builtin;refine Kd.R_append k45 (w0 := w) w.heap.size rfl (.tmp 38) (.tmp 43) 53 45 (.agg #[(.string ⟨#[]⟩),(.string ⟨#[]⟩),(.int .i64 0),(.int .i64 0)]) 48 rfl Try.underlying53 info45 rfl (by decide) (by omega) v1 ([] ++ C.map Prod.fst) ⟨ya,yb,yc,yd⟩ [.string ya,.string yb,.int .i64 yc,.int .i64 yd] (fun _ => True) (fun _ => False) rfl rfl (k45_mkM _ _ _ _) (fun _ h => h.elim) (fun _ _ => trivial) V1.out B4.out B4.out.size (by have := HMC.out;simp;omega) ?_;intro v2 w4 hv1 hb3 hg3 hat3;have V2 := Aside0.mk hv1;have B5 := Aside0.mk hb3;have G4 := Aside0.mk hg3;have AT4 := Aside0.mk hat3; clear hv1 hb3 hg3 hat3 z0 z1 z2 z3) | ((with_reducible refine gate_builtin (b := .append) (xs := #[.tmp 45,.tmp 48]) rfl ?_);at_builtin;refine Kd.R_append_rows k45 (w0 := w) w.heap.size rfl (.tmp 45) (.tmp 48) 53 45 (.agg #[(.string ⟨#[]⟩),(.string ⟨#[]⟩),(.int .i64 0),(.int .i64 0)]) 48 rfl Try.underlying53 info45 rfl (by decide) (by omega) v2 (([] ++ C.map Prod.fst) ++ [⟨ya,yb,yc,yd⟩]) [] _ 0 _ (fun _ => True) (fun _ => False) rfl rfl V2.out (C_zero _ _) (fun x cs h => by rw [k45_open h];exact k45_mkM _ _ _ _) (fun _ h => h.elim) (fun _ _ => trivial) B5.out B5.out.size (by have := HMC.out;simp;omega) ?_;intro v3 w5 hv1 hb3 hg3 hat3;have V3 := Aside0.mk hv1;have B6 := Aside0.mk hb3;clear hv1 hb3 hg3 hat3))
              go_roundw
              case rel => exact ⟨i + 1,C ++ [(⟨ya,yb,yc,yd⟩,i)],by go_num,hlt,⟨by have h := NX.out;rwa [show C.take co = C by rw [List.take_of_length_le];have := HMC.out;omega,show C.drop co = [] by rw [List.drop_eq_nil_iff];have := HMC.out;omega] at h⟩,⟨by have := V3.out;simpa using this⟩,B6⟩
              case measure => simp [intOf];omega
            | some ad1 =>
              go_wp2_with (first | ((with_reducible refine gate_builtin (b := .append) (xs := #[.tmp 33,.tmp 36]) rfl ?_);at_builtin;refine Kd.R_append_rows k45 (w0 := w) w.heap.size rfl (.tmp 33) (.tmp 36) 53 45 (.agg #[(.string ⟨#[]⟩),(.string ⟨#[]⟩),(.int .i64 0),(.int .i64 0)]) 48 rfl Try.underlying53 info45 rfl (by decide) (by omega) (.slice none 0 0) [] (C.map Prod.fst) (some ad1) co co (fun _ => True) (fun _ => False) rfl rfl (Kd.R_nil _ _ _ _ _) HT.out (fun x cs h => by rw [k45_open h];exact k45_mkM _ _ _ _) (fun _ h => h.elim) (fun _ _ => trivial) HB3.out HB3.out.size (by have := HMC.out;simp;omega) ?_;intro v1 w3 hv1 hb3 hg3 hat3;have V1 := Aside0.mk hv1;have B4 := Aside0.mk hb3;have G3 := Aside0.mk hg3;have AT3 := Aside0.mk hat3;obtain ⟨z0,z1,z2,z3⟩ := Y9.out;replace z0 := (hb3.cell (World.block_lt_of_cell? w _ z0)).trans z0;replace z1 := (hb3.cell (World.block_lt_of_cell? w _ z1)).trans z1;replace z2 := (hb3.cell (World.block_lt_of_cell? w _ z2)).trans z2;replace z3 := (hb3.cell (World.block_lt_of_cell? w _ z3)).trans z3;have ek : (i : Int).toNat = i := rfl;rw [ek] at z0 z1 z2 z3;clear hv1 hb3 hg3 hat3 ek) | ((with_reducible refine gate_builtin (b := .append) (xs := #[.tmp 38,.tmp 43]) rfl ?_);at_builtin;refine Kd.R_append k45 (w0 := w) w.heap.size rfl (.tmp 38) (.tmp 43) 53 45 (.agg #[(.string ⟨#[]⟩),(.string ⟨#[]⟩),(.int .i64 0),(.int .i64 0)]) 48 rfl Try.underlying53 info45 rfl (by decide) (by omega) v1 ([] ++ C.map Prod.fst) ⟨ya,yb,yc,yd⟩ [.string ya,.string yb,.int .i64 yc,.int .i64 yd] (fun _ => True) (fun _ => False) rfl rfl (k45_mkM _ _ _ _) (fun _ h => h.elim) (fun _ _ => trivial) V1.out B4.out B4.out.size (by have := HMC.out;simp;omega) ?_;intro v2 w4 hv1 hb3 hg3 hat3;have V2 := Aside0.mk hv1;have B5 := Aside0.mk hb3;have G4 := Aside0.mk hg3;have AT4 := Aside0.mk hat3; clear hv1 hb3 hg3 hat3 z0 z1 z2 z3) | ((with_reducible refine gate_builtin (b := .append) (xs := #[.tmp 45,.tmp 48]) rfl ?_);at_builtin;refine Kd.R_append_rows k45 (w0 := w) w.heap.size rfl (.tmp 45) (.tmp 48) 53 45 (.agg #[(.string ⟨#[]⟩),(.string ⟨#[]⟩),(.int .i64 0),(.int .i64 0)]) 48 rfl Try.underlying53 info45 rfl (by decide) (by omega) v2 (([] ++ C.map Prod.fst) ++ [⟨ya,yb,yc,yd⟩]) [] _ 0 _ (fun _ => True) (fun _ => False) rfl rfl V2.out (C_zero _ _) (fun x cs h => by rw [k45_open h];exact k45_mkM _ _ _ _) (fun _ h => h.elim) (fun _ _ => trivial) B5.out B5.out.size (by have := HMC.out;simp;omega) ?_;intro v3 w5 hv1 hb3 hg3 hat3;have V3 := Aside0.mk hv1;have B6 := Aside0.mk hb3;clear hv1 hb3 hg3 hat3))
              go_roundw
              case rel => exact ⟨i + 1,C ++ [(⟨ya,yb,yc,yd⟩,i)],by go_num,hlt,⟨by have h := NX.out;rwa [show C.take co = C by rw [List.take_of_length_le];have := HMC.out;omega,show C.drop co = [] by rw [List.drop_eq_nil_iff];have := HMC.out;omega] at h⟩,⟨by have := V3.out;simpa using this⟩,B6⟩
              case measure => simp [intOf];omega
          · have jc2 : ¬ co - j = 0 := by omega
            have jc3 : j < co := by omega
            cases Ao with
            | none =>
              go_wp2_with (first | ((with_reducible refine gate_builtin (b := .append) (xs := #[.tmp 33,.tmp 36]) rfl ?_);at_builtin;refine Kd.R_append_rows k45 (w0 := w) w.heap.size rfl (.tmp 33) (.tmp 36) 53 45 (.agg #[(.string ⟨#[]⟩),(.string ⟨#[]⟩),(.int .i64 0),(.int .i64 0)]) 48 rfl Try.underlying53 info45 rfl (by decide) (by omega) (.slice none 0 0) [] (C.map Prod.fst) none j co (fun _ => True) (fun _ => False) rfl rfl (Kd.R_nil _ _ _ _ _) HT.out (fun x cs h => by rw [k45_open h];exact k45_mkM _ _ _ _) (fun _ h => h.elim) (fun _ _ => trivial) HB3.out HB3.out.size (by have := HMC.out;simp;omega) ?_;intro v1 w3 hv1 hb3 hg3 hat3;have V1 := Aside0.mk hv1;have B4 := Aside0.mk hb3;have G3 := Aside0.mk hg3;have AT3 := Aside0.mk hat3;obtain ⟨z0,z1,z2,z3⟩ := Y9.out;replace z0 := (hb3.cell (World.block_lt_of_cell? w _ z0)).trans z0;replace z1 := (hb3.cell (World.block_lt_of_cell? w _ z1)).trans z1;replace z2 := (hb3.cell (World.block_lt_of_cell? w _ z2)).trans z2;replace z3 := (hb3.cell (World.block_lt_of_cell? w _ z3)).trans z3;have ek : (i : Int).toNat = i := rfl;rw [ek] at z0 z1 z2 z3;clear hv1 hb3 hg3 hat3 ek) | ((with_reducible refine gate_builtin (b := .append) (xs := #[.tmp 38,.tmp 43]) rfl ?_);at_builtin;refine Kd.R_append k45 (w0 := w) w.heap.size rfl (.tmp 38) (.tmp 43) 53 45 (.agg #[(.string ⟨#[]⟩),(.string ⟨#[]⟩),(.int .i64 0),(.int .i64 0)]) 48 rfl Try.underlying53 info45 rfl (by decide) (by omega) v1 ([] ++ C.map Prod.fst) ⟨ya,yb,yc,yd⟩ [.string ya,.string yb,.int .i64 yc,.int .i64 yd] (fun _ => True) (fun _ => False) rfl rfl (k45_mkM _ _ _ _) (fun _ h => h.elim) (fun _ _ => trivial) V1.out B4.out B4.out.size (by have := HMC.out;simp;omega) ?_;intro v2 w4 hv1 hb3 hg3 hat3;have V2 := Aside0.mk hv1;have B5 := Aside0.mk hb3;have G4 := Aside0.mk hg3;have AT4 := Aside0.mk hat3; clear hv1 hb3 hg3 hat3 z0 z1 z2 z3) | ((with_reducible refine gate_builtin (b := .append) (xs := #[.tmp 45,.tmp 48]) rfl ?_);at_builtin;refine Kd.R_append_rows k45 (w0 := w) w.heap.size rfl (.tmp 45) (.tmp 48) 53 45 (.agg #[(.string ⟨#[]⟩),(.string ⟨#[]⟩),(.int .i64 0),(.int .i64 0)]) 48 rfl Try.underlying53 info45 rfl (by decide) (by omega) v2 (([] ++ C.map Prod.fst) ++ [⟨ya,yb,yc,yd⟩]) [] _ 0 _ (fun _ => True) (fun _ => False) rfl rfl V2.out (C_zero _ _) (fun x cs h => by rw [k45_open h];exact k45_mkM _ _ _ _) (fun _ h => h.elim) (fun _ _ => trivial) B5.out B5.out.size (by have := HMC.out;simp;omega) ?_;intro v3 w5 hv1 hb3 hg3 hat3;have V3 := Aside0.mk hv1;have B6 := Aside0.mk hb3;clear hv1 hb3 hg3 hat3))
              go_roundw
              case rel => exact ⟨i + 1,C ++ [(⟨ya,yb,yc,yd⟩,i)],by go_num,hlt,⟨by have h := NX.out;rwa [show C.take j = C by rw [List.take_of_length_le];have := HMC.out;omega,show C.drop j = [] by rw [List.drop_eq_nil_iff];have := HMC.out;omega] at h⟩,⟨by have := V3.out;simpa using this⟩,B6⟩
              case measure => simp [intOf];omega
            | some ad1 =>
              go_wp2_with (first | ((with_reducible refine gate_builtin (b := .append) (xs := #[.tmp 33,.tmp 36]) rfl ?_);at_builtin;refine Kd.R_append_rows k45 (w0 := w) w.heap.size rfl (.tmp 33) (.tmp 36) 53 45 (.agg #[(.string ⟨#[]⟩),(.string ⟨#[]⟩),(.int .i64 0),(.int .i64 0)]) 48 rfl Try.underlying53 info45 rfl (by decide) (by omega) (.slice none 0 0) [] (C.map Prod.fst) (some ad1) j co (fun _ => True) (fun _ => False) rfl rfl (Kd.R_nil _ _ _ _ _) HT.out (fun x cs h => by rw [k45_open h];exact k45_mkM _ _ _ _) (fun _ h => h.elim) (fun _ _ => trivial) HB3.out HB3.out.size (by have := HMC.out;simp;omega) ?_;intro v1 w3 hv1 hb3 hg3 hat3;have V1 := Aside0.mk hv1;have B4 := Aside0.mk hb3;have G3 := Aside0.mk hg3;have AT3 := Aside0.mk hat3;obtain ⟨z0,z1,z2,z3⟩ := Y9.out;replace z0 := (hb3.cell (World.block_lt_of_cell? w _ z0)).trans z0;replace z1 := (hb3.cell (World.block_lt_of_cell? w _ z1)).trans z1;replace z2 := (hb3.cell (World.block_lt_of_cell? w _ z2)).trans z2;replace z3 := (hb3.cell (World.block_lt_of_cell? w _ z3)).trans z3;have ek : (i : Int).toNat = i := rfl;rw [ek] at z0 z1 z2 z3;clear hv1 hb3 hg3 hat3 ek) | ((with_reducible refine gate_builtin (b := .append) (xs := #[.tmp 38,.tmp 43]) rfl ?_);at_builtin;refine Kd.R_append k45 (w0 := w) w.heap.size rfl (.tmp 38) (.tmp 43) 53 45 (.agg #[(.string ⟨#[]⟩),(.string ⟨#[]⟩),(.int .i64 0),(.int .i64 0)]) 48 rfl Try.underlying53 info45 rfl (by decide) (by omega) v1 ([] ++ C.map Prod.fst) ⟨ya,yb,yc,yd⟩ [.string ya,.string yb,.int .i64 yc,.int .i64 yd] (fun _ => True) (fun _ => False) rfl rfl (k45_mkM _ _ _ _) (fun _ h => h.elim) (fun _ _ => trivial) V1.out B4.out B4.out.size (by have := HMC.out;simp;omega) ?_;intro v2 w4 hv1 hb3 hg3 hat3;have V2 := Aside0.mk hv1;have B5 := Aside0.mk hb3;have G4 := Aside0.mk hg3;have AT4 := Aside0.mk hat3; clear hv1 hb3 hg3 hat3 z0 z1 z2 z3) | ((with_reducible refine gate_builtin (b := .append) (xs := #[.tmp 45,.tmp 48]) rfl ?_);at_builtin;refine Kd.R_append_rows k45 (w0 := w) w.heap.size rfl (.tmp 45) (.tmp 48) 53 45 (.agg #[(.string ⟨#[]⟩),(.string ⟨#[]⟩),(.int .i64 0),(.int .i64 0)]) 48 rfl Try.underlying53 info45 rfl (by decide) (by omega) v2 (([] ++ C.map Prod.fst) ++ [⟨ya,yb,yc,yd⟩]) [] _ 0 _ (fun _ => True) (fun _ => False) rfl rfl V2.out (C_zero _ _) (fun x cs h => by rw [k45_open h];exact k45_mkM _ _ _ _) (fun _ h => h.elim) (fun _ _ => trivial) B5.out B5.out.size (by have := HMC.out;simp;omega) ?_;intro v3 w5 hv1 hb3 hg3 hat3;have V3 := Aside0.mk hv1;have B6 := Aside0.mk hb3;clear hv1 hb3 hg3 hat3))
              go_roundw
              case rel => exact ⟨i + 1,C ++ [(⟨ya,yb,yc,yd⟩,i)],by go_num,hlt,⟨by have h := NX.out;rwa [show C.take j = C by rw [List.take_of_length_le];have := HMC.out;omega,show C.drop j = [] by rw [List.drop_eq_nil_iff];have := HMC.out;omega] at h⟩,⟨by have := V3.out;simpa using this⟩,B6⟩
              case measure => simp [intOf];omega
    · have b5 : n ≤ i := by omega
      have FIN := Aside0.mk (show Ranked l C by have h := HS.out;rw [show i = l.length by have := HL.out;omega] at h;exact h.done)
      clear hm
      go_wp2_with (fail)
      go_ret
      exact ⟨_,C,rfl,FIN.out,HV.out,HB.out⟩
end Go.Proofs.Ytcenlehfbgnphaa.Z
end
section
namespace Go.Proofs.Ytcenlehfbgnphaa.Z
open Go.RowKit Go.Proofs.YtcenlehfbgnphaaW.PrintWords Go.Proofs.YtcenlehfbgnphaaW.PrintLast Go.Proofs.YtcenlehfbgnphaaW.PrintMore
attribute [local go_sem] max2_int min2_int max_two min_two max_three min_three max_four min_four
set_option linter.unusedVariables false
set_option linter.unusedSimpArgs false
theorem eqA45 (d : Nat) (w : World) (x0 y0 : ByteArray) (x1 y1 : ByteArray) (x2 y2 : Int) (x3 y3 : Int) :
    (Op.equalIn (d + 2) 45 (.agg #[.string x0,.string x1,.int .i64 x2,.int .i64 x3]) (.agg #[.string y0,.string y1,.int .i64 y2,.int .i64 y3])).run Try.prog w = .ok (x0.toList == y0.toList && (x1.toList == y1.toList && (x2 == y2 && (x3 == y3)))) w := by
  refine eqA_of Try.underlying45 (by kernel_rfl) ?_
  refine eqf_cons (by rfl) (by go_simp;rfl) (by go_simp;rfl) (by go_simp) ?_
  refine eqf_cons (by rfl) (by go_simp;rfl) (by go_simp;rfl) (by go_simp) ?_
  refine eqf_cons (by rfl) (by go_simp;rfl) (by go_simp;rfl) (by go_simp) ?_
  exact eqf_last (by rfl) (by go_simp;rfl) (by go_simp;rfl) (by go_simp)
end Go.Proofs.Ytcenlehfbgnphaa.Z
end
section
namespace Go.Proofs.Ytcenlehfbgnphaa.Z
open Go.RowKit Go.Proofs.YtcenlehfbgnphaaW.PrintWords Go.Proofs.YtcenlehfbgnphaaW.PrintLast Go.Proofs.YtcenlehfbgnphaaW.PrintMore
attribute [local go_sem] max2_int min2_int max_two min_two max_three min_three max_four min_four
set_option linter.unusedVariables false
set_option linter.unusedSimpArgs false
attribute [local go_sem high] eqA45
def verdererref27_Same.l0 : Nat → List (S45) → List (S45) → Int → Option (Bool)
  | 0,_,_,_ => none
  | k + 1,x0,x1,x5 => if x5 < (x0.length : Int) then (if 0 ≤ x5 then (if x5 < (x1.length : Int) then (if (!((((rd_T45 x0 x5).f0).toList) == (((rd_T45 x1 x5).f0).toList)) || (!((((rd_T45 x0 x5).f1).toList) == (((rd_T45 x1 x5).f1).toList)) || (!(((rd_T45 x0 x5).f2) == ((rd_T45 x1 x5).f2)) || (!(((rd_T45 x0 x5).f3) == ((rd_T45 x1 x5).f3)))))) = true then (some false) else (verdererref27_Same.l0 k x0 x1 (wrap64 (x5 + 1)))) else (none)) else (none)) else (some true)
def verdererref27_Same.f (k : Nat) (l0 : List (S45)) (l1 : List (S45)) : Option (Bool) := if (l0.length : Int) = (l1.length : Int) then (verdererref27_Same.l0 k l0 l1 0) else (some false)
theorem verdererref27_Same.mono_l : ∀ k,(∀ y0 y1 y2,LeO (verdererref27_Same.l0 k y0 y1 y2) (verdererref27_Same.l0 (k + 1) y0 y1 y2))
  | 0 => fun _ _ _ r h => by simp [verdererref27_Same.l0] at h
  | k + 1 => by
    have ih0 := verdererref27_Same.mono_l k
    · intro y0 y1 y2
      unfold verdererref27_Same.l0
      repeat' first
      | (with_reducible exact ih0 _ _ _)
      | (with_reducible exact LeO.refl _)
      | (with_reducible exact LeO.none _)
      | (with_reducible refine LeO.ite ?_ ?_)
      | (with_reducible refine LeO.bind ?_ (fun _ => ?_))
      | exact ih0 _ _ _
      | exact LeO.none _
      | refine LeO.ite ?_ ?_
      | refine LeO.bind ?_ (fun _ => ?_)
theorem verdererref27_Same.mono : ∀ a0 a1 k,LeO (verdererref27_Same.f k a0 a1) (verdererref27_Same.f (k + 1) a0 a1) := by
  intro a0 a1 k
  have ih0 := verdererref27_Same.mono_l k
  unfold verdererref27_Same.f
  repeat' first
      | (with_reducible exact ih0 _ _ _)
      | (with_reducible exact LeO.refl _)
      | (with_reducible exact LeO.none _)
      | (with_reducible refine LeO.ite ?_ ?_)
      | (with_reducible refine LeO.bind ?_ (fun _ => ?_))
      | exact ih0 _ _ _
      | exact LeO.none _
      | refine LeO.ite ?_ ?_
      | refine LeO.bind ?_ (fun _ => ?_)
set_option maxHeartbeats 8000000 in
set_option maxRecDepth 100000 in
theorem verdererref27_Same.calls (k : Nat) (A0 : Option Addr) (c0 : Nat) (l0 : List (S45)) (A1 : Option Addr) (c1 : Nat) (l1 : List (S45)) (r : Bool) (w : World) (hr0 : Kd.C k45 w A0 l0.length l0) (hc0 : l0.length ≤ c0) (hr1 : Kd.C k45 w A1 l1.length l1) (hc1 : l1.length ≤ c1) (h : verdererref27_Same.f k l0 l1 = some r) :
    Calls Try.prog 38 #[.slice A0 l0.length c0,.slice A1 l1.length c1] w fun e w' => e = .returned (.bool r) ∧ Drawn0 w w' := by
  have hu45 := Try.underlying45
  have HR0 := Aside0.mk hr0
  have HC0 := Aside0.mk hc0
  clear hr0 hc0
  have HR1 := Aside0.mk hr1
  have HC1 := Aside0.mk hc1
  clear hr1 hc1
  have H : (if (l0.length : Int) = (l1.length : Int) then (verdererref27_Same.l0 k l0 l1 0) else (some false)) = some r := h
  clear h
  by_cases c3 : (l0.length : Int) = (l1.length : Int)
  · rw [if_pos c3] at H
    have c3b0 : ((l0.length : Int) == (l1.length : Int)) = true := beq_iff_eq.mpr c3
    have c3b1 : ((l0.length : Int) != (l1.length : Int)) = false := bne_eq_false_iff_eq.mpr c3
    have c3b2 : (l0.length == l1.length) = true := by first | simpa using c3 | (simp at c3 ⊢;omega)
    clear c3
    have H' := Aside0.mk H
    clear H
    go_enter Try.func38,Try.ntmps38
    go_wp2
    repeat (go_quiet (fail);try go_wp2)
    go_loopg [5] k (fun kq v5 w' => ∃ (x5_1 : Int),v5 = .int .i64 x5_1 ∧ Aside0 (verdererref27_Same.l0 kq l0 l1 x5_1 = some r) ∧ Aside0 (kq ≤ k) ∧ Drawn0 w w')
    case atStart => exact ⟨(0),(by first | rfl | (simp;done) | (simp [*];done)),H',⟨Nat.le_refl _⟩,by repeat (first | exact Drawn0.refl _ | apply Drawn0.step)⟩
    case round =>
      clear H'
      try clear c1
      try clear p2
      try clear c3
      try clear c3b0
      try clear c3b1
      try clear c3b2
      obtain ⟨x5_1,rfl,HA,HK1,⟨m1,rfl⟩⟩ := hrel
      cases gk with
      | zero => exact absurd HA.out (by simp [verdererref27_Same.l0])
      | succ k1 =>
        have H := HA.out
        clear HA
        simp only [verdererref27_Same.l0] at H
        by_cases c4 : x5_1 < (l0.length : Int)
        · rw [if_pos c4] at H
          have c4b0 : decide (x5_1 < (l0.length : Int)) = true := decide_eq_true c4
          clear c4
          by_cases c5 : 0 ≤ x5_1
          · rw [if_pos c5] at H
            have c5b0 : decide (0 ≤ x5_1) = true := decide_eq_true c5
            clear c5
            by_cases c6 : x5_1 < (l1.length : Int)
            · rw [if_pos c6] at H
              have c6b0 : decide (x5_1 < (l1.length : Int)) = true := decide_eq_true c6
              clear c6
              by_cases c7 : (!((((rd_T45 l0 x5_1).f0).toList) == (((rd_T45 l1 x5_1).f0).toList)) || (!((((rd_T45 l0 x5_1).f1).toList) == (((rd_T45 l1 x5_1).f1).toList)) || (!(((rd_T45 l0 x5_1).f2) == ((rd_T45 l1 x5_1).f2)) || (!(((rd_T45 l0 x5_1).f3) == ((rd_T45 l1 x5_1).f3)))))) = true
              · rw [if_pos c7] at H
                have c7b0 : (!((((rd_T45 l0 x5_1).f0).toList) == (((rd_T45 l1 x5_1).f0).toList)) || (!((((rd_T45 l0 x5_1).f1).toList) == (((rd_T45 l1 x5_1).f1).toList)) || (!(((rd_T45 l0 x5_1).f2) == ((rd_T45 l1 x5_1).f2)) || (!(((rd_T45 l0 x5_1).f3) == ((rd_T45 l1 x5_1).f3)))))) = true := c7
                clear c7
                obtain rfl := Option.some.inj H
                have p220 : 0 ≤ (x5_1 : Int) := of_decide_eq_true (by first | (with_reducible assumption) | assumption)
                have q220 : x5_1 < (l0.length : Int) := of_decide_eq_true (by first | (with_reducible assumption) | assumption)
                obtain ⟨ad220,e220,hx220_0,hx220_1,hx220_2,hx220_3⟩ := at_T45 HR0.out x5_1 p220 q220
                cases e220
                replace p220 := eq_true p220
                replace q220 := eq_true q220
                have p221 : 0 ≤ (x5_1 : Int) := of_decide_eq_true (by first | (with_reducible assumption) | assumption)
                have q221 : x5_1 < (l1.length : Int) := of_decide_eq_true (by first | (with_reducible assumption) | assumption)
                obtain ⟨ad221,e221,hx221_0,hx221_1,hx221_2,hx221_3⟩ := at_T45 HR1.out x5_1 p221 q221
                cases e221
                replace p221 := eq_true p221
                replace q221 := eq_true q221
                go_wp2
                repeat (go_quiet (fail);try go_wp2)
                go_ret
                exact ⟨by first | rfl | (simp;done) | (simp [*];done),by repeat (first | exact Drawn0.refl _ | apply Drawn0.step)⟩
              · rw [if_neg c7] at H
                have c7b0 : (!((((rd_T45 l0 x5_1).f0).toList) == (((rd_T45 l1 x5_1).f0).toList)) || (!((((rd_T45 l0 x5_1).f1).toList) == (((rd_T45 l1 x5_1).f1).toList)) || (!(((rd_T45 l0 x5_1).f2) == ((rd_T45 l1 x5_1).f2)) || (!(((rd_T45 l0 x5_1).f3) == ((rd_T45 l1 x5_1).f3)))))) = false := by simpa using c7
                clear c7
                have H' := Aside0.mk H
                clear H
                have p220 : 0 ≤ (x5_1 : Int) := of_decide_eq_true (by first | (with_reducible assumption) | assumption)
                have q220 : x5_1 < (l0.length : Int) := of_decide_eq_true (by first | (with_reducible assumption) | assumption)
                obtain ⟨ad220,e220,hx220_0,hx220_1,hx220_2,hx220_3⟩ := at_T45 HR0.out x5_1 p220 q220
                cases e220
                replace p220 := eq_true p220
                replace q220 := eq_true q220
                have p221 : 0 ≤ (x5_1 : Int) := of_decide_eq_true (by first | (with_reducible assumption) | assumption)
                have q221 : x5_1 < (l1.length : Int) := of_decide_eq_true (by first | (with_reducible assumption) | assumption)
                obtain ⟨ad221,e221,hx221_0,hx221_1,hx221_2,hx221_3⟩ := at_T45 HR1.out x5_1 p221 q221
                cases e221
                replace p221 := eq_true p221
                replace q221 := eq_true q221
                go_wp2
                repeat (go_quiet (fail);try go_wp2)
                go_roundg k1
                case measure => have := HK1.out;omega
                case rel => exact ⟨(wrap64 (x5_1 + 1)),(by first | rfl | (simp;done) | (simp [*];done)),H',⟨by have := HK1.out;omega⟩,by repeat (first | exact Drawn0.refl _ | apply Drawn0.step)⟩
            · rw [if_neg c6] at H
              exact absurd H (by simp)
          · rw [if_neg c5] at H
            exact absurd H (by simp)
        · rw [if_neg c4] at H
          have c4b0 : decide (x5_1 < (l0.length : Int)) = false := decide_eq_false c4
          clear c4
          obtain rfl := Option.some.inj H
          go_wp2
          repeat (go_quiet (fail);try go_wp2)
          go_ret
          exact ⟨by first | rfl | (simp;done) | (simp [*];done),by repeat (first | exact Drawn0.refl _ | apply Drawn0.step)⟩
  · rw [if_neg c3] at H
    have c3b0 : ((l0.length : Int) == (l1.length : Int)) = false := beq_eq_false_iff_ne.mpr c3
    have c3b1 : ((l0.length : Int) != (l1.length : Int)) = true := bne_iff_ne.mpr c3
    have c3b2 : (l0.length == l1.length) = false := by first | simpa using c3 | (simp at c3 ⊢;omega)
    obtain rfl := Option.some.inj H
    go_enter Try.func38,Try.ntmps38
    go_wp2
    repeat (go_quiet (fail);try go_wp2)
    go_ret
    exact ⟨by first | rfl | (simp;done) | (simp [*];done),by repeat (first | exact Drawn0.refl _ | apply Drawn0.step)⟩
end Go.Proofs.Ytcenlehfbgnphaa.Z
end
section
namespace Go.Proofs.Ytcenlehfbgnphaa.Z
set_option linter.unusedVariables false
set_option linter.unusedSimpArgs false
set_option linter.unnecessarySimpa false
open Go.RowKit Go.Proofs.YtcenlehfbgnphaaW.PrintWords Go.Proofs.YtcenlehfbgnphaaW.PrintLast Go.Proofs.YtcenlehfbgnphaaW.PrintMore
theorem same_l0 (l : List S45) (hl : l.length ≤ 1000000) : ∀ d i k,l.length - i = d → i ≤ l.length → d < k → verdererref27_Same.l0 k l l (i : Int) = some true := by
  intro d
  induction d with
  | zero =>
    intro i k hd hi hk
    obtain ⟨k,rfl⟩ : ∃ m,k = m + 1 := ⟨k - 1,by omega⟩
    simp only [verdererref27_Same.l0]
    rw [if_neg (by omega)]
  | succ d ih =>
    intro i k hd hi hk
    obtain ⟨k,rfl⟩ : ∃ m,k = m + 1 := ⟨k - 1,by omega⟩
    simp only [verdererref27_Same.l0]
    rw [if_pos (by omega),if_pos (by omega),if_pos (by omega),if_neg (by simp),show wrap64 ((i : Int) + 1) = ((i + 1 : Nat) : Int) by unfold wrap64;omega]
    exact ih (i + 1) k (by omega) (by omega) (by omega)
theorem same_f (l : List S45) (hl : l.length ≤ 1000000) : verdererref27_Same.f (l.length + 1) l l = some true := by
  unfold verdererref27_Same.f
  rw [if_pos rfl]
  exact same_l0 l hl l.length 0 (l.length + 1) (by omega) (by omega) (by omega)
theorem same_at (A1 A2 : Option Addr) (n c1 c2 : Nat) (L : List S45) (w : World) (h1 : Kd.C k45 w A1 n L) (h2 : Kd.C k45 w A2 n L) (hc1 : n ≤ c1) (hc2 : n ≤ c2) (hn : n ≤ 1000000) :
    Calls Try.prog 38 #[.slice A1 n c1,.slice A2 n c2] w fun e w' => e = .returned (.bool true) ∧ Below w.heap.size w w' := by
  have e : L.length = n := h1.1
  subst e
  refine (verdererref27_Same.calls (L.length + 1) A1 c1 L A2 c2 L true w h1 hc1 h2 hc2 (same_f L hn)).mono ?_
  rintro e w' ⟨rfl,hd⟩
  exact ⟨rfl,hd.below⟩
theorem ref_same_at (a b : Nat) (ha : a < 2 ^ 64) (hb : b < 2 ^ 64) (h : cmpF a b = 0) (w : World) : Calls Try.prog 30 #[.float .f64 a,.float .f64 b] w fun e w' => e = .returned (.bool true) ∧ w = w' := by
  refine (ref_same a b ha hb w).mono ?_
  rintro e w' ⟨rfl,rfl⟩
  rw [h]
  exact ⟨rfl,rfl⟩
theorem NextW.at_ {N : Nat} {w w1 W : World} (h : NextW N w w1) (e : SameW w1 W := by exact ⟨rfl,rfl,rfl,rfl⟩) : Below N w W :=
  ⟨e.os.trans h.below.os,e.tape.trans h.below.tape,e.output.trans h.below.output,by rw [e.heap];exact h.below.size,fun k hk => by rw [e.heap];exact h.below.block k hk⟩
set_option maxHeartbeats 4000000 in
set_option maxRecDepth 100000 in
theorem rate_ranks (A : Option Addr) (n c : Nat) (l : List S45) (w : World) (hr : Kd.C k45 w A n l) : Calls Try.prog 9 #[.slice A n c] w fun e w' => e = .returned (.bool true) ∧ Below w.heap.size w w' := by
  have hl : l.length = n := hr.1
  by_cases h60 : 60 < n
  · have b0 : (60 : Int) < (n : Int) := by omega
    clear hr hl
    go_enter Try.func9,Try.ntmps9
    go_wp2_with (fail)
    refine (rate_known _).mono ?_
    rintro e w1 ⟨rfl,hb⟩
    go_wp2_with (fail)
    go_ret
    exact ⟨rfl,hb⟩
  · have HR := Aside0.mk hr
    have HL := Aside0.mk hl
    have b0 : decide ((60 : Int) < (n : Int)) = false := decide_eq_false (by omega)
    have b1 : n ≤ 60 := by omega
    have HN := Aside0.mk (show n ≤ 1000000 by omega)
    clear hr hl
    go_enter Try.func9,Try.ntmps9
    go_wp2_with (fail)
    refine (rank_any A n c l w HR.out HN.out).mono ?_
    rintro e w1 ⟨A1,cap,C,rfl,hcap,hR,hC,hb⟩
    have HC := Aside0.mk hC
    have R1 := Aside0.mk hR
    have CP := Aside0.mk hcap
    have B1 := Aside0.mk hb
    clear hcap hR hC hb
    go_wp2_with (fail)
    refine (ref_rank A n c l w1 (Kd.C_below HR.out B1.out) HN.out).mono ?_
    rintro e w2 ⟨v2,C2,rfl,hR,hv,hb⟩
    have e2 : C2 = C := hR.uniq R1.out
    subst e2
    have hlen : (C2.map Prod.fst).length = n := HC.out.1
    obtain ⟨A2,c2,rfl⟩ := Kd.R_slice hv
    have V2 := Aside0.mk (And.intro (Kd.R_reads' hv).2.1 (Kd.R_reads' hv).2.2)
    rw [hlen] at V2 ⊢
    clear hlen
    have B2 := Aside0.mk (B1.out.trans (hb.mono B1.out.size))
    have HC2 := Aside0.mk (Kd.C_below HC.out hb)
    clear hR hv hb B1 HC
    go_wp2_with (fail)
    refine (same_at A1 A2 n cap c2 (C2.map Prod.fst) _ HC2.out V2.out.2 CP.out V2.out.1 HN.out).mono ?_
    rintro e w3 ⟨rfl,hb⟩
    have B3 := Aside0.mk (B2.out.trans (hb.mono B2.out.size))
    have HC3 := Aside0.mk (Kd.C_below HC2.out hb)
    clear hb B2 HC2 V2
    go_wp2_with (fail)
    refine (rate_mean A n c l _ (Kd.C_below HR.out B3.out) HN.out).mono ?_
    rintro e w4 ⟨r,rfl,hr64,hsim,hb⟩
    have M4 := Aside0.mk (And.intro hr64 hsim)
    have B4 := Aside0.mk (B3.out.trans (hb.mono B3.out.size))
    have HC4 := Aside0.mk (Kd.C_below HC3.out hb)
    clear hb B3 HC3 hr64 hsim
    go_wp2_with (fail)
    refine (ref_mean A n c l _ (Kd.C_below HR.out B4.out) HN.out).mono ?_
    rintro e w5 ⟨s,rfl,hs64,hsim,hb⟩
    have M5 := Aside0.mk (And.intro hs64 hsim)
    have B5 := Aside0.mk (B4.out.trans (hb.mono B4.out.size))
    have HC5 := Aside0.mk (Kd.C_below HC4.out hb)
    clear hb B4 HC4 hs64 hsim
    go_wp2_with (fail)
    refine (ref_same_at r s M4.out.1 M5.out.1 (M4.out.2.cmp M5.out.2) _).mono ?_
    rintro e w5' ⟨rfl,rfl⟩
    clear M4 M5
    go_wp2_with (fail)
    refine (most_walk A n c l _ (Kd.C_below HR.out B5.out) HN.out).mono ?_
    rintro e w6 ⟨t,rfl,ht,hb⟩
    have M6 := Aside0.mk ht
    have B6 := Aside0.mk (B5.out.trans (hb.mono B5.out.size))
    have HC6 := Aside0.mk (Kd.C_below HC5.out hb)
    clear hb B5 HC5 ht
    go_wp2_with (fail)
    refine (ref_most A n c l _ (Kd.C_below HR.out B6.out) HN.out).mono ?_
    rintro e w7 ⟨u,rfl,hu,hb⟩
    have M7 := Aside0.mk hu
    have B7 := Aside0.mk (B6.out.trans (hb.mono B6.out.size))
    have HC7 := Aside0.mk (Kd.C_below HC6.out hb)
    clear hb B6 HC6 hu
    go_wp2_with (fail)
    refine (ref_same_at t u M6.out.lt M7.out.lt (M6.out.same M7.out) _).mono ?_
    rintro e w7' ⟨rfl,rfl⟩
    clear M6 M7
    by_cases h0 : n = 0
    · have q0 : ((n : Int) == 0) = true := by rw [beq_iff_eq];omega
      subst h0
      go_wp2_with (fail)
      refine (most_walk none 0 0 [] _ ⟨rfl,by omega,fun h => absurd h (Nat.lt_irrefl 0)⟩ (by omega)).mono ?_
      rintro e w8 ⟨t,rfl,ht,hb⟩
      obtain rfl := ht.nil rfl
      have B8 := Aside0.mk (B7.out.trans (hb.mono B7.out.size))
      clear hb B7 HC7 ht
      go_wp2_with (fail)
      refine (class_at nanC 0 (by decide) cls_nanC _).mono ?_
      rintro e w8' ⟨rfl,rfl⟩
      go_wp2_with (fail)
      refine (rate_known _).mono ?_
      rintro e w9 ⟨rfl,hb⟩
      have B9 := Aside0.mk (B8.out.trans (hb.mono B8.out.size))
      clear hb B8
      go_wp2_with (fail)
      go_ret
      exact ⟨rfl,B9.out⟩
    · have q0 : ((n : Int) == 0) = false := by rw [beq_eq_false_iff_ne];omega
      have q1 : 0 < n := by omega
      have q2 : (0 : Int) < (n : Int) := by omega
      have NE := Aside0.mk (show l ≠ [] by intro e;have := HL.out;rw [e] at this;exact h0 this.symm)
      obtain ⟨x,hx0,hx1,hx2⟩ := R1.out.most NE.out
      obtain ⟨ad,e,x0,x1,x2,x3⟩ := at_T45 HC7.out 0 (by omega) (by omega)
      have ex : rd_T45 (C2.map Prod.fst) 0 = x.1 := by
        unfold rd_T45
        rw [List.getD_eq_getElem?_getD]
        simp [hx0]
      rw [ex] at x0 x1 x2 x3
      cases e
      have MX := Aside0.mk (And.intro hx1 hx2)
      clear hx0 hx1 hx2 ex
      obtain ⟨⟨xa,xb,xc,xd⟩,xt⟩ := x
      have z : ad.add (Int.toNat 0 * 4) = ad := by cases ad;rfl
      rw [z] at x0 x1 x2 x3
      clear z
      have I1 : Aside0 (NextW w.heap.size w w7) := ⟨⟨B7.out,B7.out.size⟩⟩
      clear B7 HC7
      go_wp2_with (fail)
      go_region_held3 (fun w' => w'.cell? ad = some (.string xa) ∧ w'.cell? ⟨ad.block,ad.off + 1,none⟩ = some (.string xb) ∧ w'.cell? ⟨ad.block,ad.off + 2,none⟩ = some (.int .i64 xc) ∧ w'.cell? ⟨ad.block,ad.off + 3,none⟩ = some (.int .i64 xd)) (first | go_keep | exact ⟨by assumption,by assumption,by assumption,by assumption⟩) (first | (go_at_call 42;((with_reducible refine (most_walk A n c l _ (Kd.C_below HR.out I1.out.at_) HN.out).mono ?_);rintro e w2 ⟨t2,rfl,ht2,hb1⟩;replace x0 := (hb1.cell (World.block_lt_of_cell? _ _ x0)).trans x0;replace x1 := (hb1.cell (World.block_lt_of_cell? _ _ x1)).trans x1;replace x2 := (hb1.cell (World.block_lt_of_cell? _ _ x2)).trans x2;replace x3 := (hb1.cell (World.block_lt_of_cell? _ _ x3)).trans x3;have T2 := Aside0.mk ht2;have I2 := Aside0.mk (I1.out.next hb1);clear I1;have I1 := I2;clear I2 hb1 ht2)) | (go_at_call 29;((with_reducible refine (rate_share xa xb xc xd _).mono ?_);rintro e w2 ⟨rp,rfl,hrp,hb1⟩;replace x0 := (hb1.cell (World.block_lt_of_cell? _ _ x0)).trans x0;replace x1 := (hb1.cell (World.block_lt_of_cell? _ _ x1)).trans x1;replace x2 := (hb1.cell (World.block_lt_of_cell? _ _ x2)).trans x2;replace x3 := (hb1.cell (World.block_lt_of_cell? _ _ x3)).trans x3;have RP := Aside0.mk hrp;have I2 := Aside0.mk (I1.out.next hb1);clear I1;have I1 := I2;clear I2 hb1 hrp)) | (go_at_call 30;(with_reducible refine (ref_same_at t2 rp T2.out.lt RP.out.lt (T2.out.same ⟨RP.out.lt,fun h => absurd h NE.out,fun _ => ⟨_,MX.out.1,RP.out,MX.out.2⟩⟩) _).mono ?_);rintro e w' ⟨rfl,rfl⟩) | (go_at_call 36;((with_reducible refine (rate_known _).mono ?_);rintro e w2 ⟨rfl,hb1⟩;replace x0 := (hb1.cell (World.block_lt_of_cell? _ _ x0)).trans x0;replace x1 := (hb1.cell (World.block_lt_of_cell? _ _ x1)).trans x1;replace x2 := (hb1.cell (World.block_lt_of_cell? _ _ x2)).trans x2;replace x3 := (hb1.cell (World.block_lt_of_cell? _ _ x3)).trans x3;have I2 := Aside0.mk (I1.out.next hb1);clear I1;have I1 := I2;clear I2 hb1)))
      have I2 := Aside0.mk I1.out.at_
      clear I1 x0 x1 x2 x3
      go_wp2_with (fail)
      go_ret
      exact ⟨rfl,I2.out⟩
end Go.Proofs.Ytcenlehfbgnphaa.Z
end
section
namespace Go.Proofs.Ytcenlehfbgnphaa.Z
set_option linter.unusedVariables false
open Go.RowKit Go.Proofs.YtcenlehfbgnphaaW.PrintWords Go.Proofs.YtcenlehfbgnphaaW.PrintLast Go.Proofs.YtcenlehfbgnphaaW.PrintMore
def verdererlaw35_RateRanks.f (l0 : List (S45)) : Option (Bool) := some true
theorem verdererlaw35_RateRanks.calls (A0 : Option Addr) (c0 : Nat) (l0 : List (S45)) (r : Bool) (w : World) (hr0 : Kd.C k45 w A0 l0.length l0) (hc0 : l0.length ≤ c0) (h : verdererlaw35_RateRanks.f l0 = some r) :
    Calls Try.prog 9 #[.slice A0 l0.length c0] w fun e w' => e = .returned (.bool r) ∧ Below w.heap.size w w' := by
  obtain rfl := Option.some.inj h
  exact rate_ranks A0 l0.length c0 l0 w hr0
end Go.Proofs.Ytcenlehfbgnphaa.Z
end
section
namespace Go.Proofs.YtcenlehfbgnphaaW.PrintWords
open Go.RowKit Go.ChangeShapes Go.WideShapes
section
variable {P : Program} {α β : Type}
def OfTrod (P : Program) (t : TypeId) (d : Kd α) (G : α → Prop) : Prop :=
  ∀ (H : Type) (enc : TypeId × Value → H) (w : World) (base : Nat) (spare : Nat → Bool) (held : Bool) (fuel : Nat) (cs : List Value) (x : DataW H × List MemPlace),DataW.trod enc P w base spare held fuel t cs = some x → ∃ s,d.K w s cs ∧ G s
theorem ofTrod_int {t : TypeId} {k : IntKind} (ht : P.underlying t = some (.int k)) : OfTrod P t (Kd.int k) (fun n => (Lit.int k n).wf = true) := by
  intro H enc w base spare held fuel cs x h
  obtain ⟨n,rfl,_,hw⟩ := DataW.trod_int ht h
  exact ⟨n,rfl,hw⟩
theorem ofTrod_string {t : TypeId} (ht : P.underlying t = some .string) : OfTrod P t Kd.string (fun s => s.size ≤ maxLen) := by
  intro H enc w base spare held fuel cs x h
  obtain ⟨s,rfl,_,hs⟩ := DataW.trod_string ht h
  exact ⟨s,rfl,hs⟩
theorem list_of_all {n : Nat} {Q : Nat → α → Prop} (h : ∀ i,i < n → ∃ x,Q i x) : ∃ xs : List α,xs.length = n ∧ ∀ i x,xs[i]? = some x → Q i x := by
  induction n with
  | zero => exact ⟨[],rfl,fun i x hx => by simp at hx⟩
  | succ n ih =>
    obtain ⟨xs,hl,hx⟩ := ih (fun i hi => h i (by omega))
    obtain ⟨y,hy⟩ := h n (by omega)
    refine ⟨xs ++ [y],by simp [hl],fun i x hi => ?_⟩
    rcases Nat.lt_trichotomy i xs.length with hlt | rfl | hgt
    · rw [List.getElem?_append_left hlt] at hi
      exact hx i x hi
    · rw [List.getElem?_append_right (Nat.le_refl _)] at hi
      simp at hi
      subst hi
      rw [hl]
      exact hy
    · rw [List.getElem?_append_right (by omega),List.getElem?_eq_none (by simp;omega)] at hi
      cases hi
theorem ofTrod_slice {t e : TypeId} {d : Kd α} {G : α → Prop} (ht : P.underlying t = some (.slice e)) (hc : P.cellsOf e = d.sz) (h : OfTrod P e d G) :
    OfTrod P t (Kd.slice e d) (fun l => l.length ≤ maxLen ∧ ∀ x ∈ l,G x) := by
  intro H enc w base spare held fuel cs x hx
  rcases Go.Deep.open_slice ht hx with ⟨rfl,_⟩ | ⟨a,len,cap,m,n,D,Pl,rfl,_,hl,hm,hmm,_,hel⟩
  · exact ⟨[],⟨none,0,rfl,Nat.le_refl _,Kd.C_nil d w⟩,by simp,fun x hx => by simp at hx⟩
  · have hlm : len ≤ m := by rw [hmm];split <;> omega
    obtain ⟨xs,hxl,hxs⟩ := list_of_all (n := len) (Q := fun i s => ∃ cs',w.cells? base (a.add (i * P.cellsOf e)) (P.cellsOf e) = some cs' ∧ d.K w s cs' ∧ G s) (fun i hi => by
      obtain ⟨cs',h1,h2⟩ := hel i (by omega)
      obtain ⟨s,h3,h4⟩ := h _ _ _ _ _ _ _ _ _ h2
      exact ⟨s,cs',h1,h3,h4⟩)
    refine ⟨xs,⟨some a,cap,by rw [hxl],by omega,rfl,by rw [hxl];unfold maxLen at hm;omega,fun _ => ⟨a,rfl,fun j p hp => ?_⟩⟩,by omega,fun x hx => ?_⟩
    · obtain ⟨cs',h1,h2,_⟩ := hxs j p hp
      obtain ⟨_,hcl,hcell⟩ := World.cells?_some h1
      refine ⟨cs',by rw [hcl,hc],h2,fun i u hu => ?_⟩
      have hi : i < P.cellsOf e := by
        rw [← hcl]
        exact (List.getElem?_eq_some_iff.1 hu).1
      have := hcell i hi
      rw [Go.Deep.add_add,hc] at this
      rw [this]
      exact hu
    · obtain ⟨i,hi,rfl⟩ := List.getElem_of_mem hx
      obtain ⟨_,_,_,h4⟩ := hxs i xs[i] (List.getElem?_eq_getElem hi)
      exact h4
def segOff (segs : List (TypeId × Nat)) (i : Nat) : Nat := ((segs.take i).map (·.2)).sum
def OfSegs (P : Program) (segs : List (TypeId × Nat)) (d : Kd α) (G : α → Prop) : Prop :=
  ∀ (H : Type) (enc : TypeId × Value → H) (w : World) (base : Nat) (spare : Nat → Bool) (held : Bool) (fuel : Nat) (cs : List Value),cs.length = segOff segs segs.length →
    (∀ i t c,segs[i]? = some (t,c) → ∃ x,DataW.trod enc P w base spare held fuel t ((cs.drop (segOff segs i)).take c) = some x) → ∃ s,d.K w s cs ∧ G s
theorem ofSegs_one {t : TypeId} {c : Nat} {d : Kd α} {G : α → Prop} (h : OfTrod P t d G) : OfSegs P [(t,c)] d G := by
  intro H enc w base spare held fuel cs hl hx
  obtain ⟨x,h1⟩ := hx 0 t c rfl
  have hl2 : cs.length = c := by simpa [segOff] using hl
  have e : ((cs.drop (segOff [(t,c)] 0)).take c) = cs := by simp [segOff,← hl2]
  rw [e] at h1
  exact h _ _ _ _ _ _ _ _ _ h1
theorem ofSegs_cons {t : TypeId} {c : Nat} {ts : List (TypeId × Nat)} {d : Kd α} {d' : Kd β} {G : α → Prop} {G' : β → Prop} (h : OfTrod P t d G) (h' : OfSegs P ts d' G') : OfSegs P ((t,c) :: ts) (Kd.pair d d') (fun x => G x.1 ∧ G' x.2) := by
  intro H enc w base spare held fuel cs hl hx
  obtain ⟨x,h1⟩ := hx 0 t c rfl
  have e : ((cs.drop (segOff ((t,c) :: ts) 0)).take c) = cs.take c := by simp [segOff]
  rw [e] at h1
  obtain ⟨s,h2,h3⟩ := h _ _ _ _ _ _ _ _ _ h1
  have hl' : (cs.drop c).length = segOff ts ts.length := by
    simp [segOff] at hl ⊢
    omega
  obtain ⟨s',h4,h5⟩ := h' H enc w base spare held fuel (cs.drop c) hl' (fun i t' c' hi => by
    obtain ⟨y,hy⟩ := hx (i + 1) t' c' (by simpa using hi)
    refine ⟨y,?_⟩
    have e2 : segOff ((t,c) :: ts) (i + 1) = c + segOff ts i := by simp [segOff]
    rw [e2] at hy
    rw [List.drop_drop]
    exact hy)
  exact ⟨(s,s'),⟨cs.take c,cs.drop c,(List.take_append_drop c cs).symm,h2,h4⟩,h3,h5⟩
theorem ofTrod_struct {t : TypeId} {fs : Array Field} {segs : List (TypeId × Nat)} {d : Kd α} {G : α → Prop} (ht : P.underlying t = some (.struct fs)) (hc : P.cellsOf t = segOff segs segs.length) (hn : fs.size = segs.length)
    (hfs : ∀ i (f : Field),fs[i]? = some f → segs[i]? = some (f.type,P.cellsOf f.type) ∧ f.offset = segOff segs i) (h : OfSegs P segs d G) : OfTrod P t d G := by
  intro H enc w base spare held fuel cs x hx
  obtain ⟨xs,n,_,_,hl,hxl,hf⟩ := DataW.trod_struct ht hx
  refine h H enc w base spare held n cs (by rw [hl,hc]) (fun i t' c' hi => ?_)
  have hlt : i < fs.size := by rw [hn];exact (List.getElem?_eq_some_iff.1 hi).1
  obtain ⟨h1,h2⟩ := hfs i fs[i] (Array.getElem?_eq_getElem hlt)
  rw [hi] at h1
  injection h1 with h1
  injection h1 with h1 h3
  have h4 := hf i fs[i] (Array.getElem?_eq_getElem hlt)
  rw [h2,← h3,← h1] at h4
  have hlt2 : i < xs.length := by omega
  rw [List.getElem?_eq_getElem hlt2] at h4
  exact ⟨_,h4⟩
theorem ofTrod_iso {t : TypeId} {d : Kd α} {G : α → Prop} (f : β → α) (g : α → β) (hg : ∀ a,f (g a) = a) (h : OfTrod P t d G) : OfTrod P t (Kd.iso d f) (fun x => G (f x)) := by
  intro H enc w base spare held fuel cs x hx
  obtain ⟨s,h1,h2⟩ := h _ _ _ _ _ _ _ _ _ hx
  exact ⟨g s,by show d.K w (f (g s)) cs;rw [hg];exact h1,by show G (f (g s));rw [hg];exact h2⟩
theorem cell_heap {w w' : World} (h : w.heap = w'.heap) (a : Addr) : w'.cell? a = w.cell? a := by unfold World.cell?;rw [h]
end
end Go.Proofs.YtcenlehfbgnphaaW.PrintWords
end
section
namespace Go.Proofs.Ytcenlehfbgnphaa.Z
open Go.RowKit Go.Proofs.YtcenlehfbgnphaaW.PrintWords Go.Proofs.YtcenlehfbgnphaaW.PrintLast Go.Proofs.YtcenlehfbgnphaaW.PrintMore
set_option maxRecDepth 100000
def G45 (x : S45) : Prop := (x.f0.size ≤ maxLen) ∧ (x.f1.size ≤ maxLen) ∧ ((Lit.int .i64 x.f2).wf = true) ∧ ((Lit.int .i64 x.f3).wf = true)
theorem of45 : OfTrod Try.prog 45 k45 G45 :=
  ofTrod_iso _ (fun a => (⟨a.1,a.2.1,a.2.2.1,a.2.2.2⟩ : S45)) (fun _ => rfl) (ofTrod_struct (segs := [(9,1),(9,1),(2,1),(2,1)]) Try.underlying45 (by kernel_rfl) rfl
    (by
      intro i f hf
      rcases i with _ | _ | _ | _ | i <;> simp at hf <;> subst hf <;> exact ⟨congrArg some (Prod.ext rfl (by kernel_rfl)),rfl⟩) (ofSegs_cons (ofTrod_string Try.underlying9) (ofSegs_cons (ofTrod_string Try.underlying9) (ofSegs_cons (ofTrod_int Try.underlying2) (ofSegs_one (ofTrod_int Try.underlying2))))))
end Go.Proofs.Ytcenlehfbgnphaa.Z
end
section
namespace Go.Proofs.Ytcenlehfbgnphaa.Z
open Go.RowKit Go.Proofs.YtcenlehfbgnphaaW.PrintWords Go.Proofs.YtcenlehfbgnphaaW.PrintLast Go.Proofs.YtcenlehfbgnphaaW.PrintMore
theorem rateRanks_pure : ∀ (l0 : (List S45)),(l0.length ≤ maxLen ∧ ∀ x ∈ l0,G45 x) → verdererlaw35_RateRanks.f l0 = some true := by
  intro l0 _
  rfl
end Go.Proofs.Ytcenlehfbgnphaa.Z
end
namespace Go.Proofs.Ytcenlehfbgnphaa.rateRanks
open Go.ChangeShapes Go.WideShapes Go.ChangeAt Go.RowKit Go.Proofs.YtcenlehfbgnphaaW.PrintWords
open Go.ChangeMaps (open_string shut_string)
set_option linter.unusedVariables false
theorem own : ownKnob Try.prog.godebug = none := by kernel_rfl
theorem laidOut : laidOutB Try.prog = true := by kernel_rfl
set_option maxRecDepth 100000 in
theorem lifted (os : Os) (started : os.Started) (H : Type) (enc : TypeId × Value → H) :
    ReturnsInHanded {} Try.checked os 9 .any (Rows.rateRanksSpec.pre6 enc Try.prog Try.f9 Rows.rateRanksRow.domain false) (Rows.rateRanksSpec.post enc Try.prog Try.f9 false true false false) := by
  refine returnsInHanded_of_change (C := Try.checked) own started (by kernel_rfl) Try.func9
    (ChangeSpec.witness6 (enc := enc) (C := Try.checked) false ⟨#[],#[.slice none 0 0],[]⟩ 8 (by kernel_rfl) (by kernel_rfl) (by kernel_rfl) (by kernel_rfl)) ?_
  intro W base args ds gs before hval0 hW hcnd _
  have hval : ∀ (j : Nat) t v,Try.f9.params[j]? = some t → args[j]? = some v → Value.okWide Try.prog W .any base t v := hval0
  have hW' := hW
  obtain ⟨p,q,hA0,hV,rfl,hfz,hnd⟩ := hW
  have hA : DataW.TrodAll enc Try.prog W 0 (fun _ => true) true Try.f9.params.toList args.toList ds p := hA0
  rw [Try.params9] at hA hval
  obtain ⟨v0,vs0,d0,ds0,p0,q0,hargs,rfl,rfl,h0,r0⟩ := trodAll_cons hA
  obtain ⟨rfl,rfl,rfl⟩ := trodAll_nil r0
  obtain rfl : args = #[v0] := by cases args;simp_all
  obtain ⟨rfl,rfl⟩ := trodVars_none hV
  obtain ⟨a0,len0,cap0,rfl⟩ := okWide_slice Try.underlying53 (hval 0 53 v0 rfl rfl)
  have k0 := h0
  have lt0 : ∀ x ∈ p0,x.block < W.heap.size := by obtain ⟨m,hm⟩ := k0;exact DataW.trod_lt m _ _ _ hm
  obtain ⟨l0,hK0,hG0⟩ : ∃ l,((Kd.slice 45 Z.k45) : Kd (List Z.S45)).K W l [.slice a0 len0 cap0] ∧ (l.length ≤ maxLen ∧ ∀ x ∈ l,Z.G45 x) := by obtain ⟨fuel,hf⟩ := h0;exact (show OfTrod Try.prog 53 (Kd.slice 45 Z.k45) _ from (ofTrod_slice Try.underlying53 (by kernel_rfl) Z.of45)) _ _ _ _ _ _ _ _ _ hf
  obtain ⟨A0,c0,he0,hl0,hC0⟩ := hK0
  simp only [List.cons.injEq,Value.slice.injEq,and_true] at he0
  obtain ⟨rfl,rfl,rfl⟩ := he0
  clear hA0 hval0
  have h := Z.rateRanks_pure l0 hG0
  refine (Z.verdererlaw35_RateRanks.calls _ _ l0 true W hC0 hl0 h).mono fun e W' ⟨he,bel⟩ => ?_
  subst he
  exact ⟨_,rfl,_,_,_,[],_,[],hW',trodAll_mk1 (shut_bool Try.underlying4 _),(trodAll_cons_mk (Below.trod laidOut (by kernel_rfl) (of_decide_eq_true (by kernel_rfl)) k0 bel lt0) trodAll_mk0),rfl,bel.frame _,fun h => by cases h⟩
theorem over : Rows.rateRanksRow.holds Try.pinned (OpenSpec.ofChange Rows.rateRanksSpec) :=
  OpenClaim.holds_of_wide 9 Try.f9 rfl rfl rfl rfl rfl rfl rfl ⟨rfl,rfl,rfl,rfl,rfl⟩ rfl rfl rfl rfl rfl (by kernel_rfl) Try.func9 (by kernel_rfl)
    (of_decide_eq_true (by kernel_rfl)) (by unfold Func.isWrapper;first | (rw [if_pos (by decide +kernel)];kernel_rfl) | (rw [if_neg (by decide +kernel)];exact ⟨rfl,rfl⟩))
    (fun os started H enc _ => lifted os started H enc)
theorem proved : Rows.RateRanksSaid := over
#print axioms proved
end Go.Proofs.Ytcenlehfbgnphaa.rateRanks
namespace Go.Proofs.Ytcenlehfbgnphaa
theorem rateRanks_holds : Rows.RateRanksSaid := rateRanks.proved
end Go.Proofs.Ytcenlehfbgnphaa
