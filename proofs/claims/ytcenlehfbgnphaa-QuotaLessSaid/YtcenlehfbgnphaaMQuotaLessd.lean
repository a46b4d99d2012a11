/- Parts of the proof of QuotaLess: what its functions answer. -/
import Derived.Test.YtcenlehfbgnphaaMQuotaLessa
import Derived.Test.YtcenlehfbgnphaaMQuotaLessb
import Derived.Test.YtcenlehfbgnphaaMQuotaLessc
import Derived.Deep.Slices
import Derived.ProofKit
section
namespace Go.Proofs.YtcenlehfbgnphaaW.PrintWords
open Go.RowKit Go.ChangeShapes Go.WideShapes
section
variable {P : Program} {α β : Type}
def OfTrod (P : Program) (t : TypeId) (d : Kd α) (G : α → Prop) : Prop :=
 ∀ (H : Type) (enc : TypeId × Value → H) (w : World) (base : Nat) (spare : Nat → Bool) (held : Bool) (fuel : Nat) (cs : List Value) (x : DataW H × List MemPlace),DataW.trod enc P w base spare held fuel t cs = some x → ∃ s,d.K w s cs ∧ G s
theorem ofTrod_int {t : TypeId} {k : IntKind} (ht : P.underlying t = some (.int k)) : OfTrod P t (Kd.int k) (fun n => (Lit.int k n).wf = true) := by
 intro H enc w base spare held fuel cs x h
 obtain ⟨n,rfl,_,hw⟩ := DataW.trod_int ht h
 exact ⟨n,rfl,hw⟩
theorem ofTrod_string {t : TypeId} (ht : P.underlying t = some .string) : OfTrod P t Kd.string (fun s => s.size ≤ maxLen) := by
 intro H enc w base spare held fuel cs x h
 obtain ⟨s,rfl,_,hs⟩ := DataW.trod_string ht h
 exact ⟨s,rfl,hs⟩
theorem list_of_all {n : Nat} {Q : Nat → α → Prop} (h : ∀ i,i < n → ∃ x,Q i x) : ∃ xs : List α,xs.length = n ∧ ∀ i x,xs[i]? = some x → Q i x := by
 induction n with
 | zero => exact ⟨[],rfl,fun i x hx => by simp at hx⟩
 | succ n ih =>
  obtain ⟨xs,hl,hx⟩ := ih (fun i hi => h i (by omega))
  obtain ⟨y,hy⟩ := h n (by omega)
  refine ⟨xs ++ [y],by simp [hl],fun i x hi => ?_⟩
  rcases Nat.lt_trichotomy i xs.length with hlt | rfl | hgt
  ·rw [List.getElem?_append_left hlt] at hi
   exact hx i x hi
  ·rw [List.getElem?_append_right (Nat.le_refl _)] at hi
   simp at hi
   subst hi
   rw [hl]
   exact hy
  ·rw [List.getElem?_append_right (by omega),List.getElem?_eq_none (by simp;omega)] at hi
   cases hi
theorem ofTrod_slice {t e : TypeId} {d : Kd α} {G : α → Prop} (ht : P.underlying t = some (.slice e)) (hc : P.cellsOf e = d.sz) (h : OfTrod P e d G) :
  OfTrod P t (Kd.slice e d) (fun l => l.length ≤ maxLen ∧ ∀ x ∈ l,G x) := by
 intro H enc w base spare held fuel cs x hx
 rcases Go.Deep.open_slice ht hx with ⟨rfl,_⟩ | ⟨a,len,cap,m,n,D,Pl,rfl,_,hl,hm,hmm,_,hel⟩
 ·exact ⟨[],⟨none,0,rfl,Nat.le_refl _,Kd.C_nil d w⟩,by simp,fun x hx => by simp at hx⟩
 ·have hlm : len ≤ m := by rw [hmm];split <;> omega
  obtain ⟨xs,hxl,hxs⟩ := list_of_all (n := len) (Q := fun i s => ∃ cs',w.cells? base (a.add (i * P.cellsOf e)) (P.cellsOf e) = some cs' ∧ d.K w s cs' ∧ G s) (fun i hi => by
   obtain ⟨cs',h1,h2⟩ := hel i (by omega)
   obtain ⟨s,h3,h4⟩ := h _ _ _ _ _ _ _ _ _ h2
   exact ⟨s,cs',h1,h3,h4⟩)
  refine ⟨xs,⟨some a,cap,by rw [hxl],by omega,rfl,by rw [hxl];unfold maxLen at hm;omega,fun _ => ⟨a,rfl,fun j p hp => ?_⟩⟩,by omega,fun x hx => ?_⟩
  ·obtain ⟨cs',h1,h2,_⟩ := hxs j p hp
   obtain ⟨_,hcl,hcell⟩ := World.cells?_some h1
   refine ⟨cs',by rw [hcl,hc],h2,fun i u hu => ?_⟩
   have hi : i < P.cellsOf e := by
    rw [← hcl]
    exact (List.getElem?_eq_some_iff.1 hu).1
   have := hcell i hi
   rw [Go.Deep.add_add,hc] at this
   rw [this]
   exact hu
  ·obtain ⟨i,hi,rfl⟩ := List.getElem_of_mem hx
   obtain ⟨_,_,_,h4⟩ := hxs i xs[i] (List.getElem?_eq_getElem hi)
   exact h4
def segOff (segs : List (TypeId × Nat)) (i : Nat) : Nat := ((segs.take i).map (·.2)).sum
def OfSegs (P : Program) (segs : List (TypeId × Nat)) (d : Kd α) (G : α → Prop) : Prop :=
 ∀ (H : Type) (enc : TypeId × Value → H) (w : World) (base : Nat) (spare : Nat → Bool) (held : Bool) (fuel : Nat) (cs : List Value),cs.length = segOff segs segs.length →
  (∀ i t c,segs[i]? = some (t,c) → ∃ x,DataW.trod enc P w base spare held fuel t ((cs.drop (segOff segs i)).take c) = some x) → ∃ s,d.K w s cs ∧ G s
theorem ofSegs_one {t : TypeId} {c : Nat} {d : Kd α} {G : α → Prop} (h : OfTrod P t d G) : OfSegs P [(t,c)] d G := by
 intro H enc w base spare held fuel cs hl hx
 obtain ⟨x,h1⟩ := hx 0 t c rfl
 have hl2 : cs.length = c := by simpa [segOff] using hl
 have e : ((cs.drop (segOff [(t,c)] 0)).take c) = cs := by simp [segOff,← hl2]
 rw [e] at h1
 exact h _ _ _ _ _ _ _ _ _ h1
theorem ofSegs_cons {t : TypeId} {c : Nat} {ts : List (TypeId × Nat)} {d : Kd α} {d' : Kd β} {G : α → Prop} {G' : β → Prop} (h : OfTrod P t d G) (h' : OfSegs P ts d' G') : OfSegs P ((t,c) :: ts) (Kd.pair d d') (fun x => G x.1 ∧ G' x.2) := by
 intro H enc w base spare held fuel cs hl hx
 obtain ⟨x,h1⟩ := hx 0 t c rfl
 have e : ((cs.drop (segOff ((t,c) :: ts) 0)).take c) = cs.take c := by simp [segOff]
 rw [e] at h1
 obtain ⟨s,h2,h3⟩ := h _ _ _ _ _ _ _ _ _ h1
 have hl' : (cs.drop c).length = segOff ts ts.length := by
  simp [segOff] at hl ⊢
  omega
 obtain ⟨s',h4,h5⟩ := h' H enc w base spare held fuel (cs.drop c) hl' (fun i t' c' hi => by
  obtain ⟨y,hy⟩ := hx (i + 1) t' c' (by simpa using hi)
  refine ⟨y,?_⟩
  have e2 : segOff ((t,c) :: ts) (i + 1) = c + segOff ts i := by simp [segOff]
  rw [e2] at hy
  rw [List.drop_drop]
  exact hy)
 exact ⟨(s,s'),⟨cs.take c,cs.drop c,(List.take_append_drop c cs).symm,h2,h4⟩,h3,h5⟩
theorem ofTrod_struct {t : TypeId} {fs : Array Field} {segs : List (TypeId × Nat)} {d : Kd α} {G : α → Prop} (ht : P.underlying t = some (.struct fs)) (hc : P.cellsOf t = segOff segs segs.length) (hn : fs.size = segs.length)
  (hfs : ∀ i (f : Field),fs[i]? = some f → segs[i]? = some (f.type,P.cellsOf f.type) ∧ f.offset = segOff segs i) (h : OfSegs P segs d G) : OfTrod P t d G := by
 intro H enc w base spare held fuel cs x hx
 obtain ⟨xs,n,_,_,hl,hxl,hf⟩ := DataW.trod_struct ht hx
 refine h H enc w base spare held n cs (by rw [hl,hc]) (fun i t' c' hi => ?_)
 have hlt : i < fs.size := by rw [hn];exact (List.getElem?_eq_some_iff.1 hi).1
 obtain ⟨h1,h2⟩ := hfs i fs[i] (Array.getElem?_eq_getElem hlt)
 rw [hi] at h1
 injection h1 with h1
 injection h1 with h1 h3
 have h4 := hf i fs[i] (Array.getElem?_eq_getElem hlt)
 rw [h2,← h3,← h1] at h4
 have hlt2 : i < xs.length := by omega
 rw [List.getElem?_eq_getElem hlt2] at h4
 exact ⟨_,h4⟩
theorem ofTrod_iso {t : TypeId} {d : Kd α} {G : α → Prop} (f : β → α) (g : α → β) (hg : ∀ a,f (g a) = a) (h : OfTrod P t d G) : OfTrod P t (Kd.iso d f) (fun x => G (f x)) := by
 intro H enc w base spare held fuel cs x hx
 obtain ⟨s,h1,h2⟩ := h _ _ _ _ _ _ _ _ _ hx
 exact ⟨g s,by show d.K w (f (g s)) cs;rw [hg];exact h1,by show G (f (g s));rw [hg];exact h2⟩
theorem cell_heap {w w' : World} (h : w.heap = w'.heap) (a : Addr) : w'.cell? a = w.cell? a := by unfold World.cell?;rw [h]
end
end Go.Proofs.YtcenlehfbgnphaaW.PrintWords
end
section
namespace Go.Proofs.Ytcenlehfbgnphaa.Z
open Go.RowKit Go.Proofs.YtcenlehfbgnphaaW.PrintWords Go.Proofs.YtcenlehfbgnphaaW.PrintLast Go.Proofs.YtcenlehfbgnphaaW.PrintMore
set_option maxRecDepth 100000
def G45 (x : S45) : Prop := (x.f0.size ≤ maxLen) ∧ (x.f1.size ≤ maxLen) ∧ ((Lit.int .i64 x.f2).wf = true) ∧ ((Lit.int .i64 x.f3).wf = true)
theorem of45 : OfTrod Try.prog 45 k45 G45 :=
 ofTrod_iso _ (fun a => (⟨a.1,a.2.1,a.2.2.1,a.2.2.2⟩ : S45)) (fun _ => rfl) (ofTrod_struct (segs := [(9,1),(9,1),(2,1),(2,1)]) Try.underlying45 (by kernel_rfl) rfl
  (by
   intro i f hf
   rcases i with _ | _ | _ | _ | i <;> simp at hf <;> subst hf <;> exact ⟨congrArg some (Prod.ext rfl (by kernel_rfl)),rfl⟩) (ofSegs_cons (ofTrod_string Try.underlying9) (ofSegs_cons (ofTrod_string Try.underlying9) (ofSegs_cons (ofTrod_int Try.underlying2) (ofSegs_one (ofTrod_int Try.underlying2))))))
end Go.Proofs.Ytcenlehfbgnphaa.Z
end
section
namespace Go.Proofs.Ytcenlehfbgnphaa.Z
open Go.RowKit Go.Proofs.YtcenlehfbgnphaaW.PrintWords Go.Proofs.YtcenlehfbgnphaaW.PrintLast Go.Proofs.YtcenlehfbgnphaaW.PrintMore
attribute [local go_sem] max2_int min2_int max_two min_two max_three min_three max_four min_four
set_option linter.unusedVariables false
set_option linter.unusedSimpArgs false
def verdererref28_Over.l0 : Nat → List (S45) → List (S45) → Int → Option ((List (S45)))
 | 0,_,_,_ => none
 | k + 1,x0,x3,x4 => if x4 < (x0.length : Int) then (if 0 ≤ x4 then (if ((q0e x0 x4).f2) > ((q0e x0 x4).f3) then (if x3.length < 2932031007402 then (verdererref28_Over.l0 k x0 (x3 ++ [(⟨(q0e x0 x4).f0,(q0e x0 x4).f1,(q0e x0 x4).f2,(q0e x0 x4).f3⟩ : S45)]) (wrap64 (x4 + 1))) else (none)) else (verdererref28_Over.l0 k x0 x3 (wrap64 (x4 + 1)))) else (none)) else (some x3)
def verdererref28_Over.f (k : Nat) (l0 : List (S45)) : Option ((List (S45))) := verdererref28_Over.l0 k l0 ([] : List (S45)) 0
theorem verdererref28_Over.mono_l : ∀ k,(∀ y0 y1 y2,LeO (verdererref28_Over.l0 k y0 y1 y2) (verdererref28_Over.l0 (k + 1) y0 y1 y2))
 | 0 => fun _ _ _ r h => by simp [verdererref28_Over.l0] at h
 | k + 1 => by
  have ih0 := verdererref28_Over.mono_l k
  ·intro y0 y1 y2
   unfold verdererref28_Over.l0
   repeat' first
   | (with_reducible exact ih0 _ _ _)
   | (with_reducible exact LeO.refl _)
   | (with_reducible exact LeO.none _)
   | (with_reducible refine LeO.ite ?_ ?_)
   | (with_reducible refine LeO.bind ?_ (fun _ => ?_))
   | exact ih0 _ _ _
   | exact LeO.none _
   | refine LeO.ite ?_ ?_
   | refine LeO.bind ?_ (fun _ => ?_)
theorem verdererref28_Over.mono : ∀ a0 k,LeO (verdererref28_Over.f k a0) (verdererref28_Over.f (k + 1) a0) := by
 intro a0 k
 have ih0 := verdererref28_Over.mono_l k
 unfold verdererref28_Over.f
 repeat' first
   | (with_reducible exact ih0 _ _ _)
   | (with_reducible exact LeO.refl _)
   | (with_reducible exact LeO.none _)
   | (with_reducible refine LeO.ite ?_ ?_)
   | (with_reducible refine LeO.bind ?_ (fun _ => ?_))
   | exact ih0 _ _ _
   | exact LeO.none _
   | refine LeO.ite ?_ ?_
   | refine LeO.bind ?_ (fun _ => ?_)
set_option maxHeartbeats 8000000 in
set_option maxRecDepth 100000 in
theorem verdererref28_Over.calls (k : Nat) (A0 : Option Addr) (c0 : Nat) (l0 : List (S45)) (r : List (S45)) (w : World) (hr0 : Kd.C k45 w A0 l0.length l0) (hc0 : l0.length ≤ c0) (h : verdererref28_Over.f k l0 = some r) :
  Calls Try.prog 50 #[.slice A0 l0.length c0] w fun e w' => ∃ v0_ : Value,e = .returned (v0_) ∧ Kd.R k45 45 w' w.heap.size (fun _ => True) v0_ r ∧ Below w.heap.size w w' := by
 have hu45 := Try.underlying45
 have HR0 := Aside0.mk hr0
 have HC0 := Aside0.mk hc0
 clear hr0 hc0
 have HB := Aside0.mk (Below.refl w.heap.size w)
 have H : (verdererref28_Over.l0 k l0 ([] : List (S45)) 0) = some r := h
 clear h
 have H' := Aside0.mk H
 clear H
 go_enter Try.func50,Try.ntmps50
 go_wp2
 repeat (go_quiet (fail);try go_wp2)
 go_loopg [3,4] k (fun kq v3 v4 w' => ∃ (x3_1 : List (S45)) (x4_1 : Int),v4 = .int .i64 x4_1 ∧ Aside0 (verdererref28_Over.l0 kq l0 x3_1 x4_1 = some r) ∧ Aside0 (kq ≤ k) ∧ Aside0 (Kd.R k45 45 w' w.heap.size (fun _ => True) v3 x3_1) ∧ Aside0 (Below w.heap.size w w'))
 case atStart => exact ⟨(([] : List (S45))),(0),(by first | rfl | (simp;done) | (simp [*];done)),H',⟨Nat.le_refl _⟩,⟨by first | exact Kd.R_nil _ _ _ _ _ | exact Kd.N_nil _ _ _ _ _ | exact Kd.V_nil _ _ _ _ _ | exact Kd.Q_nil _ _ _ _ _ | exact Kd.S_nil _ _ _ _ _⟩,⟨by repeat (first | (with_reducible first | exact HB.out | apply q0h | apply q0d | apply q0f) | exact HB.out)⟩⟩
 case round =>
  clear H'
  obtain ⟨x3_1,x4_1,rfl,HA,HK1,HO_3,HB⟩ := hrel
  cases gk with
  | zero => exact absurd HA.out (by simp [verdererref28_Over.l0])
  | succ k1 =>
   have H := HA.out
   clear HA
   simp only [verdererref28_Over.l0] at H
   by_cases c2 : x4_1 < (l0.length : Int)
   ·rw [if_pos c2] at H
    have c2b0 : decide (x4_1 < (l0.length : Int)) = true := decide_eq_true c2
    clear c2
    by_cases c3 : 0 ≤ x4_1
    ·rw [if_pos c3] at H
     have c3b0 : decide (0 ≤ x4_1) = true := decide_eq_true c3
     clear c3
     by_cases c4 : ((q0e l0 x4_1).f2) > ((q0e l0 x4_1).f3)
     ·rw [if_pos c4] at H
      have c4b0 : decide (((q0e l0 x4_1).f3) < ((q0e l0 x4_1).f2)) = true := decide_eq_true c4
      clear c4
      by_cases c5 : x3_1.length < 2932031007402
      ·rw [if_pos c5] at H
       have LMc5 := Aside0.mk c5
       clear c5
       obtain ⟨y311,hy311⟩ : ∃ y_ : List (S45),y_ = (x3_1 ++ [(⟨(q0e l0 x4_1).f0,(q0e l0 x4_1).f1,(q0e l0 x4_1).f2,(q0e l0 x4_1).f3⟩ : S45)]) := ⟨_,rfl⟩
       replace H : (verdererref28_Over.l0 k1 l0 y311 (wrap64 (x4_1 + 1))) = some r := by first | (rw [hy311];with_reducible exact H) | (have H2_ := (Option.bind_some _ _).symm.trans H;rw [hy311];with_reducible exact H2_) | (have H2_ := (Option.bind_some _ _).symm.trans H;with_reducible exact H2_) | with_reducible exact H | (rw [hy311];exact H) | exact H
       have Ny311 := Aside0.mk hy311
       clear hy311
       have H' := Aside0.mk H
       clear H
       have p308 : 0 ≤ (x4_1 : Int) := of_decide_eq_true (by first | (with_reducible assumption) | assumption)
       have q308 : x4_1 < (l0.length : Int) := of_decide_eq_true (by first | (with_reducible assumption) | assumption)
       obtain ⟨ad308,e308,hx308_0,hx308_1,hx308_2,hx308_3⟩ := at_T45 HR0.out x4_1 p308 q308
       cases e308
       replace hx308_0 := (HB.out.cell (World.block_lt_of_cell? w _ hx308_0)).trans hx308_0
       replace hx308_1 := (HB.out.cell (World.block_lt_of_cell? w _ hx308_1)).trans hx308_1
       replace hx308_2 := (HB.out.cell (World.block_lt_of_cell? w _ hx308_2)).trans hx308_2
       replace hx308_3 := (HB.out.cell (World.block_lt_of_cell? w _ hx308_3)).trans hx308_3
       replace p308 := eq_true p308
       replace q308 := eq_true q308
       have p309 : 0 ≤ (x4_1 : Int) := of_decide_eq_true (by first | (with_reducible assumption) | assumption)
       have q309 : x4_1 < (l0.length : Int) := of_decide_eq_true (by first | (with_reducible assumption) | assumption)
       obtain ⟨ad309,e309,hx309_0,hx309_1,hx309_2,hx309_3⟩ := at_T45 HR0.out x4_1 p309 q309
       obtain rfl : ad308 = ad309 := (by injection e309)
       replace hx309_0 := (HB.out.cell (World.block_lt_of_cell? w _ hx309_0)).trans hx309_0
       replace hx309_1 := (HB.out.cell (World.block_lt_of_cell? w _ hx309_1)).trans hx309_1
       replace hx309_2 := (HB.out.cell (World.block_lt_of_cell? w _ hx309_2)).trans hx309_2
       replace hx309_3 := (HB.out.cell (World.block_lt_of_cell? w _ hx309_3)).trans hx309_3
       replace p309 := eq_true p309
       replace q309 := eq_true q309
       have p310 : 0 ≤ (x4_1 : Int) := of_decide_eq_true (by first | (with_reducible assumption) | assumption)
       have q310 : x4_1 < (l0.length : Int) := of_decide_eq_true (by first | (with_reducible assumption) | assumption)
       obtain ⟨ad310,e310,hx310_0,hx310_1,hx310_2,hx310_3⟩ := at_T45 HR0.out x4_1 p310 q310
       obtain rfl : ad308 = ad310 := (by injection e310)
       replace hx310_0 := (HB.out.cell (World.block_lt_of_cell? w _ hx310_0)).trans hx310_0
       replace hx310_1 := (HB.out.cell (World.block_lt_of_cell? w _ hx310_1)).trans hx310_1
       replace hx310_2 := (HB.out.cell (World.block_lt_of_cell? w _ hx310_2)).trans hx310_2
       replace hx310_3 := (HB.out.cell (World.block_lt_of_cell? w _ hx310_3)).trans hx310_3
       replace p310 := eq_true p310
       replace q310 := eq_true q310
       go_wp2_with (first | ((with_reducible refine gate_builtin (b := .append) (xs := #[.tmp 22,.tmp 27]) rfl ?_);at_builtin;refine Kd.R_append k45 (w0 := w) w.heap.size rfl (.tmp 22) (.tmp 27) 53 45 (.agg #[(.string ⟨#[]⟩),(.string ⟨#[]⟩),(.int .i64 0),(.int .i64 0)]) 48 rfl Try.underlying53 info45 rfl (by decide) (by omega) u3 x3_1 (⟨(q0e l0 x4_1).f0,(q0e l0 x4_1).f1,(q0e l0 x4_1).f2,(q0e l0 x4_1).f3⟩ : S45) [.string ((q0e l0 x4_1).f0),.string ((q0e l0 x4_1).f1),.int .i64 ((q0e l0 x4_1).f2),.int .i64 ((q0e l0 x4_1).f3)] (fun _ => True) (fun _ => False) rfl rfl ?aP (fun _ hk => hk.elim) ?aF ?aO ?aB ?aS ?aL ?_;(case aP => exact k45_mkM _ _ _ (⟨(q0e l0 x4_1).f0,(q0e l0 x4_1).f1,(q0e l0 x4_1).f2,(q0e l0 x4_1).f3⟩ : S45));(case aB => exact (by repeat (first | (with_reducible first | exact HB.out | apply q0h | apply q0d | apply q0f) | exact HB.out)));(case aF => exact (fun _ _ => trivial));(case aO => exact (by (with_reducible repeat (first | apply Kd.q0m | apply Kd.q0n | apply Kd.q0o));exact HO_3.out));(case aS => exact (q0p (by repeat (first | (with_reducible first | exact HB.out | apply q0h | apply q0d | apply q0f) | exact HB.out))));(case aL => have := LMc5.out;omega);intro v312 w6 ho hb hg hat;rw [← Ny311.out] at ho;have n0_ := Aside0.mk (hb);have n1_ := Aside0.mk (ho);clear HB;clear HO_3;have HB := n0_;have HO313 := n1_;clear n0_ n1_;clear ho hb hg hat))
       repeat (go_quiet (first | ((with_reducible refine gate_builtin (b := .append) (xs := #[.tmp 22,.tmp 27]) rfl ?_);at_builtin;refine Kd.R_append k45 (w0 := w) w.heap.size rfl (.tmp 22) (.tmp 27) 53 45 (.agg #[(.string ⟨#[]⟩),(.string ⟨#[]⟩),(.int .i64 0),(.int .i64 0)]) 48 rfl Try.underlying53 info45 rfl (by decide) (by omega) u3 x3_1 (⟨(q0e l0 x4_1).f0,(q0e l0 x4_1).f1,(q0e l0 x4_1).f2,(q0e l0 x4_1).f3⟩ : S45) [.string ((q0e l0 x4_1).f0),.string ((q0e l0 x4_1).f1),.int .i64 ((q0e l0 x4_1).f2),.int .i64 ((q0e l0 x4_1).f3)] (fun _ => True) (fun _ => False) rfl rfl ?aP (fun _ hk => hk.elim) ?aF ?aO ?aB ?aS ?aL ?_;(case aP => exact k45_mkM _ _ _ (⟨(q0e l0 x4_1).f0,(q0e l0 x4_1).f1,(q0e l0 x4_1).f2,(q0e l0 x4_1).f3⟩ : S45));(case aB => exact (by repeat (first | (with_reducible first | exact HB.out | apply q0h | apply q0d | apply q0f) | exact HB.out)));(case aF => exact (fun _ _ => trivial));(case aO => exact (by (with_reducible repeat (first | apply Kd.q0m | apply Kd.q0n | apply Kd.q0o));exact HO_3.out));(case aS => exact (q0p (by repeat (first | (with_reducible first | exact HB.out | apply q0h | apply q0d | apply q0f) | exact HB.out))));(case aL => have := LMc5.out;omega);intro v312 w6 ho hb hg hat;rw [← Ny311.out] at ho;have n0_ := Aside0.mk (hb);have n1_ := Aside0.mk (ho);clear HB;clear HO_3;have HB := n0_;have HO313 := n1_;clear n0_ n1_;clear ho hb hg hat));try go_wp2_with (first | ((with_reducible refine gate_builtin (b := .append) (xs := #[.tmp 22,.tmp 27]) rfl ?_);at_builtin;refine Kd.R_append k45 (w0 := w) w.heap.size rfl (.tmp 22) (.tmp 27) 53 45 (.agg #[(.string ⟨#[]⟩),(.string ⟨#[]⟩),(.int .i64 0),(.int .i64 0)]) 48 rfl Try.underlying53 info45 rfl (by decide) (by omega) u3 x3_1 (⟨(q0e l0 x4_1).f0,(q0e l0 x4_1).f1,(q0e l0 x4_1).f2,(q0e l0 x4_1).f3⟩ : S45) [.string ((q0e l0 x4_1).f0),.string ((q0e l0 x4_1).f1),.int .i64 ((q0e l0 x4_1).f2),.int .i64 ((q0e l0 x4_1).f3)] (fun _ => True) (fun _ => False) rfl rfl ?aP (fun _ hk => hk.elim) ?aF ?aO ?aB ?aS ?aL ?_;(case aP => exact k45_mkM _ _ _ (⟨(q0e l0 x4_1).f0,(q0e l0 x4_1).f1,(q0e l0 x4_1).f2,(q0e l0 x4_1).f3⟩ : S45));(case aB => exact (by repeat (first | (with_reducible first | exact HB.out | apply q0h | apply q0d | apply q0f) | exact HB.out)));(case aF => exact (fun _ _ => trivial));(case aO => exact (by (with_reducible repeat (first | apply Kd.q0m | apply Kd.q0n | apply Kd.q0o));exact HO_3.out));(case aS => exact (q0p (by repeat (first | (with_reducible first | exact HB.out | apply q0h | apply q0d | apply q0f) | exact HB.out))));(case aL => have := LMc5.out;omega);intro v312 w6 ho hb hg hat;rw [← Ny311.out] at ho;have n0_ := Aside0.mk (hb);have n1_ := Aside0.mk (ho);clear HB;clear HO_3;have HB := n0_;have HO313 := n1_;clear n0_ n1_;clear ho hb hg hat)))
       go_roundg k1
       case measure => have := HK1.out;omega
       case rel => exact ⟨(y311),(wrap64 (x4_1 + 1)),(by first | rfl | (simp;done) | (simp [*];done)),H',⟨by have := HK1.out;omega⟩,⟨by (with_reducible repeat (first | apply Kd.q0m | apply Kd.q0n | apply Kd.q0o));exact HO313.out⟩,⟨by repeat (first | (with_reducible first | exact HB.out | apply q0h | apply q0d | apply q0f) | exact HB.out)⟩⟩
      ·rw [if_neg c5] at H
       exact absurd H (by simp)
     ·rw [if_neg c4] at H
      have c4b0 : decide (((q0e l0 x4_1).f3) < ((q0e l0 x4_1).f2)) = false := decide_eq_false c4
      clear c4
      have H' := Aside0.mk H
      clear H
      have p308 : 0 ≤ (x4_1 : Int) := of_decide_eq_true (by first | (with_reducible assumption) | assumption)
      have q308 : x4_1 < (l0.length : Int) := of_decide_eq_true (by first | (with_reducible assumption) | assumption)
      obtain ⟨ad308,e308,hx308_0,hx308_1,hx308_2,hx308_3⟩ := at_T45 HR0.out x4_1 p308 q308
      cases e308
      replace hx308_0 := (HB.out.cell (World.block_lt_of_cell? w _ hx308_0)).trans hx308_0
      replace hx308_1 := (HB.out.cell (World.block_lt_of_cell? w _ hx308_1)).trans hx308_1
      replace hx308_2 := (HB.out.cell (World.block_lt_of_cell? w _ hx308_2)).trans hx308_2
      replace hx308_3 := (HB.out.cell (World.block_lt_of_cell? w _ hx308_3)).trans hx308_3
      replace p308 := eq_true p308
      replace q308 := eq_true q308
      have p309 : 0 ≤ (x4_1 : Int) := of_decide_eq_true (by first | (with_reducible assumption) | assumption)
      have q309 : x4_1 < (l0.length : Int) := of_decide_eq_true (by first | (with_reducible assumption) | assumption)
      obtain ⟨ad309,e309,hx309_0,hx309_1,hx309_2,hx309_3⟩ := at_T45 HR0.out x4_1 p309 q309
      obtain rfl : ad308 = ad309 := (by injection e309)
      replace hx309_0 := (HB.out.cell (World.block_lt_of_cell? w _ hx309_0)).trans hx309_0
      replace hx309_1 := (HB.out.cell (World.block_lt_of_cell? w _ hx309_1)).trans hx309_1
      replace hx309_2 := (HB.out.cell (World.block_lt_of_cell? w _ hx309_2)).trans hx309_2
      replace hx309_3 := (HB.out.cell (World.block_lt_of_cell? w _ hx309_3)).trans hx309_3
      replace p309 := eq_true p309
      replace q309 := eq_true q309
      go_wp2
      repeat (go_quiet (fail);try go_wp2)
      go_roundg k1
      case measure => have := HK1.out;omega
      case rel => exact ⟨(x3_1),(wrap64 (x4_1 + 1)),(by first | rfl | (simp;done) | (simp [*];done)),H',⟨by have := HK1.out;omega⟩,⟨by (with_reducible repeat (first | apply Kd.q0m | apply Kd.q0n | apply Kd.q0o));exact HO_3.out⟩,⟨by repeat (first | (with_reducible first | exact HB.out | apply q0h | apply q0d | apply q0f) | exact HB.out)⟩⟩
    ·rw [if_neg c3] at H
     exact absurd H (by simp)
   ·rw [if_neg c2] at H
    have c2b0 : decide (x4_1 < (l0.length : Int)) = false := decide_eq_false c2
    clear c2
    obtain rfl := Option.some.inj H
    go_wp2
    repeat (go_quiet (fail);try go_wp2)
    go_ret
    exact ⟨_,by first | rfl | (simp [q0w,q0x] <;> rfl) | (simp [*,q0w,q0x] <;> rfl),by (with_reducible repeat (first | apply Kd.q0m | apply Kd.q0n | apply Kd.q0o));exact HO_3.out,by repeat (first | (with_reducible first | exact HB.out | apply q0h | apply q0d | apply q0f) | exact HB.out)⟩
end Go.Proofs.Ytcenlehfbgnphaa.Z
end
