/- Parts of the proof of TenantRight: what its functions answer. -/
import Derived.Test.YthfaimomcbmniaaMTenantRighta
import Derived.Lib.Bytealg
import Derived.RegionTactic
import Derived.BigRegion
import Derived.Deep.QuietTactic
import Derived.BigQuiet
import Derived.ChangeAlike
import Derived.StillTailTactics
import Derived.Deep.LoopGhost
import Derived.Deep.RegionHeld3
import Derived.Lib.Hide
import Derived.RangeFuncNested
import Derived.RangeFuncBound
import Derived.RangeFuncCalls
import Derived.RangeFuncLeaves
import Derived.Shelf.Abstract
import Derived.WalkKit
import Derived.OwnWalkIn
import Derived.TacticsInMore
import Derived.LoopNIn
import Derived.LoopIn
import Derived.Maps.OwnOps
import Derived.Maps.OwnSet
import Derived.Maps.StringElems
import Derived.Maps.RangeWalk
import Derived.Maps.OwnIn
import Derived.RangeFuncBox
import Derived.Maps.AppendAt
import Derived.Shelf.Sort.Plain
import Derived.Shelf.Slices.In.SortNone
import Derived.Test.YthfaimomcbmniaaProg
import Derived.Sort.KeysCollected
import Derived.Sort.OwnSorted
import Derived.Maps.Ext
import Derived.Shelf.SlIter.Nil
import Derived.Shelf.SortM.Plain
import Derived.Shelf.SortM.SortNone
import Derived.Deep.Cut
import Derived.Deep.CutRange
section
namespace Go.Proofs.Ythfaimomcbmniaa.Z
open Go.RowKit Go.Proofs.YthfaimomcbmniaaW.PrintWords Go.Proofs.YthfaimomcbmniaaW.PrintLast Go.Proofs.YthfaimomcbmniaaW.PrintMore
attribute [local go_sem] max2_int min2_int max_two min_two max_three min_three max_four min_four
set_option linter.unusedVariables false
set_option linter.unusedSimpArgs false
def row_Compare.f (k : Nat) (l0 : List (S149)) (l1 : List (S149)) : Option (Int) := (slices_CompareFunc.f k l0 l1 4242134).bind fun t118 => (some t118)
theorem row_Compare.mono : ∀ a0 a1 k,LeO (row_Compare.f k a0 a1) (row_Compare.f (k + 1) a0 a1) := by
  intro a0 a1 k
  unfold row_Compare.f
  repeat' first
      | (with_reducible exact slices_CompareFunc.mono _ _ _ _)
      | (with_reducible exact LeO.refl _)
      | (with_reducible exact LeO.none _)
      | (with_reducible refine LeO.ite ?_ ?_)
      | (with_reducible refine LeO.bind ?_ (fun _ => ?_))
      | exact slices_CompareFunc.mono _ _ _ _
      | exact LeO.none _
      | refine LeO.ite ?_ ?_
      | refine LeO.bind ?_ (fun _ => ?_)
set_option maxHeartbeats 8000000 in
set_option maxRecDepth 100000 in
theorem row_Compare.calls (k : Nat) (A0 : Option Addr) (c0 : Nat) (l0 : List (S149)) (A1 : Option Addr) (c1 : Nat) (l1 : List (S149)) (r : Int) (w : World) (hr0 : Kd.C k149 w A0 l0.length l0) (hc0 : l0.length ≤ c0) (hr1 : Kd.C k149 w A1 l1.length l1) (hc1 : l1.length ≤ c1) (h : row_Compare.f k l0 l1 = some r) :
    Calls Try.prog 116 #[.slice A0 l0.length c0,.slice A1 l1.length c1] w fun e w' => e = .returned (.int .i64 r) ∧ Below w.heap.size w w' := by
  have HR0 := Aside0.mk hr0
  have HC0 := Aside0.mk hc0
  clear hr0 hc0
  have HR1 := Aside0.mk hr1
  have HC1 := Aside0.mk hc1
  clear hr1 hc1
  have HB := Aside0.mk (Below.refl w.heap.size w)
  have H : ((slices_CompareFunc.f k l0 l1 4242134).bind fun t118 => (some t118)) = some r := h
  clear h
  replace H := Option.bind_eq_some_iff.mp H
  obtain ⟨t118,A30,H⟩ := H
  replace H : (some t118) = some r := H
  have A3 := Aside0.mk A30
  clear A30
  obtain rfl := Option.some.inj H
  go_enter Try.func116,Try.ntmps116
  go_wp2_with (first | ((with_reducible refine gate_callee (f := 133) rfl ?_);refine goesL_ (some 7) rfl rfl Try.func133 (by kernel_rfl) rfl #[.slice A0 l0.length c0,.slice A1 l1.length c1,.func (.func 134) #[] #[]] rfl (by (try simp only [List.map_toArray,List.map_cons,List.map_nil]);first | done | rfl | (simp only [List.length_drop,List.length_take];rfl)) ?_;(with_reducible refine (slices_CompareFunc.calls k _ _ l0 _ _ l1 4242134 t118 _ ?side1 ?side2 ?side3 ?side4 A3.out).mono ?_);(case side1 => repeat (first | exact HR0.out | (with_reducible refine Kd.C_alloc ?_ _) | (with_reducible refine Kd.C_drewN ?_ _) | (with_reducible refine Kd.C_drew ?_)));(case side2 => exact HC0.out);(case side3 => repeat (first | exact HR1.out | (with_reducible refine Kd.C_alloc ?_ _) | (with_reducible refine Kd.C_drewN ?_ _) | (with_reducible refine Kd.C_drew ?_)));(case side4 => exact HC1.out);rintro e w4 ⟨rfl,hb⟩;refine ⟨_,rfl,?_⟩;have n0_ := Aside0.mk (below_step (by repeat (first | (with_reducible first | exact HB.out | apply below_alloc | apply pw_below_drewN | apply below_drew1) | exact HB.out)) hb);clear HB;have HB := n0_;clear n0_;(try clear hb);(try clear hb2);(try clear hk);(try clear hi)))
  go_ret
  exact ⟨by first | rfl | (simp [errW_none,errW_some] <;> rfl) | (simp [*,errW_none,errW_some] <;> rfl),by repeat (first | (with_reducible first | exact HB.out | apply below_alloc | apply pw_below_drewN | apply below_drew1) | exact HB.out)⟩
end Go.Proofs.Ythfaimomcbmniaa.Z
end
section
namespace Go.Proofs.Ythfaimomcbmniaa.Cmp
structure CmpLaw {α : Type} (c : α → α → Int) : Prop where
  lo : ∀ a b,-1 ≤ c a b
  anti : ∀ a b,c b a = - c a b
  le : ∀ a b d,c a b ≤ 0 → c b d ≤ 0 → c a d ≤ 0
variable {α : Type} {c : α → α → Int}
theorem CmpLaw.hi (h : CmpLaw c) (a b : α) : c a b ≤ 1 := by have := h.lo b a;have := h.anti b a;omega
theorem CmpLaw.on {β : Type} (f : β → α) (h : CmpLaw c) : CmpLaw (fun x y => c (f x) (f y)) := ⟨fun _ _ => h.lo _ _,fun _ _ => h.anti _ _,fun _ _ _ => h.le _ _ _⟩
end Go.Proofs.Ythfaimomcbmniaa.Cmp
end
section
namespace Go.Proofs.Ythfaimomcbmniaa.Z
open Go.RowKit Go.Proofs.YthfaimomcbmniaaW.PrintWords Go.Proofs.YthfaimomcbmniaaW.PrintLast Go.Proofs.YthfaimomcbmniaaW.PrintMore Go.Proofs.Ythfaimomcbmniaa.Cmp
end Go.Proofs.Ythfaimomcbmniaa.Z
end
section
namespace Go.Proofs.Ythfaimomcbmniaa.Z
set_option linter.unusedVariables false
set_option linter.unusedSimpArgs false
open Go.RowKit Go.Proofs.YthfaimomcbmniaaW.PrintWords Go.Proofs.YthfaimomcbmniaaW.PrintLast Go.Proofs.YthfaimomcbmniaaW.PrintMore Go.Proofs.Ythfaimomcbmniaa.Cmp
structure RowC (w : World) (A : Option Addr) (c : Nat) (r : List S149) : Prop where
  cap : r.length ≤ c
  row : Kd.C k149 w A r.length r
theorem RowC.below {w w1 : World} {A : Option Addr} {c : Nat} {r : List S149} (h : RowC w A c r) (hb : Below w.heap.size w w1) : RowC w1 A c r := ⟨h.cap,Kd.C_below h.row hb⟩
theorem RowC.max {w : World} {A : Option Addr} {c : Nat} {r : List S149} (h : RowC w A c r) : r.length ≤ 9223372036854775807 := h.row.2.1
theorem add_block (a : Addr) (n : Nat) : (a.add n).block = a.block := by unfold Addr.add;split <;> rfl
structure SameW (w w' : World) : Prop where
  heap : w'.heap = w.heap
  os : w'.os = w.os
  tape : w'.tape = w.tape
  output : w'.output = w.output
structure NextW (N : Nat) (w w' : World) : Prop where
  below : Below N w w'
  le : N ≤ w'.heap.size
theorem NextW.refl (w : World) : NextW w.heap.size w w := ⟨Below.refl _ _,Nat.le_refl _⟩
theorem NextW.next {N : Nat} {w w1 w2 W : World} (h : NextW N w w1) (hb : Below W.heap.size W w2) (e : SameW w1 W := by exact ⟨rfl,rfl,rfl,rfl⟩) : NextW N w w2 := by
  have h1 : Below N w W := ⟨e.os.trans h.below.os,e.tape.trans h.below.tape,e.output.trans h.below.output,by rw [e.heap];exact h.below.size,fun k hk => by rw [e.heap];exact h.below.block k hk⟩
  have hs : N ≤ W.heap.size := by rw [e.heap];exact h.le
  exact ⟨h1.trans (hb.mono hs),Nat.le_trans hs hb.size⟩
theorem NextW.at_ {N : Nat} {w w1 W : World} (h : NextW N w w1) (e : SameW w1 W := by exact ⟨rfl,rfl,rfl,rfl⟩) : Below N w W :=
  ⟨e.os.trans h.below.os,e.tape.trans h.below.tape,e.output.trans h.below.output,by rw [e.heap];exact h.below.size,fun k hk => by rw [e.heap];exact h.below.block k hk⟩
theorem SameW.below {w W : World} (e : SameW w W) (N : Nat) : Below N w W := ⟨e.os,e.tape,e.output,by rw [e.heap];exact Nat.le_refl _,fun k _ => by rw [e.heap]⟩
theorem SameW.refl (w : World) : SameW w w := ⟨rfl,rfl,rfl,rfl⟩
theorem SameW.drew (w : World) : SameW w w.drew := ⟨rfl,rfl,rfl,rfl⟩
theorem SameW.drewN (w : World) (n : Nat) : SameW w (w.drewN n) := ⟨rfl,rfl,rfl,rfl⟩
theorem own_new2 {v1 v2 : Value} {N M : Nat} (h1 : ∀ k,v1.ownBlock = some k → N ≤ k) (hm : N ≤ M) (h : v2.ownBlock = v1.ownBlock ∨ ∃ b,v2.ownBlock = some b ∧ M ≤ b) : ∀ k,v2.ownBlock = some k → N ≤ k := fun k e => by
  rcases h with h | ⟨b,h2,h3⟩
  · exact h1 k (h ▸ e)
  · rw [h2] at e;injection e with e;omega
end Go.Proofs.Ythfaimomcbmniaa.Z
end
section
namespace Go.Proofs.Ythfaimomcbmniaa.Z
set_option linter.unusedVariables false
set_option linter.unusedSimpArgs false
abbrev Nm := ByteArray
abbrev Tn := ByteArray × ByteArray
def getT : List Tn → Nm → Option Nm
  | [],_ => none
  | p :: r,n => if p.1 = n then some p.2 else getT r n
theorem getT_cons (q : Tn) (r : List Tn) (n : Nm) : getT (q :: r) n = if q.1 = n then some q.2 else getT r n := rfl
def upL (L : List Tn) : Nat → Nm → List Nm
  | 0,_ => []
  | k + 1,n => match getT L n with
    | none => []
    | some p => n :: upL L k p
def Shallow (L : List Tn) : Prop := ∀ n,(upL L 6 n).length ≤ 5
def abv (L : List Tn) (n : Nm) : List Nm := upL L 6 n
theorem upL_stop (L : List Tn) : ∀ k n,(upL L k n).length < k → upL L (k + 1) n = upL L k n
  | 0,_,h => absurd h (Nat.not_lt_zero _)
  | k + 1,n,h => by
    unfold upL at h ⊢
    cases hg : getT L n with
    | none => rfl
    | some p =>
      rw [hg] at h
      show n :: upL L (k + 1) p = n :: upL L k p
      rw [upL_stop L k p (by simpa using h)]
theorem abv_none {L : List Tn} {n : Nm} (h : getT L n = none) : abv L n = [] := by
  unfold abv upL
  rw [h]
theorem abv_some {L : List Tn} {n p : Nm} (hs : Shallow L) (h : getT L n = some p) : abv L n = n :: abv L p := by
  have h1 : upL L 6 n = n :: upL L 5 p := by
    show (match getT L n with | none => [] | some p => n :: upL L 5 p) = _
    rw [h]
  have h2 := hs n
  rw [h1] at h2
  have h3 : (upL L 5 p).length < 5 := by simp at h2;omega
  unfold abv
  rw [h1,upL_stop L 5 p h3]
theorem abv_len {L : List Tn} (hs : Shallow L) (n : Nm) : (abv L n).length ≤ 5 := hs n
theorem getT_mem : ∀ (L : List Tn) (n p : Nm),getT L n = some p → (n,p) ∈ L
  | [],_,_,h => by cases h
  | q :: r,n,p,h => by
    unfold getT at h
    by_cases e : q.1 = n
    · rw [if_pos e] at h
      injection h with h
      subst e
      subst h
      exact List.mem_cons_self
    · rw [if_neg e] at h
      exact List.mem_cons_of_mem _ (getT_mem r n p h)
theorem getT_none : ∀ (L : List Tn) (n : Nm),getT L n = none ↔ ∀ p ∈ L,p.1 ≠ n
  | [],_ => by simp [getT]
  | q :: r,n => by
    unfold getT
    by_cases e : q.1 = n
    · rw [if_pos e]
      constructor
      · intro h;cases h
      · intro h;exact absurd e (h q List.mem_cons_self)
    · rw [if_neg e,getT_none r n]
      constructor
      · intro h p hp
        rcases List.mem_cons.1 hp with rfl | hp
        · exact e
        · exact h p hp
      · intro h p hp
        exact h p (List.mem_cons_of_mem _ hp)
theorem abv_head {L : List Tn} (hs : Shallow L) {n : Nm} (h : getT L n ≠ none) : ∃ r,abv L n = n :: r := by
  cases hg : getT L n with
  | none => exact absurd hg h
  | some p => exact ⟨_,abv_some hs hg⟩
def hasN (l : List Nm) (n : Nm) : Bool := l.any (fun x => decide (x = n))
theorem hasN_iff (l : List Nm) (n : Nm) : hasN l n = true ↔ n ∈ l := by
  unfold hasN
  rw [List.any_eq_true]
  constructor
  · rintro ⟨x,hx,h⟩
    have := of_decide_eq_true h
    subst this
    exact hx
  · intro h
    exact ⟨n,h,decide_eq_true rfl⟩
def undL (L : List Tn) (n : Nm) : List Nm := (L.map Prod.fst).filter (fun x => hasN (abv L x) n)
end Go.Proofs.Ythfaimomcbmniaa.Z
end
section
namespace Go.Proofs.YthfaimomcbmniaaW.PrintMore
set_option linter.unusedVariables false
open Go.RowKit Go.Proofs.YthfaimomcbmniaaW.PrintWords Go.Proofs.YthfaimomcbmniaaW.PrintLast
def SeqBox {α : Type} (F : Fence) (n : Nat) (P : Program) (g : Nat) (lb : Array Value) (encs : α → Array Value) (Kp : World → World → Prop) (S Sp : List α → Prop) (N Bn : Nat) (w : World) : Prop :=
  ∀ (l : Nat) (J Jx : List α → World → Prop) (W : World),Below w.heap.size w W → AbidesFrom W.heap.size J → (∀ s A v,J s A → J s (A.setCell ⟨Bn,0,none⟩ v)) →
    (∀ pre x W1,J pre W1 → pre.length < N → YieldAt F (n - 1) P l (encs x) W1 fun e W' =>
      (e = .returned (.bool true) ∧ J (pre ++ [x]) W' ∧ Kp W1 W') ∨ (e = .returned (.bool false) ∧ Jx (pre ++ [x]) W')) →
    J [] W →
    CallsIn F n P g (#[.func (.yield l) #[] #[]] ++ lb) W fun e W' => (∃ v,e = .returned v) ∧ ((∃ xs,S xs ∧ J xs W') ∨ (∃ pre,Sp pre ∧ Jx pre W'))
section
variable {F : Fence} {n : Nat} {P : Program} {w : World}
theorem range_box {α : Type} {g : Operand} {ps : Array Tmp} {assign body : Code} {Q : Exit → Act → World → Prop} {a : Act}
    (hro : F.round = none) (h1 : 1 ≤ n) {gf : Nat} {lb : Array Value} (hg : a.eval g = .func (.func gf) #[] lb) (hFg : F.fn gf) (eg : ∀ args w,(callFunc gf args).run P w = .ok (.enter gf args) w)
    {encs : α → Array Value} {Kp : World → World → Prop} {S Sp : List α → Prop} {N Bn : Nat} {w0 : World} (hseq : SeqBox F (n - 1) P gf lb encs Kp S Sp N Bn w0) (hBn : Bn < w.heap.size)
    (hKt : ∀ {A B C : World},Kp A B → Kp B C → Kp A C) (hKb : ∀ (W : World) (l : Nat) (o o' : Obj),w.heap.size ≤ l → W.heap[l]? = some o → o.isCells = false → o.isWalk = false → Kp W (W.putObj l o')) (hb0 : Below w0.heap.size w0 w) (hps : ∀ x,(encs x).size = ps.size)
    (I : List α → World → Prop) (Ix : Code → List α → World → Prop) (hI : OwnFrom w.heap.size I) (hIx : ∀ c,OwnFrom w.heap.size (Ix c)) (hIB : ∀ pre A v,I pre A → I pre (A.setCell ⟨Bn,0,none⟩ v)) (h0 : I [] w) (a₁ : α → Act)
    (hassign : ∀ (l : Nat) (x : α) (W : World) (K : Act → World → Prop),K (a₁ x) W →
      assign.wpIn (F.inRound l) (n - 1 - 1) P (Exit.then K (fun _ _ _ => False)) { tmps := (ps.zip (encs x)).foldl (fun t (p,v) => t.setIfInBounds p v) a.tmps,defers := [] } W)
    (hbody : ∀ (l : Nat) (pre : List α) (x : α) (W : World),I pre W → pre.length < N → body.wpIn (F.inRound l) (n - 1 - 1) P (ownPostG w.heap.size Kp I Ix (pre ++ [x]) W) (a₁ x) W)
    (hdone : ∀ (D : Nat) (xs : List α) (W : World),w.heap.size ≤ D → S xs → I xs W → W.heap[D]? = some (.deferred (some [])) → Q .normal { a with defers := { target := .collected D,args := #[] } :: a.defers } W)
    (hstop : ∀ (D : Nat) (c : Code) (pre : List α) (W : World),w.heap.size ≤ D → Sp pre → Ix c pre W → W.heap[D]? = some (.deferred (some [])) → c.wpIn F n P Q { a with defers := { target := .collected D,args := #[] } :: a.defers } W) :
    (Code.rangeFunc g ps assign body).wpIn F n P Q a w := by
  refine wpIn_rangeFunc fun fn hfn => ?_
  rw [hro]
  let R : LoopState → Option Code → Loop := fun st pe => { state := st,pending := pe,fn,tmps := a.tmps,params := ps,assign,body,defers := w.heap.size }
  obtain ⟨rec,hrec⟩ : ∃ rec,rec = R := ⟨_,rfl⟩
  obtain ⟨W1,hW1⟩ : ∃ W1,(w.alloc (.deferred (some []))).alloc (.loop (rec .ready none)) = W1 := ⟨_,rfl⟩
  have sz : W1.heap.size = w.heap.size + 2 := by rw [← hW1];simp
  have bL : W1.heap[w.heap.size + 1]? = some (.loop (rec .ready none)) := by
    have := World.alloc_heap_new (w.alloc (.deferred (some []))) (.loop (rec .ready none))
    rw [World.size_alloc] at this
    rw [← hW1];exact this
  have bD : W1.heap[w.heap.size]? = some (.deferred (some [])) := by
    rw [← hW1];exact (Below.heap_alloc _ _ _ (by simp)).trans (World.alloc_heap_new w _)
  have i1 : I [] W1 := by rw [← hW1];exact hI.alloc _ (hI.alloc _ h0)
  have b1 : Below w0.heap.size w0 W1 := by
    rw [← hW1];exact hb0.trans ((((Below.refl _ w).alloc (Nat.le_refl _) _).alloc (by simp) _).mono hb0.size)
  have turn : ∀ {A : World} {row : Option Nat},(∀ r,row = some r → W1.heap.size ≤ r ∧ ∃ o : Obj,A.heap[r]? = some o ∧ o.isWalk = true) → ∀ r,row = some r → w.heap.size ≤ r ∧ ∃ o : Obj,A.heap[r]? = some o ∧ o.isCells = false := fun hr r e => by
    obtain ⟨hB,o,ho,hw⟩ := hr r e
    exact ⟨by omega,o,ho,Obj.not_cells_of_walk hw⟩
  refine ⟨w.heap.size + 1,[{ target := .collected w.heap.size,args := #[] }],W1,{ target := .fn (.func gf) lb,args := #[.func (.yield (w.heap.size + 1)) #[] #[]] },W1,gf,
    #[.func (.yield (w.heap.size + 1)) #[] #[]] ++ lb,W1,by rw [← hW1,hrec];exact run_enterLoop_outer _ _ _ _ _,?_,?_,?_,fun _ => h1,?_⟩
  · simp only [resolve,hg]
    simp [go_sem]
  · intro f' hf'
    simp [Target.leads] at hf'
    subst hf'
    exact hFg
  · simp [invoke,go_sem,eg]
  refine (hseq (w.heap.size + 1)
    (fun pre W => I pre W ∧ W.heap[w.heap.size + 1]? = some (.loop (rec .ready none)) ∧ W.heap[w.heap.size]? = some (.deferred (some [])))
    (fun pre W => ∃ c,Ix c pre W ∧ W.heap[w.heap.size + 1]? = some (.loop (rec .done (some c))) ∧ W.heap[w.heap.size]? = some (.deferred (some [])))
    W1 b1
    (fun s A B row hs hg' hr => ⟨hI s A B row hs.1 hg' (turn hr),(grownBy_keeps hg' (fun r e => (hr r e).2) hs.2.1 rfl).trans hs.2.1,(grownBy_keeps hg' (fun r e => (hr r e).2) hs.2.2 rfl).trans hs.2.2⟩)
    (fun s A v hs => ⟨hIB s A v hs.1,(Below.heap_setCell A ⟨Bn,0,none⟩ v _ (show w.heap.size + 1 ≠ Bn by omega)).trans hs.2.1,(Below.heap_setCell A ⟨Bn,0,none⟩ v _ (show w.heap.size ≠ Bn by omega)).trans hs.2.2⟩)
    ?_ ⟨i1,bL,bD⟩).mono ?_
  · rintro pre x W ⟨hi,hl,hk⟩ hlen
    have lt : w.heap.size + 1 < W.heap.size := (Array.getElem?_eq_some_iff.1 hl).1
    have hy := run_yield (P := P) (args := encs x) hl (by rw [hrec];exact hps x)
    rw [hrec] at hy
    refine ⟨fn,_,assign,body,hy,roundIn_of_wpIn hfn (hassign _ x W _ ⟨_,run_beginRound hl (by rw [hrec]),?_⟩)⟩
    clear hy
    obtain ⟨V,hV⟩ : ∃ V,W.putObj (w.heap.size + 1) (.loop { rec .ready none with state := .busy }) = V := ⟨_,rfl⟩
    have vL : V.heap[w.heap.size + 1]? = some (.loop { rec .ready none with state := .busy }) := by rw [← hV];exact World.putObj_heap_same lt
    have vD : V.heap[w.heap.size]? = some (.deferred (some [])) := by rw [← hV];exact (World.putObj_heap_other (by omega)).trans hk
    have vK : Kp W V := by rw [← hV];exact hKb _ _ _ _ (by omega) hl rfl rfl
    have vI : I pre V := by rw [← hV];exact hI.putObj _ hi (by omega) hl rfl
    rw [hV]
    have fin : ∀ (jump : Option Code) (X : World),KeepsFrom w.heap.size V X → ∃ Y,Y = X.putObj (w.heap.size + 1) (.loop (rec (if jump.isNone then .ready else .done) jump)) ∧
        (Instr.endRound (w.heap.size + 1) jump).run P X = .ok (.bool jump.isNone) Y ∧ X.heap[w.heap.size + 1]? = some (.loop { rec .ready none with state := .busy }) ∧
        Y.heap[w.heap.size + 1]? = some (.loop (rec (if jump.isNone then .ready else .done) jump)) ∧ Y.heap[w.heap.size]? = some (.deferred (some [])) := fun jump X hk3 => by
      have hl3 := hk3.same _ _ (by omega) vL rfl
      refine ⟨_,rfl,?_,hl3,World.putObj_heap_same (Array.getElem?_eq_some_iff.1 hl3).1,(World.putObj_heap_other (by omega)).trans (hk3.same _ _ (Nat.le_refl _) vD rfl)⟩
      have := run_endRound (P := P) jump hl3
      rw [hrec] at this ⊢
      exact this
    refine wpIn_mono (hbody _ pre x V vI hlen) ?_
    have out : ∀ (c : Code) (X : World),KeepsFrom w.heap.size V X → Ix c (pre ++ [x]) X → ∃ v Y,(Instr.endRound (w.heap.size + 1) (some c)).run P X = .ok v Y ∧ ((Ending.returned v = .returned (.bool true) ∧ (I (pre ++ [x]) Y ∧ Y.heap[w.heap.size + 1]? = some (.loop (rec .ready none)) ∧ Y.heap[w.heap.size]? = some (.deferred (some []))) ∧ Kp W Y) ∨ (Ending.returned v = .returned (.bool false) ∧ ∃ c,Ix c (pre ++ [x]) Y ∧ Y.heap[w.heap.size + 1]? = some (.loop (rec .done (some c))) ∧ Y.heap[w.heap.size]? = some (.deferred (some [])))) := fun c X hk3 hi3 => by
      obtain ⟨Y,hY,hr,hl3,hl4,hk4⟩ := fin (some c) X hk3
      exact ⟨_,Y,hr,.inr ⟨rfl,c,by rw [hY];exact (hIx c).putObj _ hi3 (by omega) hl3 rfl,hl4,hk4⟩⟩
    rintro e a3 X hp
    cases e with
    | normal =>
      obtain ⟨hk3,hkp3,hi3⟩ := hp
      obtain ⟨Y,hY,hr,hl3,hl4,hk4⟩ := fin none X hk3
      exact ⟨_,Y,hr,.inl ⟨rfl,⟨by rw [hY];exact hI.putObj _ hi3 (by omega) hl3 rfl,hl4,hk4⟩,hKt vK (hKt hkp3 (by rw [hY];exact hKb _ _ _ _ (by omega) hl3 rfl rfl))⟩⟩
    | ret => exact out .ret X hp.1 hp.2
    | exit id => exact out (.exit id) X hp.1 hp.2
    | goto t => exact out (.goto t) X hp.1 hp.2
    | panic ch => exact hp.elim
    | outgrown => exact hp.elim
  · rintro e X ⟨⟨v,rfl⟩,(⟨xs,hS,hi,hl,hk⟩ | ⟨pre,hSp,c,hi,hl,hk⟩)⟩
    · exact ⟨none,_,by have := run_endLoop (P := P) hl (by rw [hrec];simp [R]);rw [hrec] at this;exact this,hdone _ xs _ (Nat.le_refl _) hS (hI.putObj _ hi (by omega) hl rfl) ((World.putObj_heap_other (by omega)).trans hk)⟩
    · exact ⟨some c,_,by have := run_endLoop (P := P) hl (by rw [hrec];simp [R]);rw [hrec] at this;exact this,hstop _ c pre _ (Nat.le_refl _) hSp ((hIx c).putObj _ hi (by omega) hl rfl) ((World.putObj_heap_other (by omega)).trans hk)⟩
end
end Go.Proofs.YthfaimomcbmniaaW.PrintMore
end
section
namespace Go.Proofs.Ythfaimomcbmniaa.Z
set_option linter.unusedVariables false
set_option linter.unusedSimpArgs false
open Go.RowKit Go.Shelf Go.Maps Go.Proofs.YthfaimomcbmniaaW.PrintWords Go.Proofs.YthfaimomcbmniaaW.PrintLast Go.Proofs.YthfaimomcbmniaaW.PrintMore Go.Proofs.Ythfaimomcbmniaa.Cmp
attribute [local go_sem] Oper.semAt_some
abbrev tT : Nat := 138
abbrev tM : Nat := 136
def lk (n : Nm) : Lit := .string n.data.toList
theorem lk_inj {a b : Nm} (h : lk a = lk b) : a = b := by
  unfold lk at h
  injection h with h
  cases a;cases b
  simpa using congrArg List.toArray h
def mapD (L : List Tn) : DataW Unit := .map (L.map fun p => (lk p.1,.lit (lk p.2)))
theorem lawS : Keyed Try.prog 9 := string_keyed Try.underlying9
structure TreeAt (w : World) (t b : Nat) (L : List Tn) : Prop where
  blk : w.heap[t]? = some (.cells #[.map (some b)] tT (0,0))
  map : w.ownsMap Try.prog 9 (plainElem Try.prog 9) b L.length (mapD L)
theorem TreeAt.below {w w1 : World} {t b : Nat} {L : List Tn} (h : TreeAt w t b L) (hb : Below w.heap.size w w1) : TreeAt w1 t b L :=
  ⟨(hb.block t (blk_lt h.blk)).trans h.blk,h.map.kept (row := none) ⟨hb.os,hb.tape,hb.output,hb.size,fun k hk _ => hb.block k hk⟩ (by simp)⟩
theorem TreeAt.stay {w w1 : World} {t b n₀ : Nat} {L : List Tn} (h : TreeAt w t b L) (hb : Below n₀ w w1) (ht : t < n₀) (hbn : b < n₀) : TreeAt w1 t b L := by
  refine ⟨(hb.block t ht).trans h.blk,?_⟩
  obtain ⟨es,clock,h1,h2⟩ := h.map
  exact ⟨es,clock,(hb.block b hbn).trans h1,h2⟩
theorem same_lk (a b : Nm) : (lk a).sameKey (lk b) = decide (a = b) := by
  unfold lk Lit.sameKey
  by_cases h : a = b
  · subst h;simp
  · rw [decide_eq_false h]
    apply Bool.eq_false_iff.2
    intro e
    exact h (lk_inj (by unfold lk;rw [eq_of_beq e]))
theorem find_mapD (n : Nm) : ∀ L : List Tn,(L.map fun p => (lk p.1,(DataW.lit (lk p.2) : DataW Unit))).find? (fun p => p.1.sameKey (lk n)) = (getT L n).map (fun p => (lk n,.lit (lk p)))
  | [] => rfl
  | q :: r => by
    unfold getT
    rw [List.map_cons,List.find?_cons]
    show (match (lk q.1).sameKey (lk n) with | true => _ | false => _) = _
    rw [same_lk]
    by_cases e : q.1 = n
    · rw [decide_eq_true e,if_pos e,e];rfl
    · rw [decide_eq_false e,if_neg e]
      exact find_mapD n r
theorem at_mapD (L : List Tn) (n : Nm) (z : DataW Unit) : (mapD L).atKey (lk n) z = match getT L n with | some p => .lit (lk p) | none => z := by
  unfold mapD DataW.atKey
  simp only [find_mapD]
  cases getT L n <;> rfl
theorem has_mapD (L : List Tn) (n : Nm) : Maps.has (mapD L) (lk n) = (getT L n).isSome := by
  unfold mapD
  rw [has_eq]
  induction L with
  | nil => rfl
  | cons q r ih =>
    rw [List.map_cons,List.any_cons,ih]
    show ((lk q.1).sameKey (lk n) || _) = _
    rw [same_lk]
    rw [getT_cons]
    by_cases e : q.1 = n
    · rw [decide_eq_true e,if_pos e];rfl
    · rw [decide_eq_false e,if_neg e];rfl
theorem zeroS (w : World) : (zeroValue 9).run Try.prog w = .ok (.string ⟨#[]⟩) w := Try.zeroValue9 w
theorem plainS (s : Nm) (h : s.size ≤ maxLen) : plainElem (H := Unit) Try.prog 9 (.string s) = some (.lit (lk s),[]) := plainElem_string Try.underlying9 h
def emp : Nm := ⟨#[]⟩
theorem TreeAt.look2 {w : World} {t b : Nat} {L : List Tn} (h : TreeAt w t b L) (n : Nm) (hn : n.size ≤ maxLen) :
    (Instr.lookup tM (.map (some b)) (.string n) true).run Try.prog w = .ok (.tuple #[.string ((getT L n).getD emp),.bool (getT L n).isSome]) w := by
  obtain ⟨v,ps,h1,h2⟩ := h.map.look_ok lawS Try.underlying136 (zeroS w) (plainS emp (by decide)) (Go.WideMaps.keyOf_string_mk Try.underlying9 hn)
  obtain ⟨s,rfl,h3,_⟩ := plainElem_string_inv Try.underlying9 h2
  have h4 : (mapD L).atKey (lk n) (.lit (lk emp)) = .lit (lk s) := congrArg Prod.fst h3
  rw [at_mapD] at h4
  have h5 : s = (getT L n).getD emp := by
    cases hg : getT L n with
    | none => rw [hg] at h4;exact (lk_inj (DataW.lit.inj h4)).symm
    | some p => rw [hg] at h4;exact (lk_inj (DataW.lit.inj h4)).symm
  have h6 : Maps.has (mapD L) (.string n.data.toList) = (getT L n).isSome := has_mapD L n
  rw [h6,h5] at h1
  exact h1
theorem TreeAt.look {w : World} {t b : Nat} {L : List Tn} (h : TreeAt w t b L) (n : Nm) (hn : n.size ≤ maxLen) :
    (Instr.lookup tM (.map (some b)) (.string n) false).run Try.prog w = .ok (.string ((getT L n).getD emp)) w := by
  obtain ⟨v,ps,h1,h2⟩ := h.map.lookup lawS Try.underlying136 (zeroS w) (plainS emp (by decide)) (Go.WideMaps.keyOf_string_mk Try.underlying9 hn)
  obtain ⟨s,rfl,h3,_⟩ := plainElem_string_inv Try.underlying9 h2
  have h4 : (mapD L).atKey (lk n) (.lit (lk emp)) = .lit (lk s) := congrArg Prod.fst h3
  rw [at_mapD] at h4
  have h5 : s = (getT L n).getD emp := by
    cases hg : getT L n with
    | none => rw [hg] at h4;exact (lk_inj (DataW.lit.inj h4)).symm
    | some p => rw [hg] at h4;exact (lk_inj (DataW.lit.inj h4)).symm
  rw [h5] at h1
  exact h1
def TreeV (w : World) (n₀ : Nat) (v : Value) (L : List Tn) : Prop := (v = .pointer none ∧ L = []) ∨ ∃ t b,v = .pointer (some ⟨t,0,none⟩) ∧ t < n₀ ∧ b < n₀ ∧ TreeAt w t b L
theorem TreeV.stay {w w1 : World} {n₀ : Nat} {v : Value} {L : List Tn} (h : TreeV w n₀ v L) (hb : Below n₀ w w1) : TreeV w1 n₀ v L := by
  rcases h with h | ⟨t,b,e,h1,h2,h3⟩
  · exact .inl h
  · exact .inr ⟨t,b,e,h1,h2,h3.stay hb h1 h2⟩
theorem TreeAt.v {w : World} {t b : Nat} {L : List Tn} (h : TreeAt w t b L) : TreeV w w.heap.size (.pointer (some ⟨t,0,none⟩)) L := .inr ⟨t,b,rfl,blk_lt h.blk,h.map.lt,h⟩
set_option maxHeartbeats 2000000 in
set_option maxRecDepth 100000 in
theorem ten_has {w : World} {n₀ : Nat} {v : Value} {L : List Tn} (h : TreeV w n₀ v L) (n : Nm) (hn : n.size ≤ maxLen) : Calls Try.prog 59 #[v,.string n] w fun e w' => e = .returned (.bool (getT L n).isSome) ∧ w' = w := by
  rcases h with ⟨rfl,rfl⟩ | ⟨t,b,rfl,_,_,h⟩
  · go_enter Try.func59,Try.ntmps59
    go_wp2
    go_ret
    exact ⟨rfl,rfl⟩
  · have x0 : w.cell? ⟨t,0,none⟩ = some (.map (some b)) := blk_cell h.blk 0
    have hl := h.look2 n hn
    clear h
    go_enter Try.func59,Try.ntmps59
    go_wp2
    go_ret
    exact ⟨rfl,rfl⟩
end Go.Proofs.Ythfaimomcbmniaa.Z
end
section
namespace Go.Proofs.Ythfaimomcbmniaa.Z
set_option linter.unusedVariables false
set_option linter.unusedSimpArgs false
open Go.RowKit Go.Shelf Go.Maps Go.Proofs.YthfaimomcbmniaaW.PrintWords Go.Proofs.YthfaimomcbmniaaW.PrintLast Go.Proofs.YthfaimomcbmniaaW.PrintMore Go.Proofs.Ythfaimomcbmniaa.Cmp
attribute [local go_sem] Oper.semAt_some
abbrev tP : Nat := 75
def encN (x : Nm) : Array Value := #[.string x]
structure KpU (n₀ Bt Bn : Nat) (W W' : World) : Prop where
  below : Below n₀ W W'
  bt : W'.heap[Bt]? = W.heap[Bt]?
  bn : W'.heap[Bn]? = W.heap[Bn]?
theorem KpU.trans {n₀ Bt Bn : Nat} {A B C : World} (h : KpU n₀ Bt Bn A B) (k : KpU n₀ Bt Bn B C) : KpU n₀ Bt Bn A C := ⟨h.below.trans k.below,k.bt.trans h.bt,k.bn.trans h.bn⟩
set_option maxHeartbeats 2000000 in
set_option maxRecDepth 100000 in
theorem ten_up (v : Value) (hv : v = .pointer none ∨ ∃ t : Nat,v = .pointer (some ⟨t,0,none⟩)) (n : Nm) (w : World) : Calls Try.prog 107 #[v,.string n] w fun e w' => e = .returned (.func (.func 129) #[] #[.pointer (some ⟨w.heap.size,0,none⟩),.pointer (some ⟨w.heap.size + 1,0,none⟩)]) ∧ w' = (w.alloc (.cells #[v] tP)).alloc (.cells #[.string n] 9) := by
  rcases hv with rfl | ⟨t,rfl⟩
  · go_enter Try.func107,Try.ntmps107
    go_wp2
    go_ret
    exact ⟨rfl,rfl⟩
  · go_enter Try.func107,Try.ntmps107
    go_wp2
    go_ret
    exact ⟨rfl,rfl⟩
def leftU (L : List Tn) (Bn : Nat) (w : World) : Nat := match w.cell? ⟨Bn,0,none⟩ with
  | some (.string s) => (abv L s).length
  | _ => 0
theorem leftU_eq {L : List Tn} {Bn : Nat} {w : World} {s : Nm} (h : w.cell? ⟨Bn,0,none⟩ = some (.string s)) : leftU L Bn w = (abv L s).length := by
  unfold leftU
  rw [h]
set_option maxRecDepth 100000 in
set_option maxHeartbeats 4000000 in
theorem up_walk (n l Bt Bn n₀ N : Nat) (v : Value) (L : List Tn) (nm : Nm) (hs : Shallow L) (hk : ∀ p ∈ L,p.2.size ≤ maxLen) (hnm : nm.size ≤ maxLen) (hne : Bt ≠ Bn) (hN : n₀ ≤ Bn) (hNN : (abv L nm).length ≤ N) (J Jx : List Nm → World → Prop)
    (hJB : ∀ s A u,J s A → J s (A.setCell ⟨Bn,0,none⟩ u)) (hJd : ∀ s A,J s A → J s A.drew)
    (hY : ∀ pre x W,J pre W → pre.length < N → YieldAt Fence.wide (n - 1) Try.prog l (encN x) W fun e W' =>
      (e = .returned (.bool true) ∧ J (pre ++ [x]) W' ∧ KpU n₀ Bt Bn W W') ∨ (e = .returned (.bool false) ∧ Jx (pre ++ [x]) W'))
    (W : World) (hT : TreeV W n₀ v L) (hBt : W.heap[Bt]? = some (.cells #[v] tP (0,0))) (hBn : W.heap[Bn]? = some (.cells #[.string nm] 9 (0,0))) (h0 : J [] W) :
    CallsIn Fence.wide n Try.prog 129 #[.func (.yield l) #[] #[],.pointer (some ⟨Bt,0,none⟩),.pointer (some ⟨Bn,0,none⟩)] W fun e W' => (∃ v,e = .returned v) ∧
      ((∃ ys,ys = abv L nm ∧ J ys W') ∨ (∃ pre,pre <+: abv L nm ∧ Jx pre W')) := by
  have hdd : ∀ k : Nat,(Fence.wide.depth.isSome = true → 1 ≤ k) := fun k h => by cases h
  have hwH : Fence.wide.fn 59 := trivial
  refine callsIn_of_wp Try.func129 rfl trivial ?_ rfl
  simp only [Try.ntmps129,List.size_toArray,List.length_cons,List.length_nil,Nat.reduceAdd,Nat.reduceSub,Array.replicate_succ,Array.replicate_zero,List.push_toArray,List.append_toArray,List.nil_append,List.cons_append]
  gi_wp2
  gi_loopw [4] (fun _ wr => ∃ (pre : List Nm) (x : Nm),Aside0 (abv L nm = pre ++ abv L x ∧ x.size ≤ maxLen) ∧ Aside0 (TreeV wr n₀ v L) ∧ Aside0 (wr.heap[Bt]? = some (.cells #[v] tP (0,0))) ∧ Aside0 (wr.heap[Bn]? = some (.cells #[.string x] 9 (0,0))) ∧ Aside0 (J pre wr)) (fun _ wr => leftU L Bn wr)
  case atStart => exact ⟨[],nm,⟨⟨rfl,hnm⟩⟩,⟨hT⟩,⟨hBt⟩,⟨hBn⟩,⟨h0⟩⟩
  case round =>
    rename World => wr
    clear hT hBt hBn h0
    obtain ⟨pre,x,HX,HT,HBT,HBN,HJ⟩ := hrel
    have b0 : wr.cell? ⟨Bt,0,none⟩ = some v := blk_cell HBT.out 0
    have b1 : wr.cell? ⟨Bn,0,none⟩ = some (.string x) := blk_cell HBN.out 0
    cases hg : getT L x with
    | none =>
      have HH := Aside0.mk (callsIn_wide (n := n - 1)|>.2 (ten_has HT.out x HX.out.2))
      rw [hg] at HH
      gi_wp2_with ((try refine ⟨hdd _,?_⟩);gi_at_call 59;refine HH.out.mono ?_;rintro e w' ⟨rfl,rfl⟩)
      refine ⟨(fun _ h => by cases h),?_⟩
      gi_wp2
      go_end0
      exact ⟨⟨_,rfl⟩,.inl ⟨pre,by rw [HX.out.1,abv_none hg,List.append_nil],HJ.out⟩⟩
    | some p =>
      have HH := Aside0.mk (callsIn_wide (n := n - 1)|>.2 (ten_has HT.out x HX.out.2))
      rw [hg] at HH
      have HG := Aside0.mk hg
      have HA := Aside0.mk (abv_some hs hg)
      have HP := Aside0.mk (hk _ (getT_mem L x p hg))
      obtain ⟨fn,tmps,assign,body,hy,hR⟩ := hY pre x wr HJ.out (by have h1 := congrArg List.length HX.out.1;rw [HA.out,List.length_append,List.length_cons] at h1;omega)
      dsimp only [encN] at hy
      gi_wp2_with (first
        | ((try refine ⟨hdd _,?_⟩);gi_at_call 59;refine HH.out.mono ?_;clear HH;rintro e w' ⟨rfl,rfl⟩)
        | ((try refine ⟨hdd _,?_⟩);refine hR.mono ?_;clear hR;rintro e W2 (⟨rfl,hJ2,hK2⟩ | ⟨rfl,hx2⟩)))
      · rcases HT.out with ⟨rfl,rfl⟩ | ⟨t,b,rfl,ht,hb,hA⟩
        · cases hg
        · have A2 := Aside0.mk (hA.stay hK2.below ht hb)
          have J2 := Aside0.mk hJ2
          have BT2 := Aside0.mk (hK2.bt.trans HBT.out)
          have BN2 := Aside0.mk (hK2.bn.trans HBN.out)
          have T2 := Aside0.mk (HT.out.stay hK2.below)
          have TN := Aside0.mk (show t ≠ Bn by omega)
          have c0 : W2.cell? ⟨Bt,0,none⟩ = some (.pointer (some ⟨t,0,none⟩)) := blk_cell BT2.out 0
          have c1 : W2.cell? ⟨Bn,0,none⟩ = some (.string x) := blk_cell BN2.out 0
          have c2 : W2.cell? ⟨t,0,none⟩ = some (.map (some b)) := blk_cell A2.out.blk 0
          have z0 : ∀ o,W2.frozen? ⟨Bn,o,none⟩ = false := fun o => blk_frozen BN2.out o
          have l0 := (A2.out.below (below_drew (Below.refl _ _))).look x HX.out.2
          have l1 := A2.out.look x HX.out.2
          rw [hg] at l0 l1
          clear hg hA hJ2 hK2 HT HBT HBN HJ b0 ht hb
          refine wpIn_wide.2 ?_
          go_region
          have BNE := Aside0.mk (show ((W2.setCell ⟨Bn,0,none⟩ (.string p)).drew).heap[Bn]? = some (.cells #[.string p] 9 (0,0)) from blk_put BN2.out 0 _ rfl)
          have BTE := Aside0.mk (show ((W2.setCell ⟨Bn,0,none⟩ (.string p)).drew).heap[Bt]? = some (.cells #[.pointer (some ⟨t,0,none⟩)] tP (0,0)) from (Below.heap_setCell W2 ⟨Bn,0,none⟩ (.string p) Bt hne).trans BT2.out)
          have HBE : Below n₀ W2 ((W2.setCell ⟨Bn,0,none⟩ (.string p)).drew) := below_drew ⟨rfl,rfl,rfl,by simp [World.setCell],fun k hk => Below.heap_setCell W2 ⟨Bn,0,none⟩ (.string p) k (show k ≠ Bn by omega)⟩
          have TE := Aside0.mk (T2.out.stay HBE)
          have JE := Aside0.mk (hJd _ _ (hJB _ _ (.string p) J2.out))
          have XE := Aside0.mk (show abv L nm = (pre ++ [x]) ++ abv L p ∧ p.size ≤ maxLen from ⟨by rw [HX.out.1,HA.out];simp,HP.out⟩)
          have M1 := leftU_eq (L := L) (blk_cell BNE.out 0)
          have M0 := leftU_eq (L := L) b1
          rw [HA.out,List.length_cons] at M0
          clear c0 c1 c2 z0 l0 l1 HBE
          generalize (W2.setCell ⟨Bn,0,none⟩ (.string p)).drew = WE at BNE BTE TE JE M1 ⊢
          go_roundw
          case rel => exact ⟨_,_,_,_,_,_,_,_,_,_,_,_,_,_,⟨pre ++ [x],p,XE,TE,BTE,BNE,JE⟩,rfl⟩
          case measure => rw [M1,M0];omega
      · go_end0
        exact ⟨⟨_,rfl⟩,.inr ⟨pre ++ [x],⟨abv L p,by rw [HX.out.1,HA.out];simp⟩,hx2⟩⟩
theorem up_seq (n Bt Bn n₀ : Nat) (v : Value) (L : List Tn) (nm : Nm) (w : World) (hs : Shallow L) (hk : ∀ p ∈ L,p.2.size ≤ maxLen) (hnm : nm.size ≤ maxLen) (hne : Bt ≠ Bn) (hN : n₀ ≤ Bn) (hT : TreeV w n₀ v L) (hn : n₀ ≤ w.heap.size)
    (hBt : w.heap[Bt]? = some (.cells #[v] tP (0,0))) (hBn : w.heap[Bn]? = some (.cells #[.string nm] 9 (0,0))) :
    SeqBox Fence.wide n Try.prog 129 #[.pointer (some ⟨Bt,0,none⟩),.pointer (some ⟨Bn,0,none⟩)] encN (KpU n₀ Bt Bn) (fun ys => ys = abv L nm) (fun pre => pre <+: abv L nm) (abv L nm).length Bn w := fun l J Jx W hW hJ hJB hY h0 =>
  up_walk n l Bt Bn n₀ (abv L nm).length v L nm hs hk hnm hne hN (Nat.le_refl _) J Jx hJB (fun s A h => hJ s A A.drew none h ⟨rfl,rfl,rfl,Nat.le_refl _,fun _ _ _ => rfl⟩ (fun r e => by cases e)) hY W (hT.stay (hW.mono hn))
    ((hW.block Bt (blk_lt hBt)).trans hBt) ((hW.block Bn (blk_lt hBn)).trans hBn) h0
end Go.Proofs.Ythfaimomcbmniaa.Z
end
section
namespace Go.Proofs.Ythfaimomcbmniaa.Z
set_option linter.unusedVariables false
set_option linter.unusedSimpArgs false
open Go.RowKit Go.Shelf Go.Maps Go.Proofs.YthfaimomcbmniaaW.PrintWords Go.Proofs.YthfaimomcbmniaaW.PrintLast Go.Proofs.YthfaimomcbmniaaW.PrintMore Go.Proofs.Ythfaimomcbmniaa.Cmp
attribute [local go_sem] Oper.semAt_some
theorem TreeV.ptr {w : World} {n₀ : Nat} {v : Value} {L : List Tn} (h : TreeV w n₀ v L) : v = .pointer none ∨ ∃ t : Nat,v = .pointer (some ⟨t,0,none⟩) := by
  rcases h with ⟨h,_⟩ | ⟨t,b,h,_⟩
  · exact .inl h
  · exact .inr ⟨t,h⟩
theorem kpU_b {n₀ Bt Bn : Nat} {w : World} (h1 : n₀ ≤ w.heap.size) (hBt : Bt < w.heap.size) (hBn : Bn < w.heap.size) (W : World) (l : Nat) (o o' : Obj) (hl : w.heap.size ≤ l) (h : W.heap[l]? = some o) (hc : o.isCells = false) (hw : o.isWalk = false) : KpU n₀ Bt Bn W (W.putObj l o') :=
  ⟨belowK_b h1 W l o o' hl h hc hw,World.putObj_heap_other (by omega),World.putObj_heap_other (by omega)⟩
theorem range_up {n : Nat} {g : Operand} {p : Tmp} {assign body : Code} {Q : Exit → Act → World → Prop} {a : Act} {w : World} {n₀ Bt Bn : Nat} {v : Value} {L : List Tn} {nm : Nm} (h1 : 1 ≤ n)
    (hg : a.eval g = .func (.func 129) #[] #[.pointer (some ⟨Bt,0,none⟩),.pointer (some ⟨Bn,0,none⟩)]) (hs : Shallow L) (hk : ∀ p ∈ L,p.2.size ≤ maxLen) (hnm : nm.size ≤ maxLen) (hne : Bt ≠ Bn) (hN : n₀ ≤ Bn) (hT : TreeV w n₀ v L) (hn : n₀ ≤ w.heap.size)
    (hBt : w.heap[Bt]? = some (.cells #[v] tP (0,0))) (hBn : w.heap[Bn]? = some (.cells #[.string nm] 9 (0,0)))
    (I : List Nm → World → Prop) (Ix : Code → List Nm → World → Prop) (hI : OwnFrom w.heap.size I) (hIx : ∀ c,OwnFrom w.heap.size (Ix c)) (hIB : ∀ pre A u,I pre A → I pre (A.setCell ⟨Bn,0,none⟩ u)) (h0 : I [] w) (a₁ : Nm → Act)
    (hassign : ∀ (l : Nat) (x : Nm) (W : World) (K : Act → World → Prop),K (a₁ x) W →
      assign.wpIn (Fence.wide.inRound l) (n - 1 - 1) Try.prog (Exit.then K (fun _ _ _ => False)) { tmps := ((#[p] : Array Tmp).zip (encN x)).foldl (fun t (p,v) => t.setIfInBounds p v) a.tmps,defers := [] } W)
    (hbody : ∀ (l : Nat) (pre : List Nm) (x : Nm) (W : World),I pre W → pre.length < (abv L nm).length → body.wpIn (Fence.wide.inRound l) (n - 1 - 1) Try.prog (ownPostG w.heap.size (KpU n₀ Bt Bn) I Ix (pre ++ [x]) W) (a₁ x) W)
    (hdone : ∀ (D : Nat) (W : World),w.heap.size ≤ D → I (abv L nm) W → W.heap[D]? = some (.deferred (some [])) → Q .normal { a with defers := { target := .collected D,args := #[] } :: a.defers } W)
    (hstop : ∀ (D : Nat) (c : Code) (pre : List Nm) (W : World),w.heap.size ≤ D → pre <+: abv L nm → Ix c pre W → W.heap[D]? = some (.deferred (some [])) → c.wpIn Fence.wide n Try.prog Q { a with defers := { target := .collected D,args := #[] } :: a.defers } W) :
    (Code.rangeFunc g #[p] assign body).wpIn Fence.wide n Try.prog Q a w :=
  range_box rfl h1 hg trivial (enters_of Try.func129 (by kernel_rfl) rfl) (up_seq (n - 1) Bt Bn n₀ v L nm w hs hk hnm hne hN hT hn hBt hBn) (blk_lt hBn) KpU.trans (kpU_b hn (blk_lt hBt) (blk_lt hBn)) (Below.refl _ _) (fun _ => rfl)
    I Ix hI hIx hIB h0 a₁ (fun l x W K hK => hassign l x W K hK) hbody (fun D xs W h1 h2 h3 h4 => by subst h2;exact hdone D W h1 h3 h4) hstop
theorem cells_own {W W' : World} {row : Option Nat} {k : Nat} {cs : Array Value} {q : TypeId} (hk : W.heap[k]? = some (.cells cs q (0,0))) (hg : W.grownBy W' row) {B : Nat} (hr : ∀ r,row = some r → B ≤ r ∧ ∃ o : Obj,W.heap[r]? = some o ∧ o.isCells = false) : W'.heap[k]? = some (.cells cs q (0,0)) :=
  (hg.block k (blk_lt hk) (fun e => by
    obtain ⟨_,o,ho,hc⟩ := hr k e.symm
    rw [hk] at ho
    cases ho
    cases hc)).trans hk
theorem below_set {N : Nat} {w W : World} (h : Below N w W) {p : Addr} (hp : N ≤ p.block) (u : Value) : Below N w (W.setCell p u) :=
  ⟨h.os,h.tape,h.output,by simpa [World.setCell] using h.size,fun k hk => (Below.heap_setCell W p u k (by omega)).trans (h.block k hk)⟩
set_option maxRecDepth 100000 in
set_option maxHeartbeats 4000000 in
theorem ten_depth {w : World} {v : Value} {L : List Tn} (h : TreeV w w.heap.size v L) (hs : Shallow L) (hk : ∀ p ∈ L,p.2.size ≤ maxLen) (nm : Nm) (hn : nm.size ≤ maxLen) :
    Calls Try.prog 52 #[v,.string nm] w fun e w' => e = .returned (.int .i64 ((abv L nm).length : Int)) ∧ Below w.heap.size w w' := by
  have HT := Aside0.mk h
  have hp := h.ptr
  have UP := Aside0.mk (fun w' => ten_up v hp nm w')
  obtain ⟨q,hq⟩ : ∃ q,v = .pointer q := by rcases hp with h | ⟨t,h⟩ <;> exact ⟨_,h⟩
  subst hq
  have HL := Aside0.mk (abv_len hs nm)
  have hdd : ∀ k : Nat,(Fence.wide.depth.isSome = true → 1 ≤ k) := fun k h => by cases h
  have hwU : Fence.wide.fn 107 := trivial
  clear h hp
  refine (callsIn_wide (n := 3)).1 ?_
  refine callsIn_of_wp_marks Try.func52 rfl trivial ?_ rfl
  simp only [Try.ntmps52,List.size_toArray,List.length_cons,List.length_nil,Nat.reduceAdd,Nat.reduceSub,Array.replicate_succ,Array.replicate_zero,List.push_toArray,List.append_toArray,List.nil_append,List.cons_append]
  gi_wp2_with ((try refine ⟨hdd _,?_⟩);gi_at_call 107;refine (callsIn_wide.2 (UP.out _)).mono ?_;rintro e w' ⟨rfl,rfl⟩)
  obtain ⟨W0,hW0⟩ : ∃ W0,(((w.alloc (.cells #[.int .i64 0] 3)).alloc (.cells #[.pointer q] tP)).alloc (.cells #[.string nm] 9)) = W0 := ⟨_,rfl⟩
  have sz : W0.heap.size = w.heap.size + 3 := by rw [← hW0];simp
  have hB0 : Below w.heap.size w W0 := by rw [← hW0];exact below_alloc (below_alloc (below_alloc (Below.refl _ _) _) _) _
  have k0 : W0.heap[w.heap.size]? = some (.cells #[.int .i64 0] 3 (0,0)) := by rw [← hW0];exact blk_alloc (blk_alloc (blk_new w _) _) _
  have k1 : W0.heap[w.heap.size + 1]? = some (.cells #[.pointer q] tP (0,0)) := by
    rw [← hW0]
    have := blk_new (w.alloc (.cells #[.int .i64 0] 3)) (.cells #[.pointer q] tP)
    rw [World.size_alloc] at this
    exact blk_alloc this _
  have k2 : W0.heap[w.heap.size + 1 + 1]? = some (.cells #[.string nm] 9 (0,0)) := by
    rw [← hW0]
    have := blk_new ((w.alloc (.cells #[.int .i64 0] 3)).alloc (.cells #[.pointer q] tP)) (.cells #[.string nm] 9)
    rw [World.size_alloc,World.size_alloc] at this
    exact this
  rw [hW0]
  have T0 := HT.out.stay hB0
  have HB0 := Aside0.mk hB0
  clear hW0
  refine range_up (n := 3) (n₀ := w.heap.size) (v := .pointer q) (L := L) (nm := nm) (by omega) rfl hs hk hn (by omega) (by omega) T0 (by omega) k1 k2
    (fun pre W => W.heap[w.heap.size]? = some (.cells #[.int .i64 (pre.length : Int)] 3 (0,0)) ∧ Below w.heap.size w W) (fun _ _ _ => False)
    (fun s A B row hs hg hr => ⟨cells_own hs.1 hg hr,hs.2.grown hg hs.2.size (fun k e => by have := (hr k e).1;omega)⟩) (fun _ _ _ _ _ hs _ _ => hs)
    (fun pre A u hs => ⟨(Below.heap_setCell A ⟨w.heap.size + 1 + 1,0,none⟩ u w.heap.size (show w.heap.size ≠ w.heap.size + 1 + 1 by omega)).trans hs.1,below_set hs.2 (p := ⟨w.heap.size + 1 + 1,0,none⟩) (show w.heap.size ≤ w.heap.size + 1 + 1 by omega) u⟩)
    ⟨k0,hB0⟩
    (fun x => { tmps := #[.pointer q,.string nm,undef,undef,.int .i64 0,.pointer (some ⟨w.heap.size,0,none⟩),.pointer q,.string nm,.func (.func 129) #[] #[.pointer (some ⟨w.heap.size + 1,0,none⟩),.pointer (some ⟨w.heap.size + 1 + 1,0,none⟩)],.string x,undef,undef,undef],defers := [] }) ?assign ?body ?done ?stop
  case assign =>
    intro l x W K hK
    simp only [encN]
    gi_wp2
    first | exact hK | simpa using hK
  case body =>
    rintro l pre x W ⟨hc,hB⟩ hlt
    have c0 := blk_cell hc 0
    have f0 := fun o => blk_frozen hc o
    have HLT := Aside0.mk hlt
    have HC := Aside0.mk hc
    have HB := Aside0.mk hB
    clear hc hB hlt
    have hlt : (pre.length : Int) < 1000 := by have := HLT.out;have := HL.out;omega
    gi_wp2
    have e1 : ((pre ++ [x]).length : Int) = (pre.length : Int) + 1 := by rw [List.length_append,List.length_singleton];omega
    refine ⟨(KeepsOthers.setCell _ _ _).from _,⟨below_set (Below.refl _ _) (p := ⟨w.heap.size,0,none⟩) (Nat.le_refl _) _,Below.heap_setCell W ⟨w.heap.size,0,none⟩ _ _ (show w.heap.size + 1 ≠ w.heap.size by omega),Below.heap_setCell W ⟨w.heap.size,0,none⟩ _ _ (show w.heap.size + 1 + 1 ≠ w.heap.size by omega)⟩,?_,below_set HB.out (p := ⟨w.heap.size,0,none⟩) (Nat.le_refl _) _⟩
    rw [e1]
    exact blk_put HC.out 0 _ rfl
  case done =>
    rintro D W hD ⟨hc,hB⟩ hK
    have c0 := blk_cell hc 0
    have HB := Aside0.mk hB
    have HK := Aside0.mk hK
    clear hc hB hK
    gi_wp2
    refine ⟨by simp,.inl ⟨_,_,rfl,run_takeDeferred HK.out,?_⟩⟩
    exact ⟨_,results_tmp rfl _ _ _,rfl,HB.out.trans (belowK_b (w := w) (Nat.le_refl _) W D _ _ (by omega) HK.out rfl rfl)⟩
  case stop =>
    rintro D c pre W _ _ h _
    exact h.elim
theorem eqS (x y : Nm) : (ByteArray.toList x == ByteArray.toList y) = decide (x = y) := by
  rw [ByteArray.toList_eq,ByteArray.toList_eq]
  by_cases h : x = y
  · subst h;simp
  · rw [decide_eq_false h]
    apply Bool.eq_false_iff.2
    intro e
    exact h (lk_inj (by unfold lk;rw [eq_of_beq e]))
set_option maxRecDepth 100000 in
set_option maxHeartbeats 4000000 in
theorem ten_below {w : World} {v : Value} {L : List Tn} (h : TreeV w w.heap.size v L) (hs : Shallow L) (hk : ∀ p ∈ L,p.2.size ≤ maxLen) (nm ab : Nm) (hn : nm.size ≤ maxLen) :
    Calls Try.prog 102 #[v,.string nm,.string ab] w fun e w' => e = .returned (.bool (hasN (abv L nm) ab)) ∧ Below w.heap.size w w' := by
  have HT := Aside0.mk h
  have hp := h.ptr
  have UP := Aside0.mk (fun w' => ten_up v hp nm w')
  obtain ⟨q,hq⟩ : ∃ q,v = .pointer q := by rcases hp with h | ⟨t,h⟩ <;> exact ⟨_,h⟩
  subst hq
  have hdd : ∀ k : Nat,(Fence.wide.depth.isSome = true → 1 ≤ k) := fun k h => by cases h
  have hwU : Fence.wide.fn 107 := trivial
  clear h hp
  refine (callsIn_wide (n := 3)).1 ?_
  refine callsIn_of_wp_marks Try.func102 rfl trivial ?_ rfl
  simp only [Try.ntmps102,List.size_toArray,List.length_cons,List.length_nil,Nat.reduceAdd,Nat.reduceSub,Array.replicate_succ,Array.replicate_zero,List.push_toArray,List.append_toArray,List.nil_append,List.cons_append]
  gi_wp2_with ((try refine ⟨hdd _,?_⟩);gi_at_call 107;refine (callsIn_wide.2 (UP.out _)).mono ?_;rintro e w' ⟨rfl,rfl⟩)
  obtain ⟨W0,hW0⟩ : ∃ W0,((((w.alloc (.cells #[.string ab] 9)).alloc (.cells #[.bool false] 4)).alloc (.cells #[.pointer q] tP)).alloc (.cells #[.string nm] 9)) = W0 := ⟨_,rfl⟩
  have sz : W0.heap.size = w.heap.size + 4 := by rw [← hW0];simp
  have hB0 : Below w.heap.size w W0 := by rw [← hW0];exact below_alloc (below_alloc (below_alloc (below_alloc (Below.refl _ _) _) _) _) _
  have k0 : W0.heap[w.heap.size]? = some (.cells #[.string ab] 9 (0,0)) := by rw [← hW0];exact blk_alloc (blk_alloc (blk_alloc (blk_new w _) _) _) _
  have k3 : W0.heap[w.heap.size + 1]? = some (.cells #[.bool false] 4 (0,0)) := by
    rw [← hW0]
    have := blk_new (w.alloc (.cells #[.string ab] 9)) (.cells #[.bool false] 4)
    rw [World.size_alloc] at this
    exact blk_alloc (blk_alloc this _) _
  have k1 : W0.heap[w.heap.size + 1 + 1]? = some (.cells #[.pointer q] tP (0,0)) := by
    rw [← hW0]
    have := blk_new ((w.alloc (.cells #[.string ab] 9)).alloc (.cells #[.bool false] 4)) (.cells #[.pointer q] tP)
    rw [World.size_alloc,World.size_alloc] at this
    exact blk_alloc this _
  have k2 : W0.heap[w.heap.size + 1 + 1 + 1]? = some (.cells #[.string nm] 9 (0,0)) := by
    rw [← hW0]
    have := blk_new (((w.alloc (.cells #[.string ab] 9)).alloc (.cells #[.bool false] 4)).alloc (.cells #[.pointer q] tP)) (.cells #[.string nm] 9)
    rw [World.size_alloc,World.size_alloc,World.size_alloc] at this
    exact this
  rw [hW0]
  have T0 := HT.out.stay hB0
  have HB0 := Aside0.mk hB0
  clear hW0
  refine range_up (n := 3) (n₀ := w.heap.size) (v := .pointer q) (L := L) (nm := nm) (by omega) rfl hs hk hn (by omega) (by omega) T0 (by omega) k1 k2
    (fun pre W => W.heap[w.heap.size]? = some (.cells #[.string ab] 9 (0,0)) ∧ W.heap[w.heap.size + 1]? = some (.cells #[.bool false] 4 (0,0)) ∧ Below w.heap.size w W ∧ hasN pre ab = false)
    (fun c pre W => c = .ret ∧ W.heap[w.heap.size + 1]? = some (.cells #[.bool true] 4 (0,0)) ∧ Below w.heap.size w W ∧ hasN pre ab = true)
    (fun s A B row hs hg hr => ⟨cells_own hs.1 hg hr,cells_own hs.2.1 hg hr,hs.2.2.1.grown hg hs.2.2.1.size (fun k e => by have := (hr k e).1;omega),hs.2.2.2⟩)
    (fun c s A B row hs hg hr => ⟨hs.1,cells_own hs.2.1 hg hr,hs.2.2.1.grown hg hs.2.2.1.size (fun k e => by have := (hr k e).1;omega),hs.2.2.2⟩)
    (fun pre A u hs => ⟨(Below.heap_setCell A ⟨w.heap.size + 1 + 1 + 1,0,none⟩ u w.heap.size (show w.heap.size ≠ w.heap.size + 1 + 1 + 1 by omega)).trans hs.1,(Below.heap_setCell A ⟨w.heap.size + 1 + 1 + 1,0,none⟩ u (w.heap.size + 1) (show w.heap.size + 1 ≠ w.heap.size + 1 + 1 + 1 by omega)).trans hs.2.1,below_set hs.2.2.1 (p := ⟨w.heap.size + 1 + 1 + 1,0,none⟩) (show w.heap.size ≤ w.heap.size + 1 + 1 + 1 by omega) u,hs.2.2.2⟩)
    ⟨k0,k3,hB0,rfl⟩
    (fun x => { tmps := #[.pointer q,.string nm,.string ab,undef,undef,.pointer (some ⟨w.heap.size,0,none⟩),.pointer (some ⟨w.heap.size + 1,0,none⟩),.string x,.pointer q,.string nm,.func (.func 129) #[] #[.pointer (some ⟨w.heap.size + 1 + 1,0,none⟩),.pointer (some ⟨w.heap.size + 1 + 1 + 1,0,none⟩)],.string x,undef,undef,undef],defers := [] }) ?assign ?body ?done ?stop
  case assign =>
    intro l x W K hK
    simp only [encN]
    gi_wp2
    first | exact hK | simpa using hK
  case body =>
    rintro l pre x W ⟨hc,hd,hB,hno⟩ hlt
    have c0 := blk_cell hc 0
    have d0 := blk_cell hd 0
    have f0 := fun o => blk_frozen hd o
    have HC := Aside0.mk hc
    have HD := Aside0.mk hd
    have HB := Aside0.mk hB
    have HNO := Aside0.mk hno
    clear hc hB hlt hd hno
    have hh : hasN (pre ++ [x]) ab = decide (x = ab) := by
      have := HNO.out
      unfold hasN at this ⊢
      rw [List.any_append,this]
      simp
    have HH := Aside0.mk hh
    clear hh
    by_cases hx : x = ab
    · have q0 : (ByteArray.toList x == ByteArray.toList ab) = true := by rw [eqS,decide_eq_true hx]
      have HX := Aside0.mk hx
      clear hx
      gi_wp2
      exact ⟨(KeepsOthers.setCell _ _ _).from _,rfl,blk_put HD.out 0 _ rfl,below_set HB.out (p := ⟨w.heap.size + 1,0,none⟩) (show w.heap.size ≤ w.heap.size + 1 by omega) _,by rw [HH.out,decide_eq_true HX.out]⟩
    · have q0 : (ByteArray.toList x == ByteArray.toList ab) = false := by rw [eqS,decide_eq_false hx]
      have HX := Aside0.mk hx
      clear hx
      gi_wp2
      exact ⟨KeepsFrom.refl _ _,⟨Below.refl _ _,rfl,rfl⟩,HC.out,HD.out,HB.out,by rw [HH.out,decide_eq_false HX.out]⟩
  case done =>
    rintro D W hD ⟨hc,hd,hB,hno⟩ hK
    have d0 := blk_cell hd 0
    have f0 := fun o => blk_frozen hd o
    have HK := Aside0.mk hK
    have HB := Aside0.mk hB
    have HD := Aside0.mk hd
    have HNO := Aside0.mk hno
    clear hc hd hB hno hK
    gi_wp2
    refine ⟨by simp,.inl ⟨_,_,rfl,run_takeDeferred ((Below.heap_setCell W ⟨w.heap.size + 1,0,none⟩ (.bool false) D (show D ≠ w.heap.size + 1 by omega)).trans HK.out),?_⟩⟩
    have hK2 := (Below.heap_setCell W ⟨w.heap.size + 1,0,none⟩ (.bool false) D (show D ≠ w.heap.size + 1 by omega)).trans HK.out
    have hE : ((W.setCell ⟨w.heap.size + 1,0,none⟩ (.bool false)).putObj D (Obj.deferred none)).heap[w.heap.size + 1]? = some (.cells #[.bool false] 4 (0,0)) := (World.putObj_heap_other (show w.heap.size + 1 ≠ D by omega)).trans (blk_put HD.out 0 _ rfl)
    have hc5 := blk_cell hE 0
    simp only [List.getElem?_toArray,List.getElem?_cons_zero] at hc5
    refine ⟨.bool false,?_,by rw [HNO.out],?_⟩
    · simp [results,Try.f102,go_sem,hc5]
    · exact (below_set HB.out (p := ⟨w.heap.size + 1,0,none⟩) (show w.heap.size ≤ w.heap.size + 1 by omega) _).trans (belowK_b (w := w) (Nat.le_refl _) _ D _ _ (by omega) hK2 rfl rfl)
  case stop =>
    rintro D c pre W hD hpre ⟨rfl,hd,hB,hyes⟩ hK
    have d0 := blk_cell hd 0
    have HK := Aside0.mk hK
    have HB := Aside0.mk hB
    have HD := Aside0.mk hd
    have HYE := Aside0.mk hyes
    have HPR := Aside0.mk hpre
    clear hd hB hyes hK hpre
    gi_wp2
    refine ⟨by simp,.inl ⟨_,_,rfl,run_takeDeferred HK.out,?_⟩⟩
    have hE : (W.putObj D (Obj.deferred none)).heap[w.heap.size + 1]? = some (.cells #[.bool true] 4 (0,0)) := (World.putObj_heap_other (show w.heap.size + 1 ≠ D by omega)).trans HD.out
    have hc5 := blk_cell hE 0
    simp only [List.getElem?_toArray,List.getElem?_cons_zero] at hc5
    have hin : hasN (abv L nm) ab = true := by
      obtain ⟨r,hr⟩ := HPR.out
      rw [← hr]
      have := HYE.out
      unfold hasN at this ⊢
      rw [List.any_append,this]
      rfl
    refine ⟨.bool true,?_,by rw [hin],?_⟩
    · simp [results,Try.f102,go_sem,hc5]
    · exact HB.out.trans (belowK_b (w := w) (Nat.le_refl _) _ D _ _ (by omega) HK.out rfl rfl)
end Go.Proofs.Ythfaimomcbmniaa.Z
end
section
namespace Go.Proofs.Ythfaimomcbmniaa.Z
set_option linter.unusedVariables false
set_option linter.unusedSimpArgs false
open Go.RowKit Go.Shelf Go.Maps Go.Proofs.YthfaimomcbmniaaW.PrintWords Go.Proofs.YthfaimomcbmniaaW.PrintLast Go.Proofs.YthfaimomcbmniaaW.PrintMore Go.Proofs.Ythfaimomcbmniaa.Cmp
attribute [local go_sem] Oper.semAt_some
abbrev tS : Nat := 59
def strV (x : Nm) : Value := .string x
def SRow (w : World) (base : Nat) (v : Value) (l : List Nm) : Prop := w.ownsRow base 9 1 v l.length (l.map strV)
theorem SRow.reads {w : World} {base : Nat} {v : Value} {l : List Nm} (h : SRow w base v l) : ∃ A c,v = .slice A l.length c ∧ l.length ≤ c ∧ Kd.C Kd.string w A l.length l := by
  obtain ⟨h1,h2⟩ := h
  rcases h2 with ⟨rfl,h2⟩ | ⟨g,cap,cur,rfl,_,hb,hle,hm,hs,ht⟩
  · have : l = [] := List.length_eq_zero_iff.1 h2
    subst this
    exact ⟨none,0,rfl,Nat.le_refl _,Kd.C_nil _ _⟩
  · refine ⟨_,_,rfl,hle,rfl,by unfold maxLen at hm;omega,fun _ => ⟨_,rfl,fun j p hp => ⟨[.string p],rfl,rfl,fun i u hu => ?_⟩⟩⟩
    cases i with
    | succ i => simp at hu
    | zero =>
      simp only [List.getElem?_cons_zero,Option.some.injEq] at hu
      subst hu
      have hj : j < l.length := (List.getElem?_eq_some_iff.1 hp).1
      rw [Addr.add_lit]
      have e : (0 + (j * Kd.string.sz + 0)) = j := by show 0 + (j * 1 + 0) = j;omega
      rw [e,blk_cell hb j]
      have h3 : (cur.toList.take (l.length * 1))[j]? = (l.map strV)[j]? := by rw [ht]
      rw [List.getElem?_take_of_lt (by omega),List.getElem?_map,hp] at h3
      simpa [strV] using h3
theorem SRow.lt {w : World} {base : Nat} {v : Value} {l : List Nm} (h : SRow w base v l) : ∀ k,v.ownBlock = some k → base ≤ k := by
  intro k hk
  rcases h.2 with ⟨rfl,_⟩ | ⟨g,cap,cur,rfl,hb,_⟩
  · simp [Value.ownBlock] at hk
  · have : g = k := by simpa [Value.ownBlock] using hk
    omega
theorem info9 : (Try.prog.info? 9).map (fun i => (i.zero,i.size,i.bytes)) = some (some (.string ⟨#[]⟩),1,16) := by kernel_rfl
def AppI (w : World) (n₁ : Nat) (pre : List Nm) (W : World) : Prop := (∃ v,Boxed W w.heap.size tS v ∧ SRow W w.heap.size v pre) ∧ Below n₁ w W
theorem SRow.set {w : World} {base : Nat} {v : Value} {l : List Nm} (h : SRow w base v l) {k : Nat} (hk : k < base) (u : Value) : SRow (w.setCell ⟨k,0,none⟩ u) base v l :=
  World.ownsRow.kept h (grownBy_setCell' w k u) (by
    cases hv : v.ownBlock with
    | none => exact .inl rfl
    | some j => exact .inr (fun e => by have := h.lt j hv;injection e with e;omega))
set_option maxRecDepth 100000 in
set_option maxHeartbeats 4000000 in
theorem ten_append {w : World} {n₁ Bt Bn : Nat} {q : Option Addr} {L : List Tn} {nm : Nm} (hs : Shallow L) (hk : ∀ p ∈ L,p.2.size ≤ maxLen) (hnm : nm.size ≤ maxLen) (hne : Bt ≠ Bn) (hN : n₁ ≤ Bn) (hT : TreeV w n₁ (.pointer q) L) (hn : n₁ ≤ w.heap.size)
    (hBt : w.heap[Bt]? = some (.cells #[.pointer q] tP (0,0))) (hBn : w.heap[Bn]? = some (.cells #[.string nm] 9 (0,0))) :
    Calls Try.prog 128 #[.slice none 0 0,.func (.func 129) #[] #[.pointer (some ⟨Bt,0,none⟩),.pointer (some ⟨Bn,0,none⟩)]] w fun e w' => ∃ v,e = .returned v ∧ SRow w' w.heap.size v (abv L nm) ∧ Below n₁ w w' := by
  have HLEN := Aside0.mk (abv_len hs nm)
  have hbt := blk_lt hBt
  have hbn := blk_lt hBn
  refine (callsIn_wide (n := 3)).1 ?_
  refine callsIn_of_wp_marks Try.func128 rfl trivial ?_ rfl
  simp only [Try.ntmps128,List.size_toArray,List.length_cons,List.length_nil,Nat.reduceAdd,Nat.reduceSub,Array.replicate_succ,Array.replicate_zero,List.push_toArray,List.append_toArray,List.nil_append,List.cons_append]
  gi_wp2
  obtain ⟨W0,hW0⟩ : ∃ W0,w.alloc (.cells #[.slice none 0 0] tS) = W0 := ⟨_,rfl⟩
  have sz : W0.heap.size = w.heap.size + 1 := by rw [← hW0];simp
  have hB0 : Below w.heap.size w W0 := by rw [← hW0];exact below_alloc (Below.refl _ _) _
  have k0 : Boxed W0 w.heap.size tS (.slice none 0 0) := by rw [← hW0];exact Boxed.new w tS _
  rw [hW0]
  have T0 := hT.stay (hB0.mono hn)
  have HB0 := Aside0.mk hB0
  clear hW0
  refine range_up (n := 3) (n₀ := n₁) (v := .pointer q) (L := L) (nm := nm) (by omega) rfl hs hk hnm hne hN T0 (by omega) ((hB0.block Bt hbt).trans hBt) ((hB0.block Bn hbn).trans hBn)
    (AppI w n₁) (fun _ _ _ => False)
    (fun s A B row hs hg hr => ⟨holdsRow_own w.heap.size w.heap.size tS 9 1 (fun pre : List Nm => pre.length) (fun pre => pre.map strV) (fun _ _ => True) s A B row (by obtain ⟨⟨v,h1,h2⟩,_⟩ := hs;exact ⟨v,h1,h2,trivial⟩) hg (fun r e => (hr r e).2) |> (fun ⟨v,h1,h2,_⟩ => ⟨v,h1,h2⟩),hs.2.grown hg (Nat.le_trans hn hs.2.size) (fun k e => by have := (hr k e).1;omega)⟩)
    (fun _ _ _ _ _ hs _ _ => hs)
    (fun pre A u hs => by
      obtain ⟨⟨v,h1,h2⟩,h3⟩ := hs
      exact ⟨⟨v,(Below.heap_setCell A ⟨Bn,0,none⟩ u w.heap.size (show w.heap.size ≠ Bn by omega)).trans h1,h2.set hbn u⟩,below_set h3 (p := ⟨Bn,0,none⟩) hN u⟩)
    ⟨⟨_,k0,World.ownsRow_nil _ _ _ _⟩,hB0.mono hn⟩
    (fun x => { tmps := #[.slice none 0 0,.func (.func 129) #[] #[.pointer (some ⟨Bt,0,none⟩),.pointer (some ⟨Bn,0,none⟩)],.pointer (some ⟨w.heap.size,0,none⟩),undef,.slice none 0 0,.string x,.func (.func 129) #[] #[.pointer (some ⟨Bt,0,none⟩),.pointer (some ⟨Bn,0,none⟩)],.string x,undef,undef,undef,undef,undef],defers := [] }) ?assign ?body ?done ?stop
  case assign =>
    intro l x W K hK
    simp only [encN]
    gi_wp2
    first | exact hK | simpa using hK
  case body =>
    rintro l pre x W ⟨⟨v,hv,hrow⟩,hB⟩ hlt
    obtain ⟨i0,hi,hz0,hz1,hz2⟩ := info_parts info9
    have hc := hv.cell
    have HLT := Aside0.mk (show pre.length < 5 by have := HLEN.out;omega)
    have hle : w.heap.size ≤ W.heap.size := Nat.le_of_lt hv.lt
    obtain ⟨Av,cv,rfl,_⟩ := hrow.reads
    obtain ⟨k,hkl⟩ : ∃ k,pre.length = k := ⟨_,rfl⟩
    have HKL := Aside0.mk hkl
    have HR := Aside0.mk (show W.ownsRow w.heap.size 9 1 (.slice Av k cv) k (pre.map strV) by rw [← hkl];exact hrow)
    rw [hkl] at hc hv
    have HV := Aside0.mk hv
    have HB := Aside0.mk hB
    clear hrow hkl hv hB hlt
    gi_wp2_with (gi_at_builtin;refine wpListIn_append_own _ rfl _ _ tS rfl w.heap.size 9 i0 (.string ⟨#[]⟩) 1 16 Try.underlying59 hi hz0 hz1 hz2 rfl (by decide) _ _ _ rfl (HR.out.alloc _) ⟨W.heap.size,0,none⟩ 1 1 [.string x] rfl rfl (cell_one_new _ _ _) (by simp [Value.oneCell']) (by have := HLT.out;have := HKL.out;unfold maxLen;omega) (by have := HLT.out;have := HKL.out;omega) (by simp;omega) ?_;intro v' w1 hown' hgrow _;obtain ⟨g',cap',rfl⟩ := ownsRow_succ hown';obtain ⟨hv1,hv2,hr2,hk2,hb2⟩ := HV.out.appended (by decide) HR.out hle (Nat.le_refl _) hown' hgrow;have hc1 := hv1.cell;have hf1 := hv1.frozen)
    have e1 : (pre ++ [x]).length = k + 1 := by rw [List.length_append,HKL.out];rfl
    have e2 : (pre ++ [x]).map strV = pre.map strV ++ [.string x] := by rw [List.map_append];rfl
    exact ⟨hk2.from _,⟨hb2.mono hn,hb2.block Bt hbt,hb2.block Bn hbn⟩,⟨_,hv2,by unfold SRow;rw [e1,e2];exact hr2⟩,HB.out.trans (hb2.mono hn)⟩
  case done =>
    rintro D W hD ⟨⟨v,hv,hrow⟩,hB⟩ hK
    obtain ⟨R,hR⟩ : ∃ R,abv L nm = R := ⟨_,rfl⟩
    have HR := Aside0.mk hR
    rw [hR] at hrow
    obtain ⟨Av,cv,rfl,_⟩ := hrow.reads
    have hc := hv.cell
    have HK := Aside0.mk hK
    have HB := Aside0.mk hB
    have HRW := Aside0.mk hrow
    clear hv hB hK hrow hR
    gi_wp2
    refine ⟨by simp,.inl ⟨_,_,rfl,run_takeDeferred HK.out,?_⟩⟩
    exact ⟨_,results_tmp rfl _ _ _,_,rfl,by rw [HR.out];exact ownsRow_putObj HRW.out _ HK.out rfl,HB.out.trans (belowK_b (w := w) hn W D _ _ (by omega) HK.out rfl rfl)⟩
  case stop =>
    rintro D c pre W _ _ h _
    exact h.elim
theorem World.ownsRow.lower {w : World} {base base' : Nat} {v : Value} {l : List Nm} (h : SRow w base v l) (hb : base' ≤ base) : SRow w base' v l := by
  obtain ⟨h1,h2⟩ := h
  refine ⟨h1,?_⟩
  rcases h2 with h2 | ⟨g,cap,cur,h3,h4,h5⟩
  · exact .inl h2
  · exact .inr ⟨g,cap,cur,h3,Nat.le_trans hb h4,h5⟩
set_option maxRecDepth 100000 in
set_option maxHeartbeats 4000000 in
theorem ten_collect {w : World} {n₁ Bt Bn : Nat} {q : Option Addr} {L : List Tn} {nm : Nm} (hs : Shallow L) (hk : ∀ p ∈ L,p.2.size ≤ maxLen) (hnm : nm.size ≤ maxLen) (hne : Bt ≠ Bn) (hN : n₁ ≤ Bn) (hT : TreeV w n₁ (.pointer q) L) (hn : n₁ ≤ w.heap.size)
    (hBt : w.heap[Bt]? = some (.cells #[.pointer q] tP (0,0))) (hBn : w.heap[Bn]? = some (.cells #[.string nm] 9 (0,0))) :
    Calls Try.prog 106 #[.func (.func 129) #[] #[.pointer (some ⟨Bt,0,none⟩),.pointer (some ⟨Bn,0,none⟩)]] w fun e w' => ∃ v,e = .returned v ∧ SRow w' w.heap.size v (abv L nm) ∧ Below n₁ w w' := by
  have AP := Aside0.mk (ten_append (q := q) hs hk hnm hne hN hT hn hBt hBn)
  clear hs hk hnm hne hN hT hn hBt hBn
  go_enter Try.func106,Try.ntmps106
  go_wp2_with (fail)
  refine AP.out.mono ?_
  rintro e w2 ⟨v,rfl,hrow,hb⟩
  obtain ⟨Av,cv,rfl,_⟩ := hrow.reads
  have HRW := Aside0.mk hrow
  have HB := Aside0.mk hb
  clear hrow hb
  go_wp2_with (fail)
  go_ret
  exact ⟨_,rfl,HRW.out,HB.out⟩
set_option maxRecDepth 100000 in
set_option maxHeartbeats 4000000 in
theorem ten_above {w : World} {v : Value} {L : List Tn} (h : TreeV w w.heap.size v L) (hs : Shallow L) (hk : ∀ p ∈ L,p.2.size ≤ maxLen) (nm : Nm) (hn : nm.size ≤ maxLen) :
    Calls Try.prog 51 #[v,.string nm] w fun e w' => ∃ v,e = .returned v ∧ SRow w' w.heap.size v (abv L nm) ∧ Below w.heap.size w w' := by
  have HT := Aside0.mk h
  have hp := h.ptr
  have UP := Aside0.mk (fun w' => ten_up v hp nm w')
  obtain ⟨q,hq⟩ : ∃ q,v = .pointer q := by rcases hp with h | ⟨t,h⟩ <;> exact ⟨_,h⟩
  subst hq
  clear h hp
  go_enter Try.func51,Try.ntmps51
  go_wp2_with (fail)
  refine (UP.out w).mono ?_
  rintro e w' ⟨rfl,rfl⟩
  obtain ⟨W0,hW0⟩ : ∃ W0,((w.alloc (.cells #[.pointer q] tP)).alloc (.cells #[.string nm] 9)) = W0 := ⟨_,rfl⟩
  have hB0 : Below w.heap.size w W0 := by rw [← hW0];exact below_alloc (below_alloc (Below.refl _ _) _) _
  have k1 : W0.heap[w.heap.size]? = some (.cells #[.pointer q] tP (0,0)) := by rw [← hW0];exact blk_alloc (blk_new w _) _
  have k2 : W0.heap[w.heap.size + 1]? = some (.cells #[.string nm] 9 (0,0)) := by
    rw [← hW0]
    have := blk_new (w.alloc (.cells #[.pointer q] tP)) (.cells #[.string nm] 9)
    rw [World.size_alloc] at this
    exact this
  rw [hW0]
  have CO := Aside0.mk (ten_collect (q := q) hs hk hn (show w.heap.size ≠ w.heap.size + 1 by omega) (show w.heap.size ≤ w.heap.size + 1 by omega) (HT.out.stay hB0) hB0.size k1 k2)
  have HB0 := Aside0.mk hB0
  clear hW0 k1 k2 hB0
  go_wp2_with (fail)
  refine CO.out.mono ?_
  rintro e w2 ⟨v,rfl,hrow,hb⟩
  obtain ⟨Av,cv,rfl,_⟩ := hrow.reads
  have HRW := Aside0.mk hrow
  have HB := Aside0.mk (HB0.out.trans hb)
  clear hrow hb
  go_wp2_with (fail)
  go_ret
  exact ⟨_,rfl,World.ownsRow.lower HRW.out HB0.out.size,HB.out⟩
end Go.Proofs.Ythfaimomcbmniaa.Z
end
section
namespace Go.Proofs
open Go.Shelf
def Try.lays190_ren : Go.Shelf.Ren := ⟨fun | 190 => 86 | 125 => 124 | 258 => 123 | 128 => 147 | 129 => 148 | 302 => 138 | 303 => 139 | 304 => 140 | 305 => 141 | 306 => 142 | 307 => 143 | 308 => 144 | 309 => 145 | 310 => 146 | 333 => 155 | 329 => 156 | 330 => 157 | 334 => 158 | 335 => 159 | 336 => 132 | 344 => 164 | n => n,fun | 31 => 59 | 9 => 9 | 3 => 3 | 46 => 150 | 0 => 0 | 51 => 174 | 53 => 176 | 4 => 4 | 183 => 168 | 182 => 167 | 131 => 101 | 5 => 5 | 218 => 181 | 222 => 185 | 228 => 188 | 229 => 189 | n => n,fun | n => n⟩
theorem Try.lays190 : Go.Proofs.Lays.n190 Try.prog Try.lays190_ren := {
  mixed := by kernel_rfl
  f125 := Try.func124.trans (congrArg some (by kernel_rfl))
  f128 := Try.func147.trans (congrArg some (by kernel_rfl))
  f129 := Try.func148.trans (congrArg some (by kernel_rfl))
  f190 := Try.func86.trans (congrArg some (by kernel_rfl))
  f258 := Try.func123.trans (congrArg some (by kernel_rfl))
  f302 := Try.func138.trans (congrArg some (by kernel_rfl))
  f303 := Try.func139.trans (congrArg some (by kernel_rfl))
  f304 := Try.func140.trans (congrArg some (by kernel_rfl))
  f305 := Try.func141.trans (congrArg some (by kernel_rfl))
  f306 := Try.func142.trans (congrArg some (by kernel_rfl))
  f307 := Try.func143.trans (congrArg some (by kernel_rfl))
  f308 := Try.func144.trans (congrArg some (by kernel_rfl))
  f309 := Try.func145.trans (congrArg some (by kernel_rfl))
  f310 := Try.func146.trans (congrArg some (by kernel_rfl))
  f329 := Try.func156.trans (congrArg some (by kernel_rfl))
  f330 := Try.func157.trans (congrArg some (by kernel_rfl))
  f333 := Try.func155.trans (congrArg some (by kernel_rfl))
  f334 := Try.func158.trans (congrArg some (by kernel_rfl))
  f335 := Try.func159.trans (congrArg some (by kernel_rfl))
  f336 := Try.func132.trans (congrArg some (by kernel_rfl))
  f344 := Try.func164.trans (congrArg some (by kernel_rfl))
  t0 := Try.underlying0
  a0 := Try.isAgg0
  z0 := Try.sizeOf0
  v0 := Try.zeroValue0
  t3 := Try.underlying3
  a3 := Try.isAgg3
  z3 := Try.sizeOf3
  v3 := Try.zeroValue3
  t4 := Try.underlying4
  a4 := Try.isAgg4
  z4 := Try.sizeOf4
  v4 := Try.zeroValue4
  t5 := Try.underlying5
  a5 := Try.isAgg5
  z5 := Try.sizeOf5
  v5 := Try.zeroValue5
  t9 := Try.underlying9
  a9 := Try.isAgg9
  z9 := Try.sizeOf9
  v9 := Try.zeroValue9
  t31 := Try.underlying59
  a31 := Try.isAgg59
  z31 := Try.sizeOf59
  v31 := Try.zeroValue59
  t46 := Try.underlying150
  a46 := Try.isAgg150
  z46 := Try.sizeOf150
  v46 := Try.zeroValue150
  t51 := Try.underlying174
  a51 := Try.isAgg174
  z51 := Try.sizeOf174
  v51 := Try.zeroValue174
  t53 := Try.underlying176
  a53 := Try.isAgg176
  z53 := Try.sizeOf176
  v53 := Try.zeroValue176
  t131 := Try.underlying101
  a131 := Try.isAgg101
  z131 := Try.sizeOf101
  v131 := Try.zeroValue101
  t182 := Try.underlying167
  a182 := Try.isAgg167
  z182 := Try.sizeOf167
  v182 := Try.zeroValue167
  t183 := Try.underlying168
  a183 := Try.isAgg168
  z183 := Try.sizeOf168
  v183 := Try.zeroValue168
  t218 := Try.underlying181
  a218 := Try.isAgg181
  z218 := Try.sizeOf181
  v218 := Try.zeroValue181
  t222 := Try.underlying185
  a222 := Try.isAgg185
  z222 := Try.sizeOf185
  v222 := Try.zeroValue185
  t228 := Try.underlying188
  a228 := Try.isAgg188
  z228 := Try.sizeOf188
  v228 := Try.zeroValue188
  t229 := Try.underlying189
  a229 := Try.isAgg189
  z229 := Try.sizeOf189
  v229 := Try.zeroValue189 }
open Go.Sort Go.RowKit in
theorem Try.slices_Sort_string (blk off cap : Nat) (ss : List (List UInt8)) (w : World) (hH : Holds encStr w blk off ss.toArray) (hblk : blk < w.heap.size) (hsz : ss.length < 4611686018427387904) :
    Calls Try.prog 86 #[.slice (some ⟨blk,off,none⟩) ss.length cap] w fun e w' =>
      e = .returned (.tuple #[]) ∧ ∃ n os,w' = grow (putRow encStr (Sort.ahead w n) blk off (ss.mergeSort fun x y => decide (x ≤ y)).toArray) os := Any.slices_Sort_string Try.lays190 blk off cap ss w hH hblk hsz
open Go.RowKit Go.Sort in
theorem Try.slices_Sort_string_none (p : Option Addr) (cap : Nat) (w : World) :
    Calls Try.prog 86 #[.slice p 0 cap] w fun e w' => e = .returned (.tuple #[]) ∧ w' = w := Any.slices_Sort_string_none Try.lays190 p cap w
end Go.Proofs
end
section
namespace Go.Proofs.Ythfaimomcbmniaa.Z
set_option linter.unusedVariables false
set_option linter.unusedSimpArgs false
open Go.RowKit Go.Shelf Go.Maps Go.Proofs.YthfaimomcbmniaaW.PrintWords Go.Proofs.YthfaimomcbmniaaW.PrintLast Go.Proofs.YthfaimomcbmniaaW.PrintMore Go.Proofs.Ythfaimomcbmniaa.Cmp
def toB (s : Nm) : List UInt8 := s.data.toList
def ofB (b : List UInt8) : Nm := ⟨b.toArray⟩
theorem of_to (s : Nm) : ofB (toB s) = s := by unfold ofB toB;cases s;simp
theorem to_of (b : List UInt8) : toB (ofB b) = b := by unfold ofB toB;simp
theorem enc_to (s : Nm) : encStr (toB s) = strV s := by unfold encStr strV toB;cases s;simp
def sortN (l : List Nm) : List Nm := ((l.map toB).mergeSort leB).map ofB
theorem sortN_len (l : List Nm) : (sortN l).length = l.length := by unfold sortN;simp
theorem map_to_of (l : List (List UInt8)) : (l.map ofB).map toB = l := by rw [List.map_map];exact (List.map_congr_left (fun x _ => to_of x)).trans (List.map_id l)
theorem map_of_to (l : List Nm) : (l.map toB).map ofB = l := by rw [List.map_map];exact (List.map_congr_left (fun x _ => of_to x)).trans (List.map_id l)
theorem sortN_eq {l l' : List Nm} (hp : l.Perm l') (hs : l'.Pairwise (fun a b => toB a ≤ toB b)) : sortN l = l' := by
  have tr : ∀ a b c : List UInt8,leB a b = true → leB b c = true → leB a c = true := fun a b c h1 h2 => by simp only [leB,decide_eq_true_eq] at *;exact List.le_trans h1 h2
  have tot : ∀ a b : List UInt8,(leB a b || leB b a) = true := fun a b => by simp only [leB,Bool.or_eq_true,decide_eq_true_eq];exact List.le_total a b
  have h1 : (l.map toB).mergeSort leB = l'.map toB := by
    refine List.Perm.eq_of_pairwise (le := fun a b => leB a b = true) (fun a b _ _ h1 h2 => ?_) (List.pairwise_mergeSort tr tot (l.map toB)) ?_ ((List.mergeSort_perm (l.map toB) leB).trans (hp.map toB))
    · simp only [leB,decide_eq_true_eq] at h1 h2
      exact List.le_antisymm h1 h2
    · exact List.pairwise_map.2 (hs.imp (fun h => by simpa [leB] using h))
  unfold sortN
  rw [h1,map_of_to]
theorem before_lt : ∀ a b : List UInt8,bytesBefore a b = true → a < b
  | [],[],h => by cases h
  | [],b :: s,_ => List.nil_lt_cons b s
  | a :: r,[],h => by cases h
  | a :: r,b :: s,h => by
    rw [List.cons_lt_cons_iff]
    unfold bytesBefore at h
    rw [Bool.or_eq_true,Bool.and_eq_true] at h
    rcases h with h | ⟨h1,h2⟩
    · exact .inl (of_decide_eq_true h)
    · exact .inr ⟨eq_of_beq h1,before_lt r s h2⟩
theorem TreeAt.rise {w : World} {t b : Nat} {L : List Tn} (h : TreeAt w t b L) : L.Pairwise (fun p q => toB p.1 < toB q.1) := by
  obtain ⟨es,h1,h2,_⟩ := h.map.canon lawS
  unfold mapD at h1
  injection h1 with h1
  rw [← h1] at h2
  exact (List.pairwise_map.1 h2).imp (fun h => before_lt _ _ h)
theorem TreeAt.names {w : World} {t b : Nat} {L : List Tn} (h : TreeAt w t b L) : (L.map Prod.fst).Nodup :=
  List.pairwise_map.2 (h.rise.imp (fun {p q} h e => by rw [e] at h;exact List.lt_irrefl _ h))
theorem undL_rise {w : World} {t b : Nat} {L : List Tn} (h : TreeAt w t b L) (n : Nm) : (undL L n).Pairwise (fun a b => toB a ≤ toB b) := by
  unfold undL
  refine List.Pairwise.filter _ (List.pairwise_map.2 (h.rise.imp (fun h => List.le_of_lt h)))
set_option maxHeartbeats 2000000 in
set_option maxRecDepth 100000 in
theorem srow_sort {w : World} {base : Nat} {v : Value} {l : List Nm} (h : SRow w base v l) (hl : l.length ≤ 1000000) :
    Calls Try.prog 86 #[v] w fun e w' => e = .returned (.tuple #[]) ∧ SRow w' base v (sortN l) ∧ w.grownBy w' v.ownBlock := by
  obtain ⟨h1,h2⟩ := h
  rcases h2 with ⟨rfl,h2⟩ | ⟨g,cap,cur,rfl,hb,hg,hle,hm,hs,ht⟩
  · have : l = [] := List.length_eq_zero_iff.1 h2
    subst this
    refine (Try.slices_Sort_string_none none 0 w).mono ?_
    rintro e w' ⟨rfl,rfl⟩
    exact ⟨rfl,⟨by simp [sortN],.inl ⟨rfl,by simp [sortN]⟩⟩,⟨rfl,rfl,rfl,Nat.le_refl _,fun _ _ _ => rfl⟩⟩
  · have e0 : (l.map toB).length = l.length := List.length_map _
    have ht2 : cur.toList.take (l.map toB).length = (l.map toB).map encStr := by
      rw [e0,List.map_map]
      rw [Nat.mul_one] at ht
      exact ht.trans (List.map_congr_left (fun x _ => (enc_to x).symm))
    have hc := Try.slices_Sort_string g 0 cap (l.map toB) w (holds_of_block hg ht2) (blk_lt hg) (by rw [e0];omega)
    rw [e0] at hc
    refine hc.mono ?_
    rintro e w' ⟨rfl,n,os,rfl⟩
    refine ⟨rfl,?_,grownBy_sorted _⟩
    have ho := ownsRow_sorted (base := base) (n := n) (os := os) (e := 9) (ss := l.map toB) (ts := (l.map toB).mergeSort leB) (by simp) hb hg (by rw [e0];exact hle) hm hs
    unfold SRow
    rw [sortN_len]
    rw [e0] at ho
    have e1 : (sortN l).map strV = ((l.map toB).mergeSort leB).map encStr := by
      unfold sortN
      rw [List.map_map]
      exact List.map_congr_left (fun x _ => by show strV (ofB x) = encStr x;rw [← enc_to,to_of])
    rw [e1]
    exact ho
end Go.Proofs.Ythfaimomcbmniaa.Z
end
section
namespace Go.Proofs.Ythfaimomcbmniaa.Z
set_option linter.unusedVariables false
set_option linter.unusedSimpArgs false
open Go.RowKit Go.Shelf Go.Maps Go.Proofs.YthfaimomcbmniaaW.PrintWords Go.Proofs.YthfaimomcbmniaaW.PrintLast Go.Proofs.YthfaimomcbmniaaW.PrintMore Go.Proofs.Ythfaimomcbmniaa.Cmp
noncomputable abbrev RvS : Value → Option (DataW Unit × List MemPlace) := plainElem Try.prog 9
theorem invKS : ∀ key kl,keyOf Try.prog 9 key = some kl → ∃ x : Nm,key = .string x := fun key kl h => by
  obtain ⟨x,hx,_⟩ := Maps.keyOf_str Try.underlying9 h
  exact ⟨_,hx⟩
theorem invVS : ∀ (v : Value) (y : DataW Unit × List MemPlace),RvS v = some y → ∃ c : Nm,v = .string c := fun v y h => by
  obtain ⟨s,rfl,_⟩ := plainElem_string_inv Try.underlying9 h
  exact ⟨s,rfl⟩
theorem keyS {x : Nm} {kl : Lit} (h : keyOf Try.prog 9 (.string x) = some kl) : kl = .string (toB x) ∧ x.size ≤ maxLen := by
  obtain ⟨y,hy,rfl,hl⟩ := Maps.keyOf_str Try.underlying9 h
  have : y = toB x := by
    have h1 : encStr (toB x) = encStr y := by rw [enc_to];exact hy
    exact (encStr_inj h1).symm
  subst this
  refine ⟨rfl,?_⟩
  unfold toB at hl
  rw [Array.length_toList] at hl
  exact hl
theorem strKeys_mapD (L : List Tn) : strKeys (mapD L) = (L.map Prod.fst).map toB := by
  show (L.map fun p => (lk p.1,(DataW.lit (lk p.2) : DataW Unit))).map (fun p => strOf p.1) = _
  rw [List.map_map,List.map_map]
  rfl
theorem TreeAt.grown {w w1 : World} {t b : Nat} {L : List Tn} {row : Option Nat} (h : TreeAt w t b L) (hg : w.grownBy w1 row) (ht : some t ≠ row) (hb : some b ≠ row) : TreeAt w1 t b L :=
  ⟨(hg.block t (blk_lt h.blk) ht).trans h.blk,h.map.kept hg hb⟩
theorem below_none {w w1 : World} (h : Below w.heap.size w w1) : w.grownBy w1 none := ⟨h.os,h.tape,h.output,h.size,fun k hk _ => h.block k hk⟩
structure UnderR (w wr : World) (b t : Nat) (L : List Tn) (nm : Nm) (ov : Value) (left : Lit → Bool) (cnt : Nat) (ms : List Nm) : Prop where
  rg : wr.ranges Try.prog 9 RvS b w.heap.size L.length (mapD L) left cnt
  col : Collected (mapD L) left (ms.map toB)
  row : SRow wr w.heap.size ov (ms.filter fun x => hasN (abv L x) nm)
  below : Below w.heap.size w wr
  tree : TreeAt wr t b L
  le : w.heap.size ≤ wr.heap.size
  cnt : ms.length + cnt ≤ L.length
theorem size_mapD (L : List Tn) : Maps.size (mapD L) = L.length := by
  unfold mapD
  rw [size_eq,List.length_map]
set_option maxHeartbeats 8000000 in
set_option maxRecDepth 100000 in
theorem ten_under {w : World} {t b : Nat} {L : List Tn} (h : TreeAt w t b L) (hs : Shallow L) (hk : ∀ p ∈ L,p.2.size ≤ maxLen) (hL : L.length ≤ 1000) (nm : Nm) :
    Calls Try.prog 54 #[.pointer (some ⟨t,0,none⟩),.string nm] w fun e w' => ∃ v,e = .returned v ∧ SRow w' w.heap.size v (undL L nm) ∧ Below w.heap.size w w' := by
  have HA := Aside0.mk h
  have x0 : w.cell? ⟨t,0,none⟩ = some (.map (some b)) := blk_cell h.blk 0
  clear h
  go_enter Try.func54,Try.ntmps54
  go_wp2_with (first | (at_range;refine wpList_range_own w rfl _ tM rfl 9 9 lawS Try.underlying136 RvS b L.length (mapD L) rfl HA.out.map ?_;intro w0 hrg0 hg0 hs0))
  go_frame
  have U0 : UnderR w w0 b t L nm (.slice none 0 0) (Maps.has (mapD L)) (Maps.size (mapD L)) [] := ⟨hrg0,Collected.start _,World.ownsRow_nil _ _ _ _,(Below.refl _ _).grown hg0 (Nat.le_refl _) (fun k e => by cases e),HA.out.grown hg0 (by simp) (by simp),by omega,by rw [size_mapD];simp⟩
  have HU0 := Aside0.mk U0
  clear U0 hrg0 hg0 hs0
  go_loopw [5,14] (fun ov _ wr => ∃ left cnt ms,Aside0 (UnderR w wr b t L nm ov left cnt ms)) (fun _ _ wr => wr.rangeLeft b w.heap.size)
  case atStart => exact ⟨_,_,_,HU0⟩
  case round =>
    rename World => wr
    clear HU0 x0
    obtain ⟨left,cnt,ms,HU⟩ := hrel
    obtain ⟨KL,hKL⟩ : ∃ KL,ms.filter (fun x => hasN (abv L x) nm) = KL := ⟨_,rfl⟩
    have HKL := Aside0.mk hKL
    have hrow := HU.out.row
    rw [hKL] at hrow
    obtain ⟨Av,cv,rfl,_⟩ := hrow.reads
    have KLN := Aside0.mk (show KL.length ≤ 1000 by rw [← hKL];have h1 := List.length_filter_le (fun x => hasN (abv L x) nm) ms;have := HU.out.cnt;omega)
    have HR := Aside0.mk hrow
    clear hKL hrow
    go_wp2_with (first | (at_next;refine wpList_next_ranges wr rfl _ rfl 9 lawS RvS Value.string Value.string invKS invVS b w.heap.size L.length (mapD L) left cnt rfl HU.out.rg ?_ ?_))
    · intro hc0 hl0
      have HE := Aside0.mk (show sortN KL = undL L nm by
        have hp := HU.out.col.perm HU.out.rg.owns lawS Try.underlying9 hl0
        rw [strKeys_mapD] at hp
        have hp2 := hp.map ofB
        rw [map_of_to,map_of_to] at hp2
        rw [← HKL.out]
        exact sortN_eq (hp2.filter _) (undL_rise HA.out nm))
      have HB := Aside0.mk HU.out.below
      have SR := Aside0.mk (srow_sort HR.out (by have := KLN.out;omega))
      clear hc0 hl0 HU
      go_wp2_with (fail)
      refine SR.out.mono ?_
      rintro e w2 ⟨rfl,hrow2,hg2⟩
      have HR2 := Aside0.mk hrow2
      have HB2 := Aside0.mk (HB.out.grown hg2 HB.out.size (fun k e => HR.out.lt k e))
      clear hrow2 hg2
      go_wp2_with (fail)
      go_ret
      exact ⟨_,rfl,by rw [← HE.out];have h1 := HR2.out;exact h1,HB2.out⟩
    · intro x c kl yd yp w1 cnt1 hkey hlk hv hat hrg1 hlt1 hg1 hs1 hen
      obtain ⟨rfl,hx⟩ := keyS hkey
      have A1 := Aside0.mk (HU.out.tree.grown hg1 (fun e => by have h1 := blk_lt HA.out.blk;injection e with e;omega) (fun e => hrg1.ne (by injection e with e;exact e.symm)))
      have C1 := Aside0.mk (show Collected (mapD L) (fun z => left z && !z.sameKey (.string (toB x))) ((ms ++ [x]).map toB) by rw [List.map_append];exact HU.out.col.step hlk hat)
      have B1 := Aside0.mk (HU.out.below.grown hg1 HU.out.le (fun k e => by cases e;exact Nat.le_refl _))
      have R1 := Aside0.mk (show SRow w1 w.heap.size (.slice Av KL.length cv) KL from World.ownsRow.kept HR.out hg1 (.inr (fun e => row_ne_iter HR.out HU.out.rg e.symm)))
      have G1 := Aside0.mk hrg1
      have L1 := Aside0.mk (show w.heap.size ≤ w1.heap.size from Nat.le_trans HU.out.le hg1.size)
      have N1 := Aside0.mk (show (ms ++ [x]).length + cnt1 ≤ L.length by have := HU.out.cnt;rw [List.length_append,List.length_singleton];omega)
      have M1 := Aside0.mk (show cnt1 < wr.rangeLeft b w.heap.size by rw [HU.out.rg.left_eq];exact hlt1)
      have HX := Aside0.mk hx
      clear hkey hlk hv hat hrg1 hlt1 hg1 hs1 HU HR hx
      go_wp2_with (fail)
      clear hen
      refine (ten_below (A1.out.v) hs hk x nm HX.out).mono ?_
      rintro e w2 ⟨rfl,hb2⟩
      have G2 := Aside0.mk (G1.out.kept (below_none hb2) (by simp) (by simp))
      have A2 := Aside0.mk (A1.out.below hb2)
      have B2 := Aside0.mk (B1.out.trans (hb2.mono L1.out))
      have R2 := Aside0.mk (show SRow w2 w.heap.size (.slice Av KL.length cv) KL from World.ownsRow.kept R1.out (below_none hb2) (by cases Av <;> simp [Value.ownBlock]))
      have L2 := Aside0.mk (show w.heap.size ≤ w2.heap.size from Nat.le_trans L1.out hb2.size)
      clear hb2 G1 A1 B1 R1 L1
      have hf : (ms ++ [x]).filter (fun x => hasN (abv L x) nm) = KL ++ (if hasN (abv L x) nm then [x] else []) := by
        rw [List.filter_append,HKL.out]
        simp only [List.filter_cons,List.filter_nil]
      cases hin : hasN (abv L x) nm with
      | true =>
        rw [hin,if_pos rfl] at hf
        have HF := Aside0.mk hf
        clear hf
        obtain ⟨i0,hi,hz0,hz1,hz2⟩ := info_parts info9
        obtain ⟨k,hkl⟩ : ∃ k,KL.length = k := ⟨_,rfl⟩
        have HK := Aside0.mk hkl
        have HR := Aside0.mk (show w2.ownsRow w.heap.size 9 1 (.slice Av k cv) k (KL.map strV) by rw [← hkl];exact R2.out)
        rw [hkl]
        clear hkl hin
        go_wp2_with (at_builtin;refine wpList_append_own _ rfl _ _ tS rfl w.heap.size 9 i0 (.string ⟨#[]⟩) 1 16 Try.underlying59 hi hz0 hz1 hz2 rfl (by decide) _ _ _ rfl (HR.out.alloc _) ⟨w2.heap.size,0,none⟩ 1 1 [.string x] rfl rfl (cell_one_new _ _ _) (by simp [Value.oneCell']) (by have := KLN.out;have := HK.out;unfold maxLen;omega) (by have := KLN.out;have := HK.out;omega) (by have := L2.out;simp;omega) ?_;intro v' w3 hown' hgrow _)
        obtain ⟨g',cap',rfl⟩ := ownsRow_succ hown'
        have hall := (World.grownBy_alloc w2 (Obj.cells #[.string x] 9) _).trans hgrow
        have hb : some b ≠ (Value.slice Av k cv).ownBlock := row_ne_low HR.out HA.out.map.lt
        have ht : some t ≠ (Value.slice Av k cv).ownBlock := row_ne_low HR.out (blk_lt HA.out.blk)
        have G3 := Aside0.mk (G2.out.kept hall hb (row_ne_iter HR.out G2.out))
        have A3 := Aside0.mk (A2.out.grown hall ht hb)
        have B3 := Aside0.mk (B2.out.grown hall L2.out (fun j e => R2.out.lt j (by rw [HK.out];exact e)))
        have R3 := Aside0.mk (show SRow w3 w.heap.size (.slice (some ⟨g',0,none⟩) (k + 1) cap') (KL ++ [x]) by
          unfold SRow
          rw [List.length_append,HK.out,List.map_append]
          exact hown')
        refine ⟨⟨_,cnt1,ms ++ [x],⟨⟨G3.out,C1.out,by rw [HF.out];exact R3.out,B3.out,A3.out,Nat.le_trans L2.out hall.size,N1.out⟩⟩⟩,by rw [G3.out.left_eq];exact M1.out⟩
      | false =>
        rw [hin,if_neg (by simp),List.append_nil] at hf
        have HF := Aside0.mk hf
        clear hf hin
        go_wp2_with (fail)
        go_roundw
        case rel => exact ⟨_,cnt1,ms ++ [x],⟨⟨G2.out,C1.out,by rw [HF.out];exact R2.out,B2.out,A2.out,L2.out,N1.out⟩⟩⟩
        case measure => rw [G2.out.left_eq];exact M1.out
end Go.Proofs.Ythfaimomcbmniaa.Z
end
section
namespace Go.Proofs.Ythfaimomcbmniaa.Z
open Go.RowKit Go.Proofs.YthfaimomcbmniaaW.PrintWords Go.Proofs.YthfaimomcbmniaaW.PrintLast Go.Proofs.YthfaimomcbmniaaW.PrintMore
attribute [local go_sem] max2_int min2_int max_two min_two max_three min_three max_four min_four
set_option linter.unusedVariables false
set_option linter.unusedSimpArgs false
def schema_letter.f (a0 : Int) : Option (Bool) := if a0 ≥ 97 then (some (decide (a0 ≤ 122))) else (some false)
set_option maxHeartbeats 8000000 in
set_option maxRecDepth 100000 in
theorem schema_letter.calls (a0 : Int) (r : Bool) (w : World) (h : schema_letter.f a0 = some r) :
    Calls Try.prog 126 #[.int .u8 a0] w fun e w' => e = .returned (.bool r) ∧ Drawn0 w w' := by
  have H : (if a0 ≥ 97 then (some (decide (a0 ≤ 122))) else (some false)) = some r := h
  clear h
  by_cases c2 : a0 ≥ 97
  · rw [if_pos c2] at H
    have c2b0 : decide (97 ≤ a0) = true := decide_eq_true c2
    clear c2
    obtain rfl := Option.some.inj H
    go_enter Try.func126,Try.ntmps126
    go_wp2
    go_ret
    exact ⟨by first | rfl | (simp;done) | (simp [*];done),by repeat (first | exact Drawn0.refl _ | apply Drawn0.step)⟩
  · rw [if_neg c2] at H
    have c2b0 : decide (97 ≤ a0) = false := decide_eq_false c2
    clear c2
    obtain rfl := Option.some.inj H
    go_enter Try.func126,Try.ntmps126
    go_wp2
    go_ret
    exact ⟨by first | rfl | (simp;done) | (simp [*];done),by repeat (first | exact Drawn0.refl _ | apply Drawn0.step)⟩
end Go.Proofs.Ythfaimomcbmniaa.Z
end
section
namespace Go.Proofs.Ythfaimomcbmniaa.Z
open Go.RowKit Go.Proofs.YthfaimomcbmniaaW.PrintWords Go.Proofs.YthfaimomcbmniaaW.PrintLast Go.Proofs.YthfaimomcbmniaaW.PrintMore
attribute [local go_sem] max2_int min2_int max_two min_two max_three min_three max_four min_four
set_option linter.unusedVariables false
set_option linter.unusedSimpArgs false
mutual
def schema_Name.j0 : Nat → ByteArray → Bool → Option (Bool)
  | 0,_,_ => none
  | k + 1,x0,x17 => if x17 = true then (some false) else (schema_Name.l0 k x0 (x0.size : Int) 0)
def schema_Name.l0 : Nat → ByteArray → Int → Int → Option (Bool)
  | 0,_,_,_ => none
  | k + 1,x0,x19,x20 => if x20 < x19 then (if 0 ≤ x20 then (if x20 < (x0.size : Int) then ((schema_letter.f (bt x0 x20)).bind fun t255 => (if t255 = true then (schema_Name.l0 k x0 x19 (wrap64 (x20 + 1))) else (if (bt x0 x20) < 48 then (if (bt x0 x20) = 95 then (schema_Name.l0 k x0 x19 (wrap64 (x20 + 1))) else (some false)) else (if (bt x0 x20) > 57 then (if (bt x0 x20) = 95 then (schema_Name.l0 k x0 x19 (wrap64 (x20 + 1))) else (some false)) else (schema_Name.l0 k x0 x19 (wrap64 (x20 + 1))))))) else (none)) else (none)) else (some true)
end
def schema_Name.f (k : Nat) (a0 : ByteArray) : Option (Bool) := if a0.toList = ([] : List UInt8) then (schema_Name.j0 k a0 true) else (if (a0.size : Int) > 16 then (schema_Name.j0 k a0 true) else (if 0 < (a0.size : Int) then ((schema_letter.f (bt a0 0)).bind fun t254 => (schema_Name.j0 k a0 (!t254))) else (none)))
theorem schema_Name.mono_l : ∀ k,(∀ y0 y1,LeO (schema_Name.j0 k y0 y1) (schema_Name.j0 (k + 1) y0 y1)) ∧ (∀ y0 y1 y2,LeO (schema_Name.l0 k y0 y1 y2) (schema_Name.l0 (k + 1) y0 y1 y2))
  | 0 => ⟨fun _ _ r h => by simp [schema_Name.j0] at h,fun _ _ _ r h => by simp [schema_Name.l0] at h⟩
  | k + 1 => by
    obtain ⟨ih0,ih1⟩ := schema_Name.mono_l k
    refine ⟨?_,?_⟩
    · intro y0 y1
      unfold schema_Name.j0
      repeat' first
      | (with_reducible exact ih0 _ _)
      | (with_reducible exact ih1 _ _ _)
      | (with_reducible exact LeO.refl _)
      | (with_reducible exact LeO.none _)
      | (with_reducible refine LeO.ite ?_ ?_)
      | (with_reducible refine LeO.bind ?_ (fun _ => ?_))
      | exact ih0 _ _
      | exact ih1 _ _ _
      | exact LeO.none _
      | refine LeO.ite ?_ ?_
      | refine LeO.bind ?_ (fun _ => ?_)
    · intro y0 y1 y2
      unfold schema_Name.l0
      repeat' first
      | (with_reducible exact ih0 _ _)
      | (with_reducible exact ih1 _ _ _)
      | (with_reducible exact LeO.refl _)
      | (with_reducible exact LeO.none _)
      | (with_reducible refine LeO.ite ?_ ?_)
      | (with_reducible refine LeO.bind ?_ (fun _ => ?_))
      | exact ih0 _ _
      | exact ih1 _ _ _
      | exact LeO.none _
      | refine LeO.ite ?_ ?_
      | refine LeO.bind ?_ (fun _ => ?_)
theorem schema_Name.mono : ∀ a0 k,LeO (schema_Name.f k a0) (schema_Name.f (k + 1) a0) := by
  intro a0 k
  obtain ⟨ih0,ih1⟩ := schema_Name.mono_l k
  unfold schema_Name.f
  repeat' first
      | (with_reducible exact ih0 _ _)
      | (with_reducible exact ih1 _ _ _)
      | (with_reducible exact LeO.refl _)
      | (with_reducible exact LeO.none _)
      | (with_reducible refine LeO.ite ?_ ?_)
      | (with_reducible refine LeO.bind ?_ (fun _ => ?_))
      | exact ih0 _ _
      | exact ih1 _ _ _
      | exact LeO.none _
      | refine LeO.ite ?_ ?_
      | refine LeO.bind ?_ (fun _ => ?_)
set_option maxHeartbeats 8000000 in
set_option maxRecDepth 100000 in
theorem schema_Name.calls (k : Nat) (a0 : ByteArray) (r : Bool) (w : World) (h : schema_Name.f k a0 = some r) :
    Calls Try.prog 100 #[.string a0] w fun e w' => e = .returned (.bool r) ∧ Drawn0 w w' := by
  have H : (if a0.toList = ([] : List UInt8) then (schema_Name.j0 k a0 true) else (if (a0.size : Int) > 16 then (schema_Name.j0 k a0 true) else (if 0 < (a0.size : Int) then ((schema_letter.f (bt a0 0)).bind fun t254 => (schema_Name.j0 k a0 (!t254))) else (none)))) = some r := h
  clear h
  have HC2 := Aside0.mk H
  clear H
  go_enter Try.func100,Try.ntmps100
  go_upto_region 1 with (fail)
  go_cut [17] (fun v17 wc => ∃ (kq : Nat) (x17_1 : Bool),v17 = .bool x17_1 ∧ Aside0 (schema_Name.j0 kq a0 x17_1 = some r) ∧ Aside0 (kq ≤ k) ∧ Drawn0 w wc)
  case first =>
    have H := HC2.out
    clear HC2
    by_cases c3 : a0.toList = ([] : List UInt8)
    · rw [if_pos c3] at H
      have c3b0 : (a0.toList == ([] : List UInt8)) = true := beq_iff_eq.mpr c3
      have c3b1 : (a0.toList != ([] : List UInt8)) = false := bne_eq_false_iff_eq.mpr c3
      clear c3
      (first | rw [c3b0] | (simp only [i64_w,i32_w];rw [c3b0]) | skip)
      have H' := Aside0.mk H
      clear H
      go_wp2
      go_meet
      case rel => exact ⟨_,(true),(by first | rfl | (simp;done) | (simp [*];done)),H',⟨by first | omega | exact Nat.le_refl _⟩,by repeat (first | exact Drawn0.refl _ | apply Drawn0.step)⟩
    · rw [if_neg c3] at H
      have c3b0 : (a0.toList == ([] : List UInt8)) = false := beq_eq_false_iff_ne.mpr c3
      have c3b1 : (a0.toList != ([] : List UInt8)) = true := bne_iff_ne.mpr c3
      (first | rw [c3b0] | (simp only [i64_w,i32_w];rw [c3b0]) | skip)
      by_cases c4 : (a0.size : Int) > 16
      · rw [if_pos c4] at H
        have c4b0 : decide (16 < (a0.size : Int)) = true := decide_eq_true c4
        have c4b1 : decide (16 < a0.size) = true := decide_eq_true (by omega)
        clear c4
        have H' := Aside0.mk H
        clear H
        go_wp2
        go_meet
        case rel => exact ⟨_,(true),(by first | rfl | (simp;done) | (simp [*];done)),H',⟨by first | omega | exact Nat.le_refl _⟩,by repeat (first | exact Drawn0.refl _ | apply Drawn0.step)⟩
      · rw [if_neg c4] at H
        have c4b0 : decide (16 < (a0.size : Int)) = false := decide_eq_false c4
        have c4b1 : decide (16 < a0.size) = false := decide_eq_false (by omega)
        clear c4
        by_cases c5 : 0 < (a0.size : Int)
        · rw [if_pos c5] at H
          have c5b0 : decide (0 < (a0.size : Int)) = true := decide_eq_true c5
          have c5b1 : decide (0 < a0.size) = true := decide_eq_true (by omega)
          clear c5
          replace H := Option.bind_eq_some_iff.mp H
          obtain ⟨t254,A70,H⟩ := H
          replace H : (schema_Name.j0 k a0 (!t254)) = some r := H
          have A7 := Aside0.mk A70
          clear A70
          have H' := Aside0.mk H
          clear H
          have p6 : 0 ≤ (0 : Int) := (by omega)
          have q6 : 0 < a0.size := (by have : (0 : Int) < (a0.size : Int) := of_decide_eq_true (by first | (with_reducible assumption) | assumption);omega)
          have hx6 : ∀ h : 0 < a0.size,((a0[0]'h).toNat : Int) = bt a0 0 := bt_at a0 0
          clear p6
          have qi6 : (0 < (a0.size : Int)) = True := eq_true (of_decide_eq_true (by first | (with_reducible assumption) | assumption))
          replace q6 := eq_true q6
          go_wp2_with (first | (go_at_call 126;(with_reducible refine (schema_letter.calls (bt a0 0) t254 _ A7.out).mono ?_);rintro e w' ⟨rfl,⟨nd,rfl⟩⟩))
          go_meet
          case rel => exact ⟨_,(!t254),(by first | rfl | (simp;done) | (simp [*];done)),H',⟨by first | omega | exact Nat.le_refl _⟩,by repeat (first | exact Drawn0.refl _ | apply Drawn0.step)⟩
        · rw [if_neg c5] at H
          exact absurd H (by simp)
  case rest =>
    clear HC2
    try clear c1
    try clear p2
    try clear c3
    try clear c3b0
    try clear c3b1
    try clear c4
    try clear c4b0
    try clear c4b1
    try clear c5
    try clear c5b0
    try clear c5b1
    try clear p6
    try clear q6
    try clear hx6
    try clear qi6
    try clear p6
    try clear q6
    obtain ⟨kq,x17_1,rfl,HA,HJ1,⟨mc1,rfl⟩⟩ := hcut
    cases kq with
    | zero => exact absurd HA.out (by simp [schema_Name.j0])
    | succ kj1 =>
      have H := HA.out
      clear HA
      simp only [schema_Name.j0] at H
      by_cases c8 : x17_1 = true
      · subst c8
        have H1 : (some false) = some r := by rw [if_pos rfl] at H;exact H
        clear H
        have H := H1
        clear H1
        obtain rfl := Option.some.inj H
        go_wp2
        go_ret
        exact ⟨by first | rfl | (simp;done) | (simp [*];done),by repeat (first | exact Drawn0.refl _ | apply Drawn0.step)⟩
      · replace c8 := Bool.eq_false_iff.mpr c8
        subst c8
        have H1 : (schema_Name.l0 kj1 a0 (a0.size : Int) 0) = some r := by rw [if_neg (show ¬ (false = true) by decide)] at H;exact H
        clear H
        have H := H1
        clear H1
        have H' := Aside0.mk H
        clear H
        go_wp2
        go_loopg [20] kj1 (fun kq v20 w' => ∃ (x20_2 : Int),v20 = .int .i64 x20_2 ∧ Aside0 (schema_Name.l0 kq a0 (a0.size : Int) x20_2 = some r) ∧ Aside0 (kq ≤ kj1) ∧ Drawn0 w w')
        case atStart => exact ⟨(0),(by first | rfl | (simp;done) | (simp [*];done)),H',⟨Nat.le_refl _⟩,by repeat (first | exact Drawn0.refl _ | apply Drawn0.step)⟩
        case round =>
          clear H'
          try clear c1
          try clear p2
          try clear c3
          try clear c3b0
          try clear c3b1
          try clear c4
          try clear c4b0
          try clear c4b1
          try clear c5
          try clear c5b0
          try clear c5b1
          try clear p6
          try clear q6
          try clear hx6
          try clear qi6
          try clear c8
          try clear p2
          try clear p6
          try clear q6
          obtain ⟨x20_2,rfl,HA,HK2,⟨m2,rfl⟩⟩ := hrel
          cases gk with
          | zero => exact absurd HA.out (by simp [schema_Name.l0])
          | succ k2 =>
            have H := HA.out
            clear HA
            simp only [schema_Name.l0] at H
            by_cases c9 : x20_2 < (a0.size : Int)
            · rw [if_pos c9] at H
              have c9b0 : decide (x20_2 < (a0.size : Int)) = true := decide_eq_true c9
              clear c9
              by_cases c10 : 0 ≤ x20_2
              · rw [if_pos c10] at H
                have c10b0 : decide (0 ≤ x20_2) = true := decide_eq_true c10
                clear c10
                by_cases c11 : x20_2 < (a0.size : Int)
                · rw [if_pos c11] at H
                  have c11b0 : decide (x20_2 < (a0.size : Int)) = true := decide_eq_true c11
                  clear c11
                  replace H := Option.bind_eq_some_iff.mp H
                  obtain ⟨t255,A130,H⟩ := H
                  replace H : (if t255 = true then (schema_Name.l0 k2 a0 (a0.size : Int) (wrap64 (x20_2 + 1))) else (if (bt a0 x20_2) < 48 then (if (bt a0 x20_2) = 95 then (schema_Name.l0 k2 a0 (a0.size : Int) (wrap64 (x20_2 + 1))) else (some false)) else (if (bt a0 x20_2) > 57 then (if (bt a0 x20_2) = 95 then (schema_Name.l0 k2 a0 (a0.size : Int) (wrap64 (x20_2 + 1))) else (some false)) else (schema_Name.l0 k2 a0 (a0.size : Int) (wrap64 (x20_2 + 1)))))) = some r := H
                  have A13 := Aside0.mk A130
                  clear A130
                  by_cases c14 : t255 = true
                  · subst c14
                    have H1 : (schema_Name.l0 k2 a0 (a0.size : Int) (wrap64 (x20_2 + 1))) = some r := by rw [if_pos rfl] at H;exact H
                    clear H
                    have H := H1
                    clear H1
                    have H' := Aside0.mk H
                    clear H
                    have p12 : 0 ≤ (x20_2 : Int) := of_decide_eq_true (by first | (with_reducible assumption) | assumption)
                    have q12 : x20_2 < (a0.size : Int) := of_decide_eq_true (by first | (with_reducible assumption) | assumption)
                    have hx12 := bt_at a0 x20_2
                    replace p12 := eq_true p12
                    replace q12 := eq_true q12
                    go_wp2_with (first | ((with_reducible refine gate_callee (f := 126) rfl ?_);refine goesL_ (some 27) rfl rfl Try.func126 (by kernel_rfl) rfl #[.int .u8 (bt a0 x20_2)] rfl (by (try simp only [List.map_toArray,List.map_cons,List.map_nil]);first | done | rfl | (simp only [List.length_drop,List.length_take];rfl)) ?_;(with_reducible refine (schema_letter.calls (bt a0 x20_2) true _ A13.out).mono ?_);rintro e w' ⟨rfl,⟨nd,rfl⟩⟩;refine ⟨_,rfl,?_⟩))
                    go_roundg k2
                    case measure => have := HJ1.out;have := HK2.out;omega
                    case rel => exact ⟨(wrap64 (x20_2 + 1)),(by first | rfl | (simp;done) | (simp [*];done)),H',⟨by have := HJ1.out;have := HK2.out;omega⟩,by repeat (first | exact Drawn0.refl _ | apply Drawn0.step)⟩
                  · replace c14 := Bool.eq_false_iff.mpr c14
                    subst c14
                    have H1 : (if (bt a0 x20_2) < 48 then (if (bt a0 x20_2) = 95 then (schema_Name.l0 k2 a0 (a0.size : Int) (wrap64 (x20_2 + 1))) else (some false)) else (if (bt a0 x20_2) > 57 then (if (bt a0 x20_2) = 95 then (schema_Name.l0 k2 a0 (a0.size : Int) (wrap64 (x20_2 + 1))) else (some false)) else (schema_Name.l0 k2 a0 (a0.size : Int) (wrap64 (x20_2 + 1))))) = some r := by rw [if_neg (show ¬ (false = true) by decide)] at H;exact H
                    clear H
                    have H := H1
                    clear H1
                    by_cases c15 : (bt a0 x20_2) < 48
                    · rw [if_pos c15] at H
                      have c15b0 : decide ((bt a0 x20_2) < 48) = true := decide_eq_true c15
                      clear c15
                      by_cases c16 : (bt a0 x20_2) = 95
                      · rw [if_pos c16] at H
                        have c16b0 : ((bt a0 x20_2) == 95) = true := beq_iff_eq.mpr c16
                        have c16b1 : ((bt a0 x20_2) != 95) = false := bne_eq_false_iff_eq.mpr c16
                        clear c16
                        have H' := Aside0.mk H
                        clear H
                        have p12 : 0 ≤ (x20_2 : Int) := of_decide_eq_true (by first | (with_reducible assumption) | assumption)
                        have q12 : x20_2 < (a0.size : Int) := of_decide_eq_true (by first | (with_reducible assumption) | assumption)
                        have hx12 := bt_at a0 x20_2
                        replace p12 := eq_true p12
                        replace q12 := eq_true q12
                        go_wp2_with (first | ((with_reducible refine gate_callee (f := 126) rfl ?_);refine goesL_ (some 27) rfl rfl Try.func126 (by kernel_rfl) rfl #[.int .u8 (bt a0 x20_2)] rfl (by (try simp only [List.map_toArray,List.map_cons,List.map_nil]);first | done | rfl | (simp only [List.length_drop,List.length_take];rfl)) ?_;(with_reducible refine (schema_letter.calls (bt a0 x20_2) false _ A13.out).mono ?_);rintro e w' ⟨rfl,⟨nd,rfl⟩⟩;refine ⟨_,rfl,?_⟩))
                        go_roundg k2
                        case measure => have := HJ1.out;have := HK2.out;omega
                        case rel => exact ⟨(wrap64 (x20_2 + 1)),(by first | rfl | (simp;done) | (simp [*];done)),H',⟨by have := HJ1.out;have := HK2.out;omega⟩,by repeat (first | exact Drawn0.refl _ | apply Drawn0.step)⟩
                      · rw [if_neg c16] at H
                        have c16b0 : ((bt a0 x20_2) == 95) = false := beq_eq_false_iff_ne.mpr c16
                        have c16b1 : ((bt a0 x20_2) != 95) = true := bne_iff_ne.mpr c16
                        obtain rfl := Option.some.inj H
                        have p12 : 0 ≤ (x20_2 : Int) := of_decide_eq_true (by first | (with_reducible assumption) | assumption)
                        have q12 : x20_2 < (a0.size : Int) := of_decide_eq_true (by first | (with_reducible assumption) | assumption)
                        have hx12 := bt_at a0 x20_2
                        replace p12 := eq_true p12
                        replace q12 := eq_true q12
                        go_wp2_with (first | ((with_reducible refine gate_callee (f := 126) rfl ?_);refine goesL_ (some 27) rfl rfl Try.func126 (by kernel_rfl) rfl #[.int .u8 (bt a0 x20_2)] rfl (by (try simp only [List.map_toArray,List.map_cons,List.map_nil]);first | done | rfl | (simp only [List.length_drop,List.length_take];rfl)) ?_;(with_reducible refine (schema_letter.calls (bt a0 x20_2) false _ A13.out).mono ?_);rintro e w' ⟨rfl,⟨nd,rfl⟩⟩;refine ⟨_,rfl,?_⟩))
                        go_ret
                        exact ⟨by first | rfl | (simp;done) | (simp [*];done),by repeat (first | exact Drawn0.refl _ | apply Drawn0.step)⟩
                    · rw [if_neg c15] at H
                      have c15b0 : decide ((bt a0 x20_2) < 48) = false := decide_eq_false c15
                      clear c15
                      by_cases c17 : (bt a0 x20_2) > 57
                      · rw [if_pos c17] at H
                        have c17b0 : decide (57 < (bt a0 x20_2)) = true := decide_eq_true c17
                        clear c17
                        by_cases c18 : (bt a0 x20_2) = 95
                        · rw [if_pos c18] at H
                          have c18b0 : ((bt a0 x20_2) == 95) = true := beq_iff_eq.mpr c18
                          have c18b1 : ((bt a0 x20_2) != 95) = false := bne_eq_false_iff_eq.mpr c18
                          clear c18
                          have H' := Aside0.mk H
                          clear H
                          have p12 : 0 ≤ (x20_2 : Int) := of_decide_eq_true (by first | (with_reducible assumption) | assumption)
                          have q12 : x20_2 < (a0.size : Int) := of_decide_eq_true (by first | (with_reducible assumption) | assumption)
                          have hx12 := bt_at a0 x20_2
                          replace p12 := eq_true p12
                          replace q12 := eq_true q12
                          go_wp2_with (first | ((with_reducible refine gate_callee (f := 126) rfl ?_);refine goesL_ (some 27) rfl rfl Try.func126 (by kernel_rfl) rfl #[.int .u8 (bt a0 x20_2)] rfl (by (try simp only [List.map_toArray,List.map_cons,List.map_nil]);first | done | rfl | (simp only [List.length_drop,List.length_take];rfl)) ?_;(with_reducible refine (schema_letter.calls (bt a0 x20_2) false _ A13.out).mono ?_);rintro e w' ⟨rfl,⟨nd,rfl⟩⟩;refine ⟨_,rfl,?_⟩))
                          go_roundg k2
                          case measure => have := HJ1.out;have := HK2.out;omega
                          case rel => exact ⟨(wrap64 (x20_2 + 1)),(by first | rfl | (simp;done) | (simp [*];done)),H',⟨by have := HJ1.out;have := HK2.out;omega⟩,by repeat (first | exact Drawn0.refl _ | apply Drawn0.step)⟩
                        · rw [if_neg c18] at H
                          have c18b0 : ((bt a0 x20_2) == 95) = false := beq_eq_false_iff_ne.mpr c18
                          have c18b1 : ((bt a0 x20_2) != 95) = true := bne_iff_ne.mpr c18
                          obtain rfl := Option.some.inj H
                          have p12 : 0 ≤ (x20_2 : Int) := of_decide_eq_true (by first | (with_reducible assumption) | assumption)
                          have q12 : x20_2 < (a0.size : Int) := of_decide_eq_true (by first | (with_reducible assumption) | assumption)
                          have hx12 := bt_at a0 x20_2
                          replace p12 := eq_true p12
                          replace q12 := eq_true q12
                          go_wp2_with (first | ((with_reducible refine gate_callee (f := 126) rfl ?_);refine goesL_ (some 27) rfl rfl Try.func126 (by kernel_rfl) rfl #[.int .u8 (bt a0 x20_2)] rfl (by (try simp only [List.map_toArray,List.map_cons,List.map_nil]);first | done | rfl | (simp only [List.length_drop,List.length_take];rfl)) ?_;(with_reducible refine (schema_letter.calls (bt a0 x20_2) false _ A13.out).mono ?_);rintro e w' ⟨rfl,⟨nd,rfl⟩⟩;refine ⟨_,rfl,?_⟩))
                          go_ret
                          exact ⟨by first | rfl | (simp;done) | (simp [*];done),by repeat (first | exact Drawn0.refl _ | apply Drawn0.step)⟩
                      · rw [if_neg c17] at H
                        have c17b0 : decide (57 < (bt a0 x20_2)) = false := decide_eq_false c17
                        clear c17
                        have H' := Aside0.mk H
                        clear H
                        have p12 : 0 ≤ (x20_2 : Int) := of_decide_eq_true (by first | (with_reducible assumption) | assumption)
                        have q12 : x20_2 < (a0.size : Int) := of_decide_eq_true (by first | (with_reducible assumption) | assumption)
                        have hx12 := bt_at a0 x20_2
                        replace p12 := eq_true p12
                        replace q12 := eq_true q12
                        go_wp2_with (first | ((with_reducible refine gate_callee (f := 126) rfl ?_);refine goesL_ (some 27) rfl rfl Try.func126 (by kernel_rfl) rfl #[.int .u8 (bt a0 x20_2)] rfl (by (try simp only [List.map_toArray,List.map_cons,List.map_nil]);first | done | rfl | (simp only [List.length_drop,List.length_take];rfl)) ?_;(with_reducible refine (schema_letter.calls (bt a0 x20_2) false _ A13.out).mono ?_);rintro e w' ⟨rfl,⟨nd,rfl⟩⟩;refine ⟨_,rfl,?_⟩))
                        go_roundg k2
                        case measure => have := HJ1.out;have := HK2.out;omega
                        case rel => exact ⟨(wrap64 (x20_2 + 1)),(by first | rfl | (simp;done) | (simp [*];done)),H',⟨by have := HJ1.out;have := HK2.out;omega⟩,by repeat (first | exact Drawn0.refl _ | apply Drawn0.step)⟩
                · rw [if_neg c11] at H
                  exact absurd H (by simp)
              · rw [if_neg c10] at H
                exact absurd H (by simp)
            · rw [if_neg c9] at H
              have c9b0 : decide (x20_2 < (a0.size : Int)) = false := decide_eq_false c9
              clear c9
              obtain rfl := Option.some.inj H
              go_wp2
              go_ret
              exact ⟨by first | rfl | (simp;done) | (simp [*];done),by repeat (first | exact Drawn0.refl _ | apply Drawn0.step)⟩
end Go.Proofs.Ythfaimomcbmniaa.Z
end
section
namespace Go.Proofs.Ythfaimomcbmniaa.Z
open Go.RowKit Go.Proofs.YthfaimomcbmniaaW.PrintWords Go.Proofs.YthfaimomcbmniaaW.PrintLast Go.Proofs.YthfaimomcbmniaaW.PrintMore
attribute [local go_sem] max2_int min2_int max_two min_two max_three min_three max_four min_four
set_option linter.unusedVariables false
set_option linter.unusedSimpArgs false
mutual
def verdererref07_Name.j0 : Nat → ByteArray → Bool → Option (Bool)
  | 0,_,_ => none
  | k + 1,x0,x13 => if x13 = true then (some false) else (verdererref07_Name.l0 k x0 0)
def verdererref07_Name.l0 : Nat → ByteArray → Int → Option (Bool)
  | 0,_,_ => none
  | k + 1,x0,x3 => if x3 < (x0.size : Int) then (if 0 ≤ x3 then (if (bt x0 x3) ≥ 97 then (if ((bt x0 x3) ≤ 122) then (verdererref07_Name.l0 k x0 (wrap64 (x3 + 1))) else (if x3 = 0 then (some false) else (if (bt x0 x3) = 95 then (verdererref07_Name.l0 k x0 (wrap64 (x3 + 1))) else (if (bt x0 x3) < 48 then (some false) else (if (bt x0 x3) > 57 then (some false) else (verdererref07_Name.l0 k x0 (wrap64 (x3 + 1)))))))) else (if x3 = 0 then (some false) else (if (bt x0 x3) = 95 then (verdererref07_Name.l0 k x0 (wrap64 (x3 + 1))) else (if (bt x0 x3) < 48 then (some false) else (if (bt x0 x3) > 57 then (some false) else (verdererref07_Name.l0 k x0 (wrap64 (x3 + 1)))))))) else (none)) else (some true)
end
def verdererref07_Name.f (k : Nat) (a0 : ByteArray) : Option (Bool) := if (a0.size : Int) < 1 then (verdererref07_Name.j0 k a0 true) else (verdererref07_Name.j0 k a0 (decide ((a0.size : Int) > 16)))
theorem verdererref07_Name.mono_l : ∀ k,(∀ y0 y1,LeO (verdererref07_Name.j0 k y0 y1) (verdererref07_Name.j0 (k + 1) y0 y1)) ∧ (∀ y0 y1,LeO (verdererref07_Name.l0 k y0 y1) (verdererref07_Name.l0 (k + 1) y0 y1))
  | 0 => ⟨fun _ _ r h => by simp [verdererref07_Name.j0] at h,fun _ _ r h => by simp [verdererref07_Name.l0] at h⟩
  | k + 1 => by
    obtain ⟨ih0,ih1⟩ := verdererref07_Name.mono_l k
    refine ⟨?_,?_⟩
    · intro y0 y1
      unfold verdererref07_Name.j0
      repeat' first
      | (with_reducible exact ih0 _ _)
      | (with_reducible exact ih1 _ _)
      | (with_reducible exact LeO.refl _)
      | (with_reducible exact LeO.none _)
      | (with_reducible refine LeO.ite ?_ ?_)
      | (with_reducible refine LeO.bind ?_ (fun _ => ?_))
      | exact ih0 _ _
      | exact ih1 _ _
      | exact LeO.none _
      | refine LeO.ite ?_ ?_
      | refine LeO.bind ?_ (fun _ => ?_)
    · intro y0 y1
      unfold verdererref07_Name.l0
      repeat' first
      | (with_reducible exact ih0 _ _)
      | (with_reducible exact ih1 _ _)
      | (with_reducible exact LeO.refl _)
      | (with_reducible exact LeO.none _)
      | (with_reducible refine LeO.ite ?_ ?_)
      | (with_reducible refine LeO.bind ?_ (fun _ => ?_))
      | exact ih0 _ _
      | exact ih1 _ _
      | exact LeO.none _
      | refine LeO.ite ?_ ?_
      | refine LeO.bind ?_ (fun _ => ?_)
theorem verdererref07_Name.mono : ∀ a0 k,LeO (verdererref07_Name.f k a0) (verdererref07_Name.f (k + 1) a0) := by
  intro a0 k
  obtain ⟨ih0,ih1⟩ := verdererref07_Name.mono_l k
  unfold verdererref07_Name.f
  repeat' first
      | (with_reducible exact ih0 _ _)
      | (with_reducible exact ih1 _ _)
      | (with_reducible exact LeO.refl _)
      | (with_reducible exact LeO.none _)
      | (with_reducible refine LeO.ite ?_ ?_)
      | (with_reducible refine LeO.bind ?_ (fun _ => ?_))
      | exact ih0 _ _
      | exact ih1 _ _
      | exact LeO.none _
      | refine LeO.ite ?_ ?_
      | refine LeO.bind ?_ (fun _ => ?_)
set_option maxHeartbeats 8000000 in
set_option maxRecDepth 100000 in
theorem verdererref07_Name.calls (k : Nat) (a0 : ByteArray) (r : Bool) (w : World) (h : verdererref07_Name.f k a0 = some r) :
    Calls Try.prog 130 #[.string a0] w fun e w' => e = .returned (.bool r) ∧ Drawn0 w w' := by
  have H : (if (a0.size : Int) < 1 then (verdererref07_Name.j0 k a0 true) else (verdererref07_Name.j0 k a0 (decide ((a0.size : Int) > 16)))) = some r := h
  clear h
  have HC2 := Aside0.mk H
  clear H
  go_enter Try.func130,Try.ntmps130
  go_upto_region 1 with (fail)
  go_cut [13] (fun v13 wc => ∃ (kq : Nat) (x13_1 : Bool),v13 = .bool x13_1 ∧ Aside0 (verdererref07_Name.j0 kq a0 x13_1 = some r) ∧ Aside0 (kq ≤ k) ∧ Drawn0 w wc)
  case first =>
    have H := HC2.out
    clear HC2
    by_cases c3 : (a0.size : Int) < 1
    · rw [if_pos c3] at H
      have c3b0 : decide ((a0.size : Int) < 1) = true := decide_eq_true c3
      have c3b1 : decide (a0.size < 1) = true := decide_eq_true (by omega)
      clear c3
      (first | rw [c3b0] | (simp only [i64_w,i32_w];rw [c3b0]) | skip)
      have H' := Aside0.mk H
      clear H
      go_wp2
      go_meet
      case rel => exact ⟨_,(true),(by first | rfl | (simp;done) | (simp [*];done)),H',⟨by first | omega | exact Nat.le_refl _⟩,by repeat (first | exact Drawn0.refl _ | apply Drawn0.step)⟩
    · rw [if_neg c3] at H
      have c3b0 : decide ((a0.size : Int) < 1) = false := decide_eq_false c3
      have c3b1 : decide (a0.size < 1) = false := decide_eq_false (by omega)
      clear c3
      (first | rw [c3b0] | (simp only [i64_w,i32_w];rw [c3b0]) | skip)
      have H' := Aside0.mk H
      clear H
      go_wp2
      go_meet
      case rel => exact ⟨_,(decide ((a0.size : Int) > 16)),(by first | rfl | (simp;done) | (simp [*];done)),H',⟨by first | omega | exact Nat.le_refl _⟩,by repeat (first | exact Drawn0.refl _ | apply Drawn0.step)⟩
  case rest =>
    clear HC2
    try clear c1
    try clear p2
    try clear c3
    try clear c3b0
    try clear c3b1
    obtain ⟨kq,x13_1,rfl,HA,HJ1,⟨mc1,rfl⟩⟩ := hcut
    cases kq with
    | zero => exact absurd HA.out (by simp [verdererref07_Name.j0])
    | succ kj1 =>
      have H := HA.out
      clear HA
      simp only [verdererref07_Name.j0] at H
      by_cases c4 : x13_1 = true
      · subst c4
        have H1 : (some false) = some r := by rw [if_pos rfl] at H;exact H
        clear H
        have H := H1
        clear H1
        obtain rfl := Option.some.inj H
        go_wp2
        go_ret
        exact ⟨by first | rfl | (simp;done) | (simp [*];done),by repeat (first | exact Drawn0.refl _ | apply Drawn0.step)⟩
      · replace c4 := Bool.eq_false_iff.mpr c4
        subst c4
        have H1 : (verdererref07_Name.l0 kj1 a0 0) = some r := by rw [if_neg (show ¬ (false = true) by decide)] at H;exact H
        clear H
        have H := H1
        clear H1
        have H' := Aside0.mk H
        clear H
        go_wp2
        go_loopg [3] kj1 (fun kq v3 w' => ∃ (x3_2 : Int),v3 = .int .i64 x3_2 ∧ Aside0 (verdererref07_Name.l0 kq a0 x3_2 = some r) ∧ Aside0 (kq ≤ kj1) ∧ Drawn0 w w')
        case atStart => exact ⟨(0),(by first | rfl | (simp;done) | (simp [*];done)),H',⟨Nat.le_refl _⟩,by repeat (first | exact Drawn0.refl _ | apply Drawn0.step)⟩
        case round =>
          clear H'
          try clear c1
          try clear p2
          try clear c3
          try clear c3b0
          try clear c3b1
          try clear c4
          try clear p2
          obtain ⟨x3_2,rfl,HA,HK2,⟨m2,rfl⟩⟩ := hrel
          cases gk with
          | zero => exact absurd HA.out (by simp [verdererref07_Name.l0])
          | succ k2 =>
            have H := HA.out
            clear HA
            simp only [verdererref07_Name.l0] at H
            by_cases c5 : x3_2 < (a0.size : Int)
            · rw [if_pos c5] at H
              have c5b0 : decide (x3_2 < (a0.size : Int)) = true := decide_eq_true c5
              clear c5
              by_cases c6 : 0 ≤ x3_2
              · rw [if_pos c6] at H
                have c6b0 : decide (0 ≤ x3_2) = true := decide_eq_true c6
                clear c6
                by_cases c8 : (bt a0 x3_2) ≥ 97
                · rw [if_pos c8] at H
                  have c8b0 : decide (97 ≤ (bt a0 x3_2)) = true := decide_eq_true c8
                  clear c8
                  by_cases c9 : ((bt a0 x3_2) ≤ 122)
                  · rw [if_pos c9] at H
                    have c9b0 : decide ((bt a0 x3_2) ≤ 122) = true := decide_eq_true c9
                    clear c9
                    have H' := Aside0.mk H
                    clear H
                    have p7 : 0 ≤ (x3_2 : Int) := of_decide_eq_true (by first | (with_reducible assumption) | assumption)
                    have q7 : x3_2 < (a0.size : Int) := of_decide_eq_true (by first | (with_reducible assumption) | assumption)
                    have hx7 := bt_at a0 x3_2
                    replace p7 := eq_true p7
                    replace q7 := eq_true q7
                    go_wp2
                    go_roundg k2
                    case measure => have := HJ1.out;have := HK2.out;omega
                    case rel => exact ⟨(wrap64 (x3_2 + 1)),(by first | rfl | (simp;done) | (simp [*];done)),H',⟨by have := HJ1.out;have := HK2.out;omega⟩,by repeat (first | exact Drawn0.refl _ | apply Drawn0.step)⟩
                  · rw [if_neg c9] at H
                    have c9b0 : decide ((bt a0 x3_2) ≤ 122) = false := decide_eq_false c9
                    clear c9
                    by_cases c10 : x3_2 = 0
                    · rw [if_pos c10] at H
                      have c10b0 : (x3_2 == 0) = true := beq_iff_eq.mpr c10
                      have c10b1 : (x3_2 != 0) = false := bne_eq_false_iff_eq.mpr c10
                      clear c10
                      obtain rfl := Option.some.inj H
                      have p7 : 0 ≤ (x3_2 : Int) := of_decide_eq_true (by first | (with_reducible assumption) | assumption)
                      have q7 : x3_2 < (a0.size : Int) := of_decide_eq_true (by first | (with_reducible assumption) | assumption)
                      have hx7 := bt_at a0 x3_2
                      replace p7 := eq_true p7
                      replace q7 := eq_true q7
                      go_wp2
                      go_ret
                      exact ⟨by first | rfl | (simp;done) | (simp [*];done),by repeat (first | exact Drawn0.refl _ | apply Drawn0.step)⟩
                    · rw [if_neg c10] at H
                      have c10b0 : (x3_2 == 0) = false := beq_eq_false_iff_ne.mpr c10
                      have c10b1 : (x3_2 != 0) = true := bne_iff_ne.mpr c10
                      by_cases c11 : (bt a0 x3_2) = 95
                      · rw [if_pos c11] at H
                        have c11b0 : ((bt a0 x3_2) == 95) = true := beq_iff_eq.mpr c11
                        have c11b1 : ((bt a0 x3_2) != 95) = false := bne_eq_false_iff_eq.mpr c11
                        clear c11
                        have H' := Aside0.mk H
                        clear H
                        have p7 : 0 ≤ (x3_2 : Int) := of_decide_eq_true (by first | (with_reducible assumption) | assumption)
                        have q7 : x3_2 < (a0.size : Int) := of_decide_eq_true (by first | (with_reducible assumption) | assumption)
                        have hx7 := bt_at a0 x3_2
                        replace p7 := eq_true p7
                        replace q7 := eq_true q7
                        go_wp2
                        go_roundg k2
                        case measure => have := HJ1.out;have := HK2.out;omega
                        case rel => exact ⟨(wrap64 (x3_2 + 1)),(by first | rfl | (simp;done) | (simp [*];done)),H',⟨by have := HJ1.out;have := HK2.out;omega⟩,by repeat (first | exact Drawn0.refl _ | apply Drawn0.step)⟩
                      · rw [if_neg c11] at H
                        have c11b0 : ((bt a0 x3_2) == 95) = false := beq_eq_false_iff_ne.mpr c11
                        have c11b1 : ((bt a0 x3_2) != 95) = true := bne_iff_ne.mpr c11
                        by_cases c12 : (bt a0 x3_2) < 48
                        · rw [if_pos c12] at H
                          have c12b0 : decide ((bt a0 x3_2) < 48) = true := decide_eq_true c12
                          clear c12
                          obtain rfl := Option.some.inj H
                          have p7 : 0 ≤ (x3_2 : Int) := of_decide_eq_true (by first | (with_reducible assumption) | assumption)
                          have q7 : x3_2 < (a0.size : Int) := of_decide_eq_true (by first | (with_reducible assumption) | assumption)
                          have hx7 := bt_at a0 x3_2
                          replace p7 := eq_true p7
                          replace q7 := eq_true q7
                          go_wp2
                          go_ret
                          exact ⟨by first | rfl | (simp;done) | (simp [*];done),by repeat (first | exact Drawn0.refl _ | apply Drawn0.step)⟩
                        · rw [if_neg c12] at H
                          have c12b0 : decide ((bt a0 x3_2) < 48) = false := decide_eq_false c12
                          clear c12
                          by_cases c13 : (bt a0 x3_2) > 57
                          · rw [if_pos c13] at H
                            have c13b0 : decide (57 < (bt a0 x3_2)) = true := decide_eq_true c13
                            clear c13
                            obtain rfl := Option.some.inj H
                            have p7 : 0 ≤ (x3_2 : Int) := of_decide_eq_true (by first | (with_reducible assumption) | assumption)
                            have q7 : x3_2 < (a0.size : Int) := of_decide_eq_true (by first | (with_reducible assumption) | assumption)
                            have hx7 := bt_at a0 x3_2
                            replace p7 := eq_true p7
                            replace q7 := eq_true q7
                            go_wp2
                            go_ret
                            exact ⟨by first | rfl | (simp;done) | (simp [*];done),by repeat (first | exact Drawn0.refl _ | apply Drawn0.step)⟩
                          · rw [if_neg c13] at H
                            have c13b0 : decide (57 < (bt a0 x3_2)) = false := decide_eq_false c13
                            clear c13
                            have H' := Aside0.mk H
                            clear H
                            have p7 : 0 ≤ (x3_2 : Int) := of_decide_eq_true (by first | (with_reducible assumption) | assumption)
                            have q7 : x3_2 < (a0.size : Int) := of_decide_eq_true (by first | (with_reducible assumption) | assumption)
                            have hx7 := bt_at a0 x3_2
                            replace p7 := eq_true p7
                            replace q7 := eq_true q7
                            go_wp2
                            go_roundg k2
                            case measure => have := HJ1.out;have := HK2.out;omega
                            case rel => exact ⟨(wrap64 (x3_2 + 1)),(by first | rfl | (simp;done) | (simp [*];done)),H',⟨by have := HJ1.out;have := HK2.out;omega⟩,by repeat (first | exact Drawn0.refl _ | apply Drawn0.step)⟩
                · rw [if_neg c8] at H
                  have c8b0 : decide (97 ≤ (bt a0 x3_2)) = false := decide_eq_false c8
                  clear c8
                  by_cases c14 : x3_2 = 0
                  · rw [if_pos c14] at H
                    have c14b0 : (x3_2 == 0) = true := beq_iff_eq.mpr c14
                    have c14b1 : (x3_2 != 0) = false := bne_eq_false_iff_eq.mpr c14
                    clear c14
                    obtain rfl := Option.some.inj H
                    have p7 : 0 ≤ (x3_2 : Int) := of_decide_eq_true (by first | (with_reducible assumption) | assumption)
                    have q7 : x3_2 < (a0.size : Int) := of_decide_eq_true (by first | (with_reducible assumption) | assumption)
                    have hx7 := bt_at a0 x3_2
                    replace p7 := eq_true p7
                    replace q7 := eq_true q7
                    go_wp2
                    go_ret
                    exact ⟨by first | rfl | (simp;done) | (simp [*];done),by repeat (first | exact Drawn0.refl _ | apply Drawn0.step)⟩
                  · rw [if_neg c14] at H
                    have c14b0 : (x3_2 == 0) = false := beq_eq_false_iff_ne.mpr c14
                    have c14b1 : (x3_2 != 0) = true := bne_iff_ne.mpr c14
                    by_cases c15 : (bt a0 x3_2) = 95
                    · rw [if_pos c15] at H
                      have c15b0 : ((bt a0 x3_2) == 95) = true := beq_iff_eq.mpr c15
                      have c15b1 : ((bt a0 x3_2) != 95) = false := bne_eq_false_iff_eq.mpr c15
                      clear c15
                      have H' := Aside0.mk H
                      clear H
                      have p7 : 0 ≤ (x3_2 : Int) := of_decide_eq_true (by first | (with_reducible assumption) | assumption)
                      have q7 : x3_2 < (a0.size : Int) := of_decide_eq_true (by first | (with_reducible assumption) | assumption)
                      have hx7 := bt_at a0 x3_2
                      replace p7 := eq_true p7
                      replace q7 := eq_true q7
                      go_wp2
                      go_roundg k2
                      case measure => have := HJ1.out;have := HK2.out;omega
                      case rel => exact ⟨(wrap64 (x3_2 + 1)),(by first | rfl | (simp;done) | (simp [*];done)),H',⟨by have := HJ1.out;have := HK2.out;omega⟩,by repeat (first | exact Drawn0.refl _ | apply Drawn0.step)⟩
                    · rw [if_neg c15] at H
                      have c15b0 : ((bt a0 x3_2) == 95) = false := beq_eq_false_iff_ne.mpr c15
                      have c15b1 : ((bt a0 x3_2) != 95) = true := bne_iff_ne.mpr c15
                      by_cases c16 : (bt a0 x3_2) < 48
                      · rw [if_pos c16] at H
                        have c16b0 : decide ((bt a0 x3_2) < 48) = true := decide_eq_true c16
                        clear c16
                        obtain rfl := Option.some.inj H
                        have p7 : 0 ≤ (x3_2 : Int) := of_decide_eq_true (by first | (with_reducible assumption) | assumption)
                        have q7 : x3_2 < (a0.size : Int) := of_decide_eq_true (by first | (with_reducible assumption) | assumption)
                        have hx7 := bt_at a0 x3_2
                        replace p7 := eq_true p7
                        replace q7 := eq_true q7
                        go_wp2
                        go_ret
                        exact ⟨by first | rfl | (simp;done) | (simp [*];done),by repeat (first | exact Drawn0.refl _ | apply Drawn0.step)⟩
                      · rw [if_neg c16] at H
                        have c16b0 : decide ((bt a0 x3_2) < 48) = false := decide_eq_false c16
                        clear c16
                        by_cases c17 : (bt a0 x3_2) > 57
                        · rw [if_pos c17] at H
                          have c17b0 : decide (57 < (bt a0 x3_2)) = true := decide_eq_true c17
                          clear c17
                          obtain rfl := Option.some.inj H
                          have p7 : 0 ≤ (x3_2 : Int) := of_decide_eq_true (by first | (with_reducible assumption) | assumption)
                          have q7 : x3_2 < (a0.size : Int) := of_decide_eq_true (by first | (with_reducible assumption) | assumption)
                          have hx7 := bt_at a0 x3_2
                          replace p7 := eq_true p7
                          replace q7 := eq_true q7
                          go_wp2
                          go_ret
                          exact ⟨by first | rfl | (simp;done) | (simp [*];done),by repeat (first | exact Drawn0.refl _ | apply Drawn0.step)⟩
                        · rw [if_neg c17] at H
                          have c17b0 : decide (57 < (bt a0 x3_2)) = false := decide_eq_false c17
                          clear c17
                          have H' := Aside0.mk H
                          clear H
                          have p7 : 0 ≤ (x3_2 : Int) := of_decide_eq_true (by first | (with_reducible assumption) | assumption)
                          have q7 : x3_2 < (a0.size : Int) := of_decide_eq_true (by first | (with_reducible assumption) | assumption)
                          have hx7 := bt_at a0 x3_2
                          replace p7 := eq_true p7
                          replace q7 := eq_true q7
                          go_wp2
                          go_roundg k2
                          case measure => have := HJ1.out;have := HK2.out;omega
                          case rel => exact ⟨(wrap64 (x3_2 + 1)),(by first | rfl | (simp;done) | (simp [*];done)),H',⟨by have := HJ1.out;have := HK2.out;omega⟩,by repeat (first | exact Drawn0.refl _ | apply Drawn0.step)⟩
              · rw [if_neg c6] at H
                exact absurd H (by simp)
            · rw [if_neg c5] at H
              have c5b0 : decide (x3_2 < (a0.size : Int)) = false := decide_eq_false c5
              clear c5
              obtain rfl := Option.some.inj H
              go_wp2
              go_ret
              exact ⟨by first | rfl | (simp;done) | (simp [*];done),by repeat (first | exact Drawn0.refl _ | apply Drawn0.step)⟩
end Go.Proofs.Ythfaimomcbmniaa.Z
end
section
namespace Go.Proofs.Ythfaimomcbmniaa.Z
set_option linter.unusedVariables false
set_option linter.unusedSimpArgs false
open Go.RowKit Go.Proofs.YthfaimomcbmniaaW.PrintWords Go.Proofs.YthfaimomcbmniaaW.PrintLast Go.Proofs.YthfaimomcbmniaaW.PrintMore
def letB (c : Int) : Bool := decide (97 ≤ c ∧ c ≤ 122)
def charB (c : Int) : Bool := decide ((97 ≤ c ∧ c ≤ 122) ∨ c = 95 ∨ (48 ≤ c ∧ c ≤ 57))
def restB (s : ByteArray) : Nat → Nat → Bool
  | 0,_ => true
  | d + 1,i => charB (bt s (i : Int)) && restB s d (i + 1)
theorem rest_succ (s : ByteArray) (d i : Nat) : restB s (d + 1) i = (charB (bt s (i : Int)) && restB s d (i + 1)) := rfl
def nameB (s : ByteArray) : Bool := decide (1 ≤ s.size ∧ s.size ≤ 16) && (letB (bt s 0) && restB s (s.size - 1) 1)
theorem let_char {c : Int} (h : letB c = true) : charB c = true := by
  unfold letB at h
  unfold charB
  have := of_decide_eq_true h
  exact decide_eq_true (.inl this)
theorem letter_f (c : Int) : schema_letter.f c = some (letB c) := by
  unfold schema_letter.f letB
  by_cases h : c ≥ 97
  · rw [if_pos h]
    congr 1
    by_cases h2 : c ≤ 122
    · rw [decide_eq_true h2,decide_eq_true ⟨h,h2⟩]
    · rw [decide_eq_false h2,decide_eq_false (by omega)]
  · rw [if_neg h,decide_eq_false (by omega)]
theorem name_l0 (s : ByteArray) (hs : s.size ≤ 16) : ∀ d i k,s.size - i = d → i ≤ s.size → d + 1 < k → schema_Name.l0 k s (s.size : Int) (i : Int) = some (restB s d i) := by
  intro d
  induction d with
  | zero =>
    intro i k hd hi hk
    obtain ⟨k,rfl⟩ : ∃ m,k = m + 1 := ⟨k - 1,by omega⟩
    simp only [schema_Name.l0]
    rw [if_neg (by omega)]
    rfl
  | succ d ih =>
    intro i k hd hi hk
    obtain ⟨k,rfl⟩ : ∃ m,k = m + 1 := ⟨k - 1,by omega⟩
    have hw : wrap64 ((i : Int) + 1) = ((i + 1 : Nat) : Int) := by unfold wrap64;omega
    have hn := ih (i + 1) k (by omega) (by omega) (by omega)
    simp only [schema_Name.l0]
    rw [if_pos (by omega),if_pos (by omega),if_pos (by omega),letter_f,Option.bind_some,hw,hn]
    rw [rest_succ]
    by_cases h1 : letB (bt s (i : Int)) = true
    · rw [if_pos h1,let_char h1];rfl
    · rw [if_neg h1]
      have h2 : ¬ (97 ≤ bt s (i : Int) ∧ bt s (i : Int) ≤ 122) := fun h => h1 (decide_eq_true h)
      by_cases h3 : bt s (i : Int) = 95
      · have hc : charB (bt s (i : Int)) = true := decide_eq_true (.inr (.inl h3))
        rw [hc,if_neg (by omega),if_pos (by omega),if_pos h3];rfl
      · by_cases h4 : bt s (i : Int) < 48
        · have hc : charB (bt s (i : Int)) = false := decide_eq_false (by omega)
          rw [hc,if_pos h4,if_neg h3];rfl
        · by_cases h5 : bt s (i : Int) > 57
          · have hc : charB (bt s (i : Int)) = false := decide_eq_false (by omega)
            rw [hc,if_neg h4,if_pos h5,if_neg h3];rfl
          · have hc : charB (bt s (i : Int)) = true := decide_eq_true (by omega)
            rw [hc,if_neg h4,if_neg h5];rfl
theorem name_f (s : ByteArray) (k : Nat) (hk : 40 < k) : schema_Name.f k s = some (nameB s) := by
  obtain ⟨k,rfl⟩ : ∃ m,k = m + 1 := ⟨k - 1,by omega⟩
  unfold schema_Name.f nameB
  by_cases h0 : s.toList = ([] : List UInt8)
  · have hz : s.size = 0 := by
      rw [ByteArray.toList_eq] at h0
      have := congrArg List.length h0
      simpa using this
    rw [if_pos h0,decide_eq_false (by omega)]
    simp [schema_Name.j0]
  · have hz : s.size ≠ 0 := by
      intro e
      apply h0
      rw [ByteArray.toList_eq]
      apply List.eq_nil_of_length_eq_zero
      rw [Array.length_toList]
      exact e
    rw [if_neg h0]
    by_cases h1 : (s.size : Int) > 16
    · rw [if_pos h1,decide_eq_false (by omega)]
      simp [schema_Name.j0]
    · rw [if_neg h1,if_pos (by omega),letter_f,Option.bind_some,decide_eq_true (show 1 ≤ s.size ∧ s.size ≤ 16 by omega)]
      simp only [schema_Name.j0,Bool.true_and]
      cases h2 : letB (bt s 0) with
      | false => simp
      | true =>
        rw [if_neg (by simp)]
        have h3 := name_l0 s (by omega) s.size 0 k (by omega) (by omega) (by omega)
        rw [show ((0 : Nat) : Int) = 0 from rfl] at h3
        rw [h3]
        obtain ⟨m,hm⟩ : ∃ m,s.size = m + 1 := ⟨s.size - 1,by omega⟩
        rw [hm]
        show some (charB (bt s ((0 : Nat) : Int)) && restB s m (0 + 1)) = some (true && restB s m 1)
        rw [show ((0 : Nat) : Int) = 0 from rfl,let_char h2]
theorem name_size {s : ByteArray} (h : nameB s = true) : 1 ≤ s.size ∧ s.size ≤ 16 := by
  unfold nameB at h
  rw [Bool.and_eq_true] at h
  exact of_decide_eq_true h.1
end Go.Proofs.Ythfaimomcbmniaa.Z
end
section
namespace Go.Proofs.Ythfaimomcbmniaa.Z
set_option linter.unusedVariables false
set_option linter.unusedSimpArgs false
open Go.RowKit
inductive Ch (L : List Tn) : Nm → List Nm → Prop
  | stop {n : Nm} : getT L n = none → Ch L n []
  | go {n p : Nm} {l : List Nm} : getT L n = some p → Ch L p l → Ch L n (n :: l)
theorem Ch.up {L : List Tn} {n : Nm} {l : List Nm} (h : Ch L n l) : ∀ k,l.length < k → upL L k n = l := by
  induction h with
  | stop h =>
    intro k hk
    obtain ⟨k,rfl⟩ : ∃ m,k = m + 1 := ⟨k - 1,by simp at hk;omega⟩
    show (match getT L _ with | none => [] | some p => _ :: upL L k p) = []
    rw [h]
  | go h _ ih =>
    intro k hk
    obtain ⟨k,rfl⟩ : ∃ m,k = m + 1 := ⟨k - 1,by simp at hk;omega⟩
    show (match getT L _ with | none => [] | some p => _ :: upL L k p) = _
    rw [h]
    show _ :: upL L k _ = _
    rw [ih k (by simpa using hk)]
theorem Ch.uniq {L : List Tn} {n : Nm} {l : List Nm} (h : Ch L n l) : ∀ {m},Ch L n m → l = m := by
  induction h with
  | stop h =>
    intro m hm
    cases hm with
    | stop _ => rfl
    | go h2 _ => rw [h] at h2;cases h2
  | go h _ ih =>
    intro m hm
    cases hm with
    | stop h2 => rw [h] at h2;cases h2
    | go h2 h3 =>
      rw [h] at h2
      injection h2 with h2
      subst h2
      rw [ih h3]
theorem ch_of_up {L : List Tn} : ∀ k n,(upL L k n).length < k → Ch L n (upL L k n)
  | 0,n,h => absurd h (Nat.not_lt_zero _)
  | k + 1,n,h => by
    cases hg : getT L n with
    | none =>
      have e : upL L (k + 1) n = [] := by
        show (match getT L n with | none => [] | some p => n :: upL L k p) = []
        rw [hg]
      rw [e]
      exact .stop hg
    | some p =>
      have e : upL L (k + 1) n = n :: upL L k p := by
        show (match getT L n with | none => [] | some p => n :: upL L k p) = _
        rw [hg]
      rw [e] at h ⊢
      exact .go hg (ch_of_up k p (by simpa using h))
theorem Shallow.ch {L : List Tn} (h : Shallow L) (n : Nm) : Ch L n (abv L n) := ch_of_up 6 n (by have := h n;omega)
theorem shallow_of {L : List Tn} (h : ∀ n,∃ l,Ch L n l ∧ l.length ≤ 5) : Shallow L := fun n => by
  obtain ⟨l,h1,h2⟩ := h n
  rw [h1.up 6 (by omega)]
  exact h2
structure Ok (L : List Tn) : Prop where
  sh : Shallow L
  nm : ∀ p ∈ L,nameB p.1 = true
  pr : ∀ p ∈ L,p.2 = emp ∨ getT L p.2 ≠ none
  len : L.length ≤ 24
theorem name_emp : nameB emp = false := by
  unfold nameB
  rw [decide_eq_false (by show ¬ (1 ≤ 0 ∧ 0 ≤ 16);omega)]
  rfl
theorem Ok.key {L : List Tn} (h : Ok L) {n p : Nm} (hg : getT L n = some p) : nameB n = true := h.nm _ (getT_mem L n p hg)
theorem Ok.psize {L : List Tn} (h : Ok L) : ∀ p ∈ L,p.2.size ≤ maxLen := by
  intro p hp
  rcases h.pr p hp with e | e
  · rw [e];exact Nat.zero_le _
  · cases hg : getT L p.2 with
    | none => exact absurd hg e
    | some q =>
      have := (name_size (h.key hg)).2
      unfold maxLen
      omega
theorem Ok.nil : Ok [] := ⟨fun n => by show (match getT [] n with | none => [] | some p => n :: upL [] 5 p).length ≤ 5;exact Nat.zero_le _,by simp,by simp,by simp⟩
theorem Ch.stay {L L' : List Tn} {n : Nm} (hne : ∀ m,m ≠ n → getT L' m = getT L m) {x : Nm} {l : List Nm} (h : Ch L x l) : n ∉ l → (x = n → l ≠ []) → (∀ m ∈ l,∀ q,getT L m = some q → q = n → getT L n ≠ none) → Ch L' x l := by
  induction h with
  | stop h =>
    intro _ h2 _
    refine .stop ?_
    rw [hne _ (fun e => h2 e rfl)]
    exact h
  | @go m p l h hc ih =>
    intro h1 _ h3
    have hm : m ≠ n := fun e => h1 (by rw [e];exact List.mem_cons_self)
    refine .go (by rw [hne m hm];exact h) (ih (fun h4 => h1 (List.mem_cons_of_mem _ h4)) (fun e hl => ?_) (fun a ha => h3 a (List.mem_cons_of_mem _ ha)))
    subst hl
    cases hc with
    | stop h5 => exact h3 m List.mem_cons_self p h e (by rw [← e];exact h5)
def insL (x : Tn) : List Tn → List Tn
  | [] => [x]
  | y :: r => if (lk x.1).before (lk y.1) then x :: y :: r else y :: insL x r
def delL (n : Nm) (L : List Tn) : List Tn := L.filter fun q => !decide (q.1 = n)
def putL (n p : Nm) (L : List Tn) : List Tn := insL (n,p) (delL n L)
theorem ins_map (x : Tn) : ∀ L : List Tn,(insL x L).map (fun p => (lk p.1,(DataW.lit (lk p.2) : DataW Unit))) = DataW.insert (lk x.1,.lit (lk x.2)) (L.map fun p => (lk p.1,(DataW.lit (lk p.2) : DataW Unit)))
  | [] => rfl
  | y :: r => by
    unfold insL
    show _ = if (lk x.1).before (lk y.1) then _ else _
    by_cases h : (lk x.1).before (lk y.1) = true
    · rw [if_pos h,if_pos h];rfl
    · rw [if_neg h,if_neg h,List.map_cons,ins_map x r]
theorem del_map (n : Nm) (L : List Tn) : (delL n L).map (fun p => (lk p.1,(DataW.lit (lk p.2) : DataW Unit))) = (L.map fun p => (lk p.1,(DataW.lit (lk p.2) : DataW Unit))).filter (fun p => !p.1.sameKey (lk n)) := by
  unfold delL
  induction L with
  | nil => rfl
  | cons q r ih =>
    have e := same_lk q.1 n
    simp only [List.filter_cons,List.map_cons,e]
    cases decide (q.1 = n) with
    | true => simpa using ih
    | false => simpa using ih
theorem mapD_del (n : Nm) (L : List Tn) : mapD (delL n L) = (mapD L).del (lk n) := by
  unfold mapD
  show _ = DataW.map _
  rw [del_map]
theorem mapD_put (n p : Nm) (L : List Tn) : mapD (putL n p L) = (mapD L).put (lk n) (.lit (lk p)) := by
  unfold mapD putL
  show _ = DataW.map _
  rw [ins_map,del_map]
theorem mem_ins (x q : Tn) : ∀ L : List Tn,q ∈ insL x L ↔ q = x ∨ q ∈ L
  | [] => by simp [insL]
  | y :: r => by
    unfold insL
    split
    · simp
    · rw [List.mem_cons,mem_ins x q r,List.mem_cons]
      constructor
      · rintro (h | h | h)
        · exact .inr (.inl h)
        · exact .inl h
        · exact .inr (.inr h)
      · rintro (h | h | h)
        · exact .inr (.inl h)
        · exact .inl h
        · exact .inr (.inr h)
theorem mem_del (n : Nm) (q : Tn) (L : List Tn) : q ∈ delL n L ↔ q ∈ L ∧ q.1 ≠ n := by
  unfold delL
  rw [List.mem_filter]
  simp
theorem mem_put (n p : Nm) (q : Tn) (L : List Tn) : q ∈ putL n p L ↔ q = (n,p) ∨ (q ∈ L ∧ q.1 ≠ n) := by
  unfold putL
  rw [mem_ins,mem_del]
theorem getT_del (n m : Nm) : ∀ L : List Tn,getT (delL n L) m = if m = n then none else getT L m
  | [] => by unfold delL;simp [getT]
  | q :: r => by
    have ih := getT_del n m r
    unfold delL at ih ⊢
    rw [List.filter_cons]
    by_cases h : q.1 = n
    · rw [decide_eq_true h,if_neg (by simp),ih,getT_cons]
      by_cases h2 : m = n
      · rw [if_pos h2,if_pos h2]
      · rw [if_neg h2,if_neg h2,if_neg (fun e => h2 (by rw [← e,h]))]
    · rw [decide_eq_false h,if_pos (by rfl),getT_cons,ih,getT_cons]
      by_cases h2 : m = n
      · rw [if_pos h2,if_pos h2,if_neg (fun e => h (by rw [e,h2]))]
      · rw [if_neg h2,if_neg h2]
theorem getT_ins (n p m : Nm) : ∀ L : List Tn,(∀ q ∈ L,q.1 ≠ n) → getT (insL (n,p) L) m = if m = n then some p else getT L m
  | [],_ => by
    unfold insL
    rw [getT_cons]
    by_cases h : m = n
    · rw [if_pos h,if_pos h.symm]
    · rw [if_neg h,if_neg (fun e => h e.symm)]
  | y :: r,hy => by
    have ih := getT_ins n p m r (fun q hq => hy q (List.mem_cons_of_mem _ hq))
    have hy0 := hy y List.mem_cons_self
    unfold insL
    split
    · rw [getT_cons]
      by_cases h : m = n
      · rw [if_pos h,if_pos h.symm]
      · rw [if_neg h,if_neg (fun e => h e.symm)]
    · rw [getT_cons,ih,getT_cons]
      by_cases h : m = n
      · rw [if_pos h,if_pos h,if_neg (fun e => hy0 (by rw [e,h]))]
      · rw [if_neg h,if_neg h]
theorem getT_put (n p m : Nm) (L : List Tn) : getT (putL n p L) m = if m = n then some p else getT L m := by
  unfold putL
  rw [getT_ins n p m _ (fun q hq => ((mem_del n q L).1 hq).2),getT_del]
  by_cases h : m = n
  · rw [if_pos h,if_pos h]
  · rw [if_neg h,if_neg h,if_neg h]
theorem ins_len (x : Tn) : ∀ L : List Tn,(insL x L).length = L.length + 1
  | [] => rfl
  | y :: r => by
    unfold insL
    split
    · rfl
    · rw [List.length_cons,ins_len x r,List.length_cons]
theorem del_none {n : Nm} : ∀ {L : List Tn},getT L n = none → delL n L = L := by
  intro L h
  unfold delL
  rw [List.filter_eq_self]
  intro q hq
  rw [decide_eq_false ((getT_none L n).1 h q hq)]
  rfl
theorem put_len_new {n p : Nm} {L : List Tn} (h : getT L n = none) : (putL n p L).length = L.length + 1 := by
  unfold putL
  rw [ins_len,del_none h]
theorem del_len {n : Nm} : ∀ {L : List Tn},(L.map Prod.fst).Nodup → getT L n ≠ none → (delL n L).length + 1 = L.length
  | [],_,h => absurd rfl h
  | q :: r,hn,h => by
    rw [List.map_cons,List.nodup_cons] at hn
    unfold delL
    rw [List.filter_cons]
    by_cases e : q.1 = n
    · rw [decide_eq_true e,if_neg (by simp)]
      have h1 : getT r n = none := (getT_none r n).2 (fun p hp he => hn.1 (List.mem_map.2 ⟨p,hp,by rw [he,e]⟩))
      have h2 := del_none h1
      unfold delL at h2
      rw [h2,List.length_cons]
    · rw [decide_eq_false e,if_pos (by rfl),List.length_cons,List.length_cons]
      rw [getT_cons,if_neg e] at h
      have := del_len hn.2 h
      unfold delL at this
      omega
theorem put_len_old {n p : Nm} {L : List Tn} (hn : (L.map Prod.fst).Nodup) (h : getT L n ≠ none) : (putL n p L).length = L.length := by
  unfold putL
  rw [ins_len]
  exact del_len hn h
theorem Ok.add {L : List Tn} (h : Ok L) {n p : Nm} (hn : nameB n = true) (hg : getT L n = none) (hp : p = emp ∨ getT L p ≠ none) (hd : (abv L p).length < 5) (hl : L.length < 24) : Ok (putL n p L) := by
  have hsame : ∀ m,m ≠ n → getT (putL n p L) m = getT L m := fun m hm => by rw [getT_put,if_neg hm]
  have hpar : ∀ m q,getT L m = some q → q ≠ n := fun m q hmq e => by
    rcases h.pr _ (getT_mem L m q hmq) with h1 | h1
    · have h1 : q = emp := h1
      rw [← e,h1,name_emp] at hn;cases hn
    · exact h1 (by show getT L q = none;rw [e];exact hg)
  have hch : ∀ x,x ≠ n → Ch (putL n p L) x (abv L x) := fun x hx =>
    Ch.stay hsame (h.sh.ch x) (fun hm => by
      have : ∀ {x l},Ch L x l → ∀ m ∈ l,getT L m ≠ none := fun hc => by
        induction hc with
        | stop _ => intro m hm;cases hm
        | go h1 _ ih =>
          intro m hm
          rcases List.mem_cons.1 hm with rfl | hm
          · rw [h1];simp
          · exact ih m hm
      exact this (h.sh.ch x) n hm hg) (fun e => absurd e hx) (fun m _ q hq e => absurd e (hpar m q hq))
  have hpn : p ≠ n := fun e => by
    rcases hp with h1 | h1
    · rw [← e,h1,name_emp] at hn;cases hn
    · exact h1 (by rw [e];exact hg)
  refine ⟨shallow_of fun x => ?_,fun q hq => ?_,fun q hq => ?_,by rw [put_len_new hg];omega⟩
  · by_cases hx : x = n
    · subst hx
      exact ⟨_,.go (by rw [getT_put,if_pos rfl]) (hch p hpn),by rw [List.length_cons];omega⟩
    · exact ⟨_,hch x hx,h.sh x⟩
  · rcases (mem_put n p q L).1 hq with rfl | ⟨hq,_⟩
    · exact hn
    · exact h.nm q hq
  · rcases (mem_put n p q L).1 hq with rfl | ⟨hq,hqn⟩
    · rcases hp with h1 | h1
      · exact .inl h1
      · exact .inr (by show getT _ p ≠ none;rw [hsame p hpn];exact h1)
    · rcases h.pr q hq with h1 | h1
      · exact .inl h1
      · by_cases e : q.2 = n
        · exact .inr (by rw [e,getT_put,if_pos rfl];simp)
        · exact .inr (by rw [hsame _ e];exact h1)
end Go.Proofs.Ythfaimomcbmniaa.Z
end
section
namespace Go.Proofs.Ythfaimomcbmniaa.Z
set_option linter.unusedVariables false
set_option linter.unusedSimpArgs false
open Go.RowKit Go.Shelf Go.Maps Go.Proofs.YthfaimomcbmniaaW.PrintWords Go.Proofs.YthfaimomcbmniaaW.PrintLast Go.Proofs.YthfaimomcbmniaaW.PrintMore Go.Proofs.Ythfaimomcbmniaa.Cmp
theorem own_tight {w : World} {b n : Nat} {D : DataW Unit} (h : w.ownsMap Try.prog 9 RvS b n D) : w.ownsMap Try.prog 9 RvS b (Maps.size D) D := by
  obtain ⟨es,clock,h1,h2,h3,rfl⟩ := h
  refine ⟨es,clock,h1,h2,?_,rfl⟩
  rw [size_eq,length_sorted]
  simp
theorem TreeAt.turned {w w1 : World} {t b n : Nat} {L L' : List Tn} (h : TreeAt w t b L) (hg : w.grownBy w1 (some b)) (hm : w1.ownsMap Try.prog 9 RvS b n (mapD L')) : TreeAt w1 t b L' :=
  ⟨(hg.block t (blk_lt h.blk) (fun e => by
    injection e with e
    subst e
    obtain ⟨es,clock,h1,_⟩ := h.map
    rw [h.blk] at h1
    cases h1)).trans h.blk,by have := own_tight hm;rw [size_mapD] at this;exact this⟩
theorem grown_refl (w : World) (row : Option Nat) : w.grownBy w row := ⟨rfl,rfl,rfl,Nat.le_refl _,fun _ _ _ => rfl⟩
theorem grown_of_below {w w1 : World} (h : Below w.heap.size w w1) (row : Option Nat) : w.grownBy w1 row := ⟨h.os,h.tape,h.output,h.size,fun k hk _ => h.block k hk⟩
theorem grown_trans {a b c : World} {row : Option Nat} (h : a.grownBy b row) (k : b.grownBy c row) : a.grownBy c row :=
  ⟨k.os.trans h.os,k.tape.trans h.tape,k.output.trans h.output,Nat.le_trans h.size k.size,fun i hi hn => (k.block i (Nat.lt_of_lt_of_le hi h.size) hn).trans (h.block i hi hn)⟩
set_option maxHeartbeats 4000000 in
set_option maxRecDepth 100000 in
theorem ten_new (w : World) : Calls Try.prog 46 #[] w fun e w' => ∃ t b,e = .returned (.pointer (some ⟨t,0,none⟩)) ∧ TreeAt w' t b [] ∧ Below w.heap.size w w' ∧ w.heap.size ≤ t ∧ w.heap.size ≤ b := by
  have hmm := @run_makeMap Try.prog
  have HO := Aside0.mk (World.ownsMap_made w Try.prog 9 RvS)
  have HB := Aside0.mk (below_alloc (Below.refl w.heap.size w) (.map #[] 0))
  go_enter Try.func46,Try.ntmps46
  go_wp2
  go_ret
  refine ⟨_,w.heap.size,rfl,⟨by have := blk_new (w.alloc (.map #[] 0)) (.cells #[.map (some w.heap.size)] tT);simpa using this,?_⟩,below_alloc HB.out _,by simp,Nat.le_refl _⟩
  exact HO.out.alloc _
def orph (L : List Tn) (p : Nm) : Bool := !decide (p = emp) && (getT L p).isNone
theorem neS (x : Nm) : (ByteArray.toList x == ([] : List UInt8)) = decide (x = emp) := by
  have := eqS x emp
  rw [← this]
  congr 1
  rw [ByteArray.toList_eq]
  rfl
set_option maxHeartbeats 4000000 in
set_option maxRecDepth 100000 in
theorem ten_orphan {w : World} {n₀ : Nat} {v : Value} {L : List Tn} (h : TreeV w n₀ v L) (p : Nm) (hp : p.size ≤ maxLen) : Calls Try.prog 101 #[v,.string p] w fun e w' => e = .returned (.bool (orph L p)) ∧ w' = w := by
  have HH := Aside0.mk (ten_has h p hp)
  have HO := Aside0.mk (show orph L p = (!decide (p = emp) && (getT L p).isNone) from rfl)
  obtain ⟨q,hq⟩ : ∃ q,v = .pointer q := by rcases h.ptr with h | ⟨t,h⟩ <;> exact ⟨_,h⟩
  subst hq
  clear h
  by_cases he : p = emp
  · have q0 : (ByteArray.toList p == ([] : List UInt8)) = true := by rw [neS,decide_eq_true he]
    have HOE := Aside0.mk (show orph L p = false by rw [HO.out,decide_eq_true he];rfl)
    rw [HOE.out]
    clear he
    go_enter Try.func101,Try.ntmps101
    go_wp2_with (fail)
    go_ret
    exact ⟨rfl,rfl⟩
  · have q0 : (ByteArray.toList p == ([] : List UInt8)) = false := by rw [neS,decide_eq_false he]
    have HOE := Aside0.mk (show orph L p = !(getT L p).isSome by rw [HO.out,decide_eq_false he];cases getT L p <;> rfl)
    rw [HOE.out]
    generalize (getT L p).isSome = r at HH ⊢
    clear he
    go_enter Try.func101,Try.ntmps101
    go_wp2_with (fail)
    refine HH.out.mono ?_
    rintro e w' ⟨rfl,rfl⟩
    cases r
    · go_wp2_with (fail)
      go_ret
      exact ⟨rfl,rfl⟩
    · go_wp2_with (fail)
      go_ret
      exact ⟨rfl,rfl⟩
def addP (L : List Tn) (n p : Nm) : Int × List Tn :=
  if nameB n = false then (3,L) else if (getT L n).isSome = true then (4,L) else if orph L p = true then (18,L) else if 5 ≤ (abv L p).length then (17,L) else if 24 ≤ L.length then (6,L) else (0,putL n p L)
set_option maxHeartbeats 8000000 in
set_option maxRecDepth 100000 in
theorem ten_add {w : World} {t b : Nat} {L : List Tn} (h : TreeAt w t b L) (hO : Ok L) (n p : Nm) (hn : n.size ≤ maxLen) (hp : p.size ≤ maxLen) :
    Calls Try.prog 47 #[.pointer (some ⟨t,0,none⟩),.string n,.string p] w fun e w' => e = .returned (.int .i64 (addP L n p).1) ∧ TreeAt w' t b (addP L n p).2 ∧ w.grownBy w' (some b) := by
  have HA := Aside0.mk h
  have NM := Aside0.mk (fun w' => schema_Name.calls 41 n (nameB n) w' (name_f n 41 (by omega)))
  have HO := Aside0.mk hO
  have HP := Aside0.mk hp
  have HN := Aside0.mk hn
  have HD := Aside0.mk (show addP L n p = (if nameB n = false then (3,L) else if (getT L n).isSome = true then (4,L) else if orph L p = true then (18,L) else if 5 ≤ (abv L p).length then (17,L) else if 24 ≤ L.length then (6,L) else (0,putL n p L)) from rfl)
  clear h hO
  generalize addP L n p = R at HD ⊢
  go_enter Try.func47,Try.ntmps47
  go_wp2_with (fail)
  refine (NM.out w).mono ?_
  rintro e w1 ⟨rfl,hb1⟩
  have A1 := Aside0.mk (HA.out.below hb1.below)
  have G1 := Aside0.mk (grown_of_below hb1.below (some b))
  clear hb1 HA NM
  cases hnb : nameB n with
  | false =>
    rw [hnb,if_pos rfl] at HD
    go_wp2_with (fail)
    go_ret
    rw [HD.out]
    exact ⟨rfl,A1.out,G1.out⟩
  | true =>
    rw [hnb,if_neg (by simp)] at HD
    have NB := Aside0.mk hnb
    clear hnb
    go_wp2_with (fail)
    refine (ten_has A1.out.v n HN.out).mono ?_
    rintro e w2 ⟨rfl,rfl⟩
    cases hgn : (getT L n).isSome with
    | true =>
      rw [hgn,if_pos rfl] at HD
      go_wp2_with (fail)
      go_ret
      rw [HD.out]
      exact ⟨rfl,A1.out,G1.out⟩
    | false =>
      rw [hgn,if_neg (by simp)] at HD
      have NG := Aside0.mk hgn
      clear hgn
      go_wp2_with (fail)
      refine (ten_orphan A1.out.v p HP.out).mono ?_
      rintro e w3 ⟨rfl,rfl⟩
      cases hor : orph L p with
      | true =>
        rw [hor,if_pos rfl] at HD
        go_wp2_with (fail)
        go_ret
        rw [HD.out]
        exact ⟨rfl,A1.out,G1.out⟩
      | false =>
        rw [hor,if_neg (by simp)] at HD
        clear hor
        go_wp2_with (fail)
        refine (ten_depth A1.out.v HO.out.sh HO.out.psize p HP.out).mono ?_
        rintro e w4 ⟨rfl,hb4⟩
        have A4 := Aside0.mk (A1.out.below hb4)
        have G4 := Aside0.mk (grown_trans G1.out (grown_of_below hb4 (some b)))
        clear hb4 A1 G1
        by_cases hd : 5 ≤ (abv L p).length
        · rw [if_pos hd] at HD
          have q1 : decide (((abv L p).length : Int) ≥ 5) = true := decide_eq_true (by omega)
          have q2 : decide ((5 : Int) ≤ ((abv L p).length : Int)) = true := decide_eq_true (by omega)
          clear hd
          go_wp2_with (fail)
          go_ret
          rw [HD.out]
          exact ⟨rfl,A4.out,G4.out⟩
        · rw [if_neg hd] at HD
          have q1 : decide (((abv L p).length : Int) ≥ 5) = false := decide_eq_false (by omega)
          have q2 : decide ((5 : Int) ≤ ((abv L p).length : Int)) = false := decide_eq_false (by omega)
          have x0 : w4.cell? ⟨t,0,none⟩ = some (.map (some b)) := blk_cell A4.out.blk 0
          have HLN := Aside0.mk HO.out.len
          clear hd
          by_cases hl : 24 ≤ L.length
          · rw [if_pos hl] at HD
            have q3 : decide ((L.length : Int) ≥ 24) = true := decide_eq_true (by omega)
            have q4 : decide ((24 : Int) ≤ (L.length : Int)) = true := decide_eq_true (by omega)
            have LM := Aside0.mk (A4.out.map.len Try.underlying136 3)
            clear hl
            go_wp2_with (at_len;refine wpList_len_own w4 rfl _ tM rfl 9 9 Try.underlying136 RvS b L.length (mapD L) rfl A4.out.map ?_;rw [size_mapD])
            go_ret
            rw [HD.out]
            exact ⟨rfl,A4.out,G4.out⟩
          · rw [if_neg hl] at HD
            have q3 : decide ((L.length : Int) ≥ 24) = false := decide_eq_false (by omega)
            have q4 : decide ((24 : Int) ≤ (L.length : Int)) = false := decide_eq_false (by omega)
            clear hl
            go_wp2_with (first | (at_len;refine wpList_len_own w4 rfl _ tM rfl 9 9 Try.underlying136 RvS b L.length (mapD L) rfl A4.out.map ?_;rw [size_mapD]) | (at_mapUpdate;refine wpList_mapUpdate_own w4 rfl _ _ _ tM rfl 9 9 lawS Try.underlying136 RvS b L.length (mapD L) rfl A4.out.map (by have := HLN.out;unfold maxLen;omega) _ _ (lk n) rfl rfl (Go.WideMaps.keyOf_string_mk Try.underlying9 HN.out) (.lit (lk p)) [] (plainS p HP.out) ?_;intro w5 hown5 hg5))
            go_ret
            rw [HD.out]
            exact ⟨rfl,A4.out.turned hg5 (by rw [mapD_put];exact hown5),grown_trans G4.out hg5⟩
end Go.Proofs.Ythfaimomcbmniaa.Z
end
section
namespace Go.Proofs.Ythfaimomcbmniaa.Z
set_option linter.unusedVariables false
set_option linter.unusedSimpArgs false
open Go.RowKit Go.Shelf Go.Maps Go.Proofs.YthfaimomcbmniaaW.PrintWords Go.Proofs.YthfaimomcbmniaaW.PrintLast Go.Proofs.YthfaimomcbmniaaW.PrintMore Go.Proofs.Ythfaimomcbmniaa.Cmp
def lev (L : List Tn) (own : Int) (l : List Nm) (m : Int) : Int := l.foldl (fun m x => max m (((abv L x).length : Int) - own + 1)) m
def levL (L : List Tn) (n : Nm) : Int := lev L ((abv L n).length : Int) (undL L n) 0
theorem lev_snoc (L : List Tn) (own : Int) (l : List Nm) (x : Nm) (m : Int) : lev L own (l ++ [x]) m = max (lev L own l m) (((abv L x).length : Int) - own + 1) := by
  unfold lev
  rw [List.foldl_append]
  rfl
theorem lev_bound {L : List Tn} (hs : Shallow L) (own : Int) (h0 : 0 ≤ own) : ∀ (l : List Nm) (m : Int),0 ≤ m → m ≤ 6 → 0 ≤ lev L own l m ∧ lev L own l m ≤ 6
  | [],m,h1,h2 => ⟨h1,h2⟩
  | x :: r,m,h1,h2 => by
    have h3 := hs x
    have h4 : ((abv L x).length : Int) ≤ 5 := by unfold abv;omega
    exact lev_bound hs own h0 r (max m (((abv L x).length : Int) - own + 1)) (by omega) (by omega)
theorem und_lenL (L : List Tn) (n : Nm) : (undL L n).length ≤ L.length := by
  unfold undL
  have := List.length_filter_le (fun x => hasN (abv L x) n) (L.map Prod.fst)
  simpa using this
set_option maxHeartbeats 8000000 in
set_option maxRecDepth 100000 in
theorem ten_levels {w : World} {t b : Nat} {L : List Tn} (h : TreeAt w t b L) (hO : Ok L) (n : Nm) (hn : n.size ≤ maxLen) :
    Calls Try.prog 103 #[.pointer (some ⟨t,0,none⟩),.string n] w fun e w' => e = .returned (.int .i64 (levL L n)) ∧ Below w.heap.size w w' := by
  have HA := Aside0.mk h
  have HO := Aside0.mk hO
  have HN := Aside0.mk hn
  have HLV := Aside0.mk (show levL L n = lev L ((abv L n).length : Int) (undL L n) 0 from rfl)
  have HL5 := Aside0.mk (abv_len hO.sh n)
  clear h hO
  generalize levL L n = R at HLV ⊢
  go_enter Try.func103,Try.ntmps103
  go_wp2_with (fail)
  refine (ten_depth HA.out.v HO.out.sh HO.out.psize n HN.out).mono ?_
  rintro e w1 ⟨rfl,hb1⟩
  have A1 := Aside0.mk (HA.out.below hb1)
  have B1 := Aside0.mk (NextW.mk hb1 hb1.size)
  clear hb1
  obtain ⟨dn,hdn⟩ : ∃ dn,(abv L n).length = dn := ⟨_,rfl⟩
  rw [hdn] at HLV HL5 ⊢
  clear hdn
  go_wp2_with (fail)
  refine (ten_under A1.out HO.out.sh HO.out.psize (by have := HO.out.len;omega) n).mono ?_
  rintro e w2 ⟨v,rfl,hrow,hb2⟩
  obtain ⟨U,hU⟩ : ∃ U,undL L n = U := ⟨_,rfl⟩
  have UL := Aside0.mk (show U.length ≤ 24 by rw [← hU];have := und_lenL L n;have := HO.out.len;omega)
  have UM := Aside0.mk (show ∀ x ∈ U,x.size ≤ maxLen by
    rw [← hU]
    intro x hx
    unfold undL at hx
    obtain ⟨q,hq,rfl⟩ := List.mem_map.1 (List.mem_filter.1 hx).1
    have := (name_size (HO.out.nm q hq)).2
    unfold maxLen
    omega)
  rw [hU] at hrow HLV
  clear hU
  obtain ⟨Au,cu,rfl,_,hC⟩ := hrow.reads
  have A2 := Aside0.mk (A1.out.below hb2)
  have B2 := Aside0.mk (B1.out.next hb2)
  have HC := Aside0.mk hC
  clear hrow hb2 hC A1 B1
  go_wp2_with (fail)
  go_loopw [5,16] (fun mv iv wr => ∃ i : Nat,iv = .int .i64 (i : Int) ∧ i ≤ U.length ∧ mv = .int .i64 (lev L (dn : Int) (U.take i) 0) ∧ Aside0 (NextW w2.heap.size w2 wr)) (fun mv iv _ => U.length - (intOf iv).toNat)
  case atStart => exact ⟨0,rfl,Nat.zero_le _,rfl,⟨NextW.refl w2⟩⟩
  case round =>
    rename World => wr
    obtain ⟨i,rfl,hi,rfl,NW⟩ := hrel
    by_cases hlt : i < U.length
    · have k0 : decide ((i : Int) < (U.length : Int)) = true := decide_eq_true (by omega)
      have h24 := UL.out
      obtain ⟨ad,cs,rfl,_,hcs,hcell⟩ := Kd.C_get (Kd.C_below HC.out NW.out.below) emp (i : Int) (by omega) (by omega)
      have hx : U[i]? = some U[i] := List.getElem?_eq_getElem hlt
      have hcs2 : cs = [.string U[i]] := by
        have h1 : cs = [.string (U.getD (i : Int).toNat emp)] := hcs
        rw [Int.toNat_natCast,List.getD_eq_getElem?_getD,hx] at h1
        exact h1
      have c0 := hcell 0 (.string U[i]) (by rw [hcs2];rfl)
      have c1 : wr.cell? (ad.add i) = some (.string U[i]) := by
        rw [← c0]
        congr 2
        show i = (i : Int).toNat * 1 + 0
        omega
      have XS := Aside0.mk (UM.out _ (List.getElem_mem hlt))
      have TK := Aside0.mk (show U.take (i + 1) = U.take i ++ [U[i]] by rw [List.take_add_one,hx];rfl)
      obtain ⟨x,hxe⟩ : ∃ x,U[i] = x := ⟨_,rfl⟩
      rw [hxe] at c1 XS TK
      have p0 : (0 : Int) ≤ (i : Int) := by omega
      have p1 : (i : Int) < (U.length : Int) := by omega
      clear hcell hcs hcs2 c0 hx hxe
      have A3 := Aside0.mk (A2.out.below NW.out.below)
      obtain ⟨m0,hm0⟩ : ∃ m0,lev L (dn : Int) (U.take i) 0 = m0 := ⟨_,rfl⟩
      have HM := Aside0.mk hm0
      have hmb : 0 ≤ m0 ∧ m0 ≤ 6 := by rw [← hm0];exact lev_bound HO.out.sh _ (by omega) _ _ (by omega) (by omega)
      rw [hm0]
      clear hm0
      go_wp2_with (fail)
      refine (ten_depth A3.out.v HO.out.sh HO.out.psize x XS.out).mono ?_
      rintro e w3 ⟨rfl,hb3⟩
      have N3 := Aside0.mk (NW.out.next hb3)
      have hx5 := abv_len HO.out.sh x
      have hd5 := HL5.out
      clear hb3 A3
      obtain ⟨dx,hdx⟩ : ∃ dx,(abv L x).length = dx := ⟨_,rfl⟩
      have HDX := Aside0.mk hdx
      rw [hdx] at hx5 ⊢
      clear hdx
      have w0 : IntKind.i64.wrap ((dx : Int) - (dn : Int)) = (dx : Int) - (dn : Int) := by rw [IntKind.wrap_i64];omega
      have w1' : IntKind.i64.wrap ((dx : Int) - (dn : Int) + 1) = (dx : Int) - (dn : Int) + 1 := by rw [IntKind.wrap_i64];omega
      go_wp2_with (fail)
      exact ⟨⟨i + 1,by rw [show (((i + 1 : Nat)) : Int) = (i : Int) + 1 from by omega],hlt,by rw [TK.out,lev_snoc,HM.out,HDX.out],N3⟩,by simp [intOf];omega⟩
    · have k0 : decide ((i : Int) < (U.length : Int)) = false := decide_eq_false (by omega)
      obtain rfl : i = U.length := by omega
      rw [List.take_length] at *
      go_wp2_with (fail)
      go_ret
      exact ⟨by first | rfl | (rw [HLV.out];rfl),B2.out.below.trans (NW.out.below.mono B2.out.le)⟩
end Go.Proofs.Ythfaimomcbmniaa.Z
end
section
namespace Go.Proofs.Ythfaimomcbmniaa.Z
set_option linter.unusedVariables false
set_option linter.unusedSimpArgs false
open Go.RowKit Go.Shelf Go.Maps Go.Proofs.YthfaimomcbmniaaW.PrintWords Go.Proofs.YthfaimomcbmniaaW.PrintLast Go.Proofs.YthfaimomcbmniaaW.PrintMore Go.Proofs.Ythfaimomcbmniaa.Cmp
def moveP (L : List Tn) (n p : Nm) : Int × List Tn :=
  if (getT L n).isSome = false then (5,L) else if orph L p = true then (18,L) else if hasN (abv L p) n = true then (13,L) else if (5 : Int) < ((abv L p).length : Int) + levL L n then (17,L) else (0,putL n p L)
def dropP (L : List Tn) (n : Nm) : Int × List Tn :=
  if (getT L n).isSome = false then (5,L) else if 1 < (undL L n).length then (14,L) else (0,delL n L)
theorem levL_bound {L : List Tn} (hs : Shallow L) (n : Nm) : 0 ≤ levL L n ∧ levL L n ≤ 6 := lev_bound hs _ (by omega) _ _ (by omega) (by omega)
set_option maxHeartbeats 8000000 in
set_option maxRecDepth 100000 in
theorem ten_move {w : World} {t b : Nat} {L : List Tn} (h : TreeAt w t b L) (hO : Ok L) (n p : Nm) (hn : n.size ≤ maxLen) (hp : p.size ≤ maxLen) :
    Calls Try.prog 48 #[.pointer (some ⟨t,0,none⟩),.string n,.string p] w fun e w' => e = .returned (.int .i64 (moveP L n p).1) ∧ TreeAt w' t b (moveP L n p).2 ∧ w.grownBy w' (some b) := by
  have HA := Aside0.mk h
  have HO := Aside0.mk hO
  have HP := Aside0.mk hp
  have HN := Aside0.mk hn
  have HD := Aside0.mk (show moveP L n p = (if (getT L n).isSome = false then (5,L) else if orph L p = true then (18,L) else if hasN (abv L p) n = true then (13,L) else if (5 : Int) < ((abv L p).length : Int) + levL L n then (17,L) else (0,putL n p L)) from rfl)
  clear h hO
  generalize moveP L n p = R at HD ⊢
  go_enter Try.func48,Try.ntmps48
  go_wp2_with (fail)
  refine (ten_has HA.out.v n HN.out).mono ?_
  rintro e w1 ⟨rfl,rfl⟩
  cases hgn : (getT L n).isSome with
  | false =>
    rw [hgn,if_pos rfl] at HD
    go_wp2_with (fail)
    go_ret
    rw [HD.out]
    exact ⟨rfl,HA.out,grown_refl _ _⟩
  | true =>
    rw [hgn,if_neg (by simp)] at HD
    clear hgn
    go_wp2_with (fail)
    refine (ten_orphan HA.out.v p HP.out).mono ?_
    rintro e w2 ⟨rfl,rfl⟩
    cases hor : orph L p with
    | true =>
      rw [hor,if_pos rfl] at HD
      go_wp2_with (fail)
      go_ret
      rw [HD.out]
      exact ⟨rfl,HA.out,grown_refl _ _⟩
    | false =>
      rw [hor,if_neg (by simp)] at HD
      clear hor
      go_wp2_with (fail)
      rename World => w0
      refine (ten_below HA.out.v HO.out.sh HO.out.psize p n HP.out).mono ?_
      rintro e w3 ⟨rfl,hb3⟩
      have A3 := Aside0.mk (HA.out.below hb3)
      have G3 := Aside0.mk (grown_of_below hb3 (some b))
      clear hb3 HA
      cases hbl : hasN (abv L p) n with
      | true =>
        rw [hbl,if_pos rfl] at HD
        go_wp2_with (fail)
        go_ret
        rw [HD.out]
        exact ⟨rfl,A3.out,G3.out⟩
      | false =>
        rw [hbl,if_neg (by simp)] at HD
        clear hbl
        go_wp2_with (fail)
        refine (ten_depth A3.out.v HO.out.sh HO.out.psize p HP.out).mono ?_
        rintro e w4 ⟨rfl,hb4⟩
        have A4 := Aside0.mk (A3.out.below hb4)
        have G4 := Aside0.mk (grown_trans G3.out (grown_of_below hb4 (some b)))
        clear hb4 A3 G3
        go_wp2_with (fail)
        refine (ten_levels A4.out HO.out n HN.out).mono ?_
        rintro e w5 ⟨rfl,hb5⟩
        have A5 := Aside0.mk (A4.out.below hb5)
        have G5 := Aside0.mk (grown_trans G4.out (grown_of_below hb5 (some b)))
        clear hb5 A4 G4
        have hl5 := levL_bound HO.out.sh n
        have hd5 := abv_len HO.out.sh p
        have HLN := Aside0.mk HO.out.len
        obtain ⟨dp,hdp⟩ : ∃ dp,(abv L p).length = dp := ⟨_,rfl⟩
        obtain ⟨lv,hlv⟩ : ∃ lv,levL L n = lv := ⟨_,rfl⟩
        rw [hdp,hlv] at HD
        rw [hdp] at hd5 ⊢
        rw [hlv] at hl5 ⊢
        clear hdp hlv
        have w0' : IntKind.i64.wrap ((dp : Int) + lv) = (dp : Int) + lv := by rw [IntKind.wrap_i64];omega
        have x0 : w5.cell? ⟨t,0,none⟩ = some (.map (some b)) := blk_cell A5.out.blk 0
        by_cases hd : (5 : Int) < (dp : Int) + lv
        · rw [if_pos hd] at HD
          have q0 : decide ((5 : Int) < (dp : Int) + lv) = true := decide_eq_true hd
          clear hd
          go_wp2_with (fail)
          go_ret
          rw [HD.out]
          exact ⟨rfl,A5.out,G5.out⟩
        · rw [if_neg hd] at HD
          have q0 : decide ((5 : Int) < (dp : Int) + lv) = false := decide_eq_false hd
          clear hd
          go_wp2_with (at_mapUpdate;refine wpList_mapUpdate_own w5 rfl _ _ _ tM rfl 9 9 lawS Try.underlying136 RvS b L.length (mapD L) rfl A5.out.map (by have := HLN.out;unfold maxLen;omega) _ _ (lk n) rfl rfl (Go.WideMaps.keyOf_string_mk Try.underlying9 HN.out) (.lit (lk p)) [] (plainS p HP.out) ?_;intro w6 hown6 hg6)
          go_ret
          rw [HD.out]
          exact ⟨rfl,A5.out.turned hg6 (by rw [mapD_put];exact hown6),grown_trans G5.out hg6⟩
theorem turned_grown {w w1 : World} {b : Nat} (h : w.mapTurned w1 b) : w.grownBy w1 (some b) := h.grown
set_option maxHeartbeats 8000000 in
set_option maxRecDepth 100000 in
theorem ten_drop {w : World} {t b : Nat} {L : List Tn} (h : TreeAt w t b L) (hO : Ok L) (n : Nm) (hn : n.size ≤ maxLen) :
    Calls Try.prog 49 #[.pointer (some ⟨t,0,none⟩),.string n] w fun e w' => e = .returned (.int .i64 (dropP L n).1) ∧ TreeAt w' t b (dropP L n).2 ∧ w.grownBy w' (some b) := by
  have HA := Aside0.mk h
  have HO := Aside0.mk hO
  have HN := Aside0.mk hn
  have HD := Aside0.mk (show dropP L n = (if (getT L n).isSome = false then (5,L) else if 1 < (undL L n).length then (14,L) else (0,delL n L)) from rfl)
  clear h hO
  generalize dropP L n = R at HD ⊢
  go_enter Try.func49,Try.ntmps49
  go_wp2_with (fail)
  refine (ten_has HA.out.v n HN.out).mono ?_
  rintro e w1 ⟨rfl,rfl⟩
  cases hgn : (getT L n).isSome with
  | false =>
    rw [hgn,if_pos rfl] at HD
    go_wp2_with (fail)
    go_ret
    rw [HD.out]
    exact ⟨rfl,HA.out,grown_refl _ _⟩
  | true =>
    rw [hgn,if_neg (by simp)] at HD
    clear hgn
    go_wp2_with (fail)
    refine (ten_under HA.out HO.out.sh HO.out.psize (by have := HO.out.len;omega) n).mono ?_
    rintro e w3 ⟨v,rfl,hrow,hb3⟩
    obtain ⟨Au,cu,rfl,_,_⟩ := hrow.reads
    have A3 := Aside0.mk (HA.out.below hb3)
    have G3 := Aside0.mk (grown_of_below hb3 (some b))
    clear hb3 HA hrow
    have x0 : w3.cell? ⟨t,0,none⟩ = some (.map (some b)) := blk_cell A3.out.blk 0
    obtain ⟨du,hdu⟩ : ∃ du,(undL L n).length = du := ⟨_,rfl⟩
    rw [hdu] at HD ⊢
    clear hdu
    by_cases hd : 1 < du
    · rw [if_pos hd] at HD
      have q0 : decide ((1 : Int) < (du : Int)) = true := decide_eq_true (by omega)
      clear hd
      go_wp2_with (fail)
      go_ret
      rw [HD.out]
      exact ⟨rfl,A3.out,G3.out⟩
    · rw [if_neg hd] at HD
      have q0 : decide ((1 : Int) < (du : Int)) = false := decide_eq_false (by omega)
      clear hd
      go_wp2_with (at_delete;refine wpList_delete_own w3 rfl _ _ tM 9 rfl 9 lawS Try.underlying136 RvS b L.length (mapD L) rfl A3.out.map _ (lk n) rfl (Go.WideMaps.keyOf_string_mk Try.underlying9 HN.out) ?_;intro w6 hown6 hg6)
      go_ret
      rw [HD.out]
      exact ⟨rfl,A3.out.turned (turned_grown hg6) (by rw [mapD_del];exact hown6),grown_trans G3.out (turned_grown hg6)⟩
end Go.Proofs.Ythfaimomcbmniaa.Z
end
section
namespace Go.Proofs.Ythfaimomcbmniaa.Z
set_option linter.unusedVariables false
set_option linter.unusedSimpArgs false
open Go.RowKit Go.Shelf Go.Maps Go.Proofs.YthfaimomcbmniaaW.PrintWords Go.Proofs.YthfaimomcbmniaaW.PrintLast Go.Proofs.YthfaimomcbmniaaW.PrintMore Go.Proofs.Ythfaimomcbmniaa.Cmp
end Go.Proofs.Ythfaimomcbmniaa.Z
end
section
namespace Go.Proofs.Ythfaimomcbmniaa.Z
open Go.RowKit Go.Proofs.YthfaimomcbmniaaW.PrintWords Go.Proofs.YthfaimomcbmniaaW.PrintLast Go.Proofs.YthfaimomcbmniaaW.PrintMore
attribute [local go_sem] max2_int min2_int max_two min_two max_three min_three max_four min_four
set_option linter.unusedVariables false
set_option linter.unusedSimpArgs false
def verdererref09_Texts.l0 : Nat → List ByteArray → List ByteArray → Int → Option (Bool)
  | 0,_,_,_ => none
  | k + 1,x0,x1,x5 => if x5 < (x0.length : Int) then (if 0 ≤ x5 then (if x5 < (x1.length : Int) then (if (rdOf ByteArray.empty x0 x5).toList = (rdOf ByteArray.empty x1 x5).toList then (verdererref09_Texts.l0 k x0 x1 (wrap64 (x5 + 1))) else (some false)) else (none)) else (none)) else (some true)
def verdererref09_Texts.f (k : Nat) (l0 : List ByteArray) (l1 : List ByteArray) : Option (Bool) := if (l0.length : Int) = (l1.length : Int) then (verdererref09_Texts.l0 k l0 l1 0) else (some false)
theorem verdererref09_Texts.mono_l : ∀ k,(∀ y0 y1 y2,LeO (verdererref09_Texts.l0 k y0 y1 y2) (verdererref09_Texts.l0 (k + 1) y0 y1 y2))
  | 0 => fun _ _ _ r h => by simp [verdererref09_Texts.l0] at h
  | k + 1 => by
    have ih0 := verdererref09_Texts.mono_l k
    · intro y0 y1 y2
      unfold verdererref09_Texts.l0
      repeat' first
      | (with_reducible exact ih0 _ _ _)
      | (with_reducible exact LeO.refl _)
      | (with_reducible exact LeO.none _)
      | (with_reducible refine LeO.ite ?_ ?_)
      | (with_reducible refine LeO.bind ?_ (fun _ => ?_))
      | exact ih0 _ _ _
      | exact LeO.none _
      | refine LeO.ite ?_ ?_
      | refine LeO.bind ?_ (fun _ => ?_)
theorem verdererref09_Texts.mono : ∀ a0 a1 k,LeO (verdererref09_Texts.f k a0 a1) (verdererref09_Texts.f (k + 1) a0 a1) := by
  intro a0 a1 k
  have ih0 := verdererref09_Texts.mono_l k
  unfold verdererref09_Texts.f
  repeat' first
      | (with_reducible exact ih0 _ _ _)
      | (with_reducible exact LeO.refl _)
      | (with_reducible exact LeO.none _)
      | (with_reducible refine LeO.ite ?_ ?_)
      | (with_reducible refine LeO.bind ?_ (fun _ => ?_))
      | exact ih0 _ _ _
      | exact LeO.none _
      | refine LeO.ite ?_ ?_
      | refine LeO.bind ?_ (fun _ => ?_)
set_option maxHeartbeats 8000000 in
set_option maxRecDepth 100000 in
theorem verdererref09_Texts.calls (k : Nat) (A0 : Option Addr) (c0 : Nat) (l0 : List ByteArray) (A1 : Option Addr) (c1 : Nat) (l1 : List ByteArray) (r : Bool) (w : World) (hr0 : Kd.C Kd.string w A0 l0.length l0) (hc0 : l0.length ≤ c0) (hr1 : Kd.C Kd.string w A1 l1.length l1) (hc1 : l1.length ≤ c1) (h : verdererref09_Texts.f k l0 l1 = some r) :
    Calls Try.prog 37 #[.slice A0 l0.length c0,.slice A1 l1.length c1] w fun e w' => e = .returned (.bool r) ∧ Drawn0 w w' := by
  have HR0 := Aside0.mk hr0
  have HC0 := Aside0.mk hc0
  clear hr0 hc0
  have HR1 := Aside0.mk hr1
  have HC1 := Aside0.mk hc1
  clear hr1 hc1
  have H : (if (l0.length : Int) = (l1.length : Int) then (verdererref09_Texts.l0 k l0 l1 0) else (some false)) = some r := h
  clear h
  by_cases c3 : (l0.length : Int) = (l1.length : Int)
  · rw [if_pos c3] at H
    have c3b0 : ((l0.length : Int) == (l1.length : Int)) = true := beq_iff_eq.mpr c3
    have c3b1 : ((l0.length : Int) != (l1.length : Int)) = false := bne_eq_false_iff_eq.mpr c3
    have c3b2 : (l0.length == l1.length) = true := by first | simpa using c3 | (simp at c3 ⊢;omega)
    clear c3
    have H' := Aside0.mk H
    clear H
    go_enter Try.func37,Try.ntmps37
    go_wp2
    repeat (go_quiet (fail);try go_wp2)
    go_loopg [5] k (fun kq v5 w' => ∃ (x5_1 : Int),v5 = .int .i64 x5_1 ∧ Aside0 (verdererref09_Texts.l0 kq l0 l1 x5_1 = some r) ∧ Aside0 (kq ≤ k) ∧ Drawn0 w w')
    case atStart => exact ⟨(0),(by first | rfl | (simp;done) | (simp [*];done)),H',⟨Nat.le_refl _⟩,by repeat (first | exact Drawn0.refl _ | apply Drawn0.step)⟩
    case round =>
      clear H'
      try clear c1
      try clear p2
      try clear c3
      try clear c3b0
      try clear c3b1
      try clear c3b2
      obtain ⟨x5_1,rfl,HA,HK1,⟨m1,rfl⟩⟩ := hrel
      cases gk with
      | zero => exact absurd HA.out (by simp [verdererref09_Texts.l0])
      | succ k1 =>
        have H := HA.out
        clear HA
        simp only [verdererref09_Texts.l0] at H
        by_cases c4 : x5_1 < (l0.length : Int)
        · rw [if_pos c4] at H
          have c4b0 : decide (x5_1 < (l0.length : Int)) = true := decide_eq_true c4
          clear c4
          by_cases c5 : 0 ≤ x5_1
          · rw [if_pos c5] at H
            have c5b0 : decide (0 ≤ x5_1) = true := decide_eq_true c5
            clear c5
            by_cases c6 : x5_1 < (l1.length : Int)
            · rw [if_pos c6] at H
              have c6b0 : decide (x5_1 < (l1.length : Int)) = true := decide_eq_true c6
              clear c6
              by_cases c7 : (rdOf ByteArray.empty l0 x5_1).toList = (rdOf ByteArray.empty l1 x5_1).toList
              · rw [if_pos c7] at H
                have c7b0 : ((rdOf ByteArray.empty l0 x5_1).toList == (rdOf ByteArray.empty l1 x5_1).toList) = true := beq_iff_eq.mpr c7
                have c7b1 : ((rdOf ByteArray.empty l0 x5_1).toList != (rdOf ByteArray.empty l1 x5_1).toList) = false := bne_eq_false_iff_eq.mpr c7
                clear c7
                have H' := Aside0.mk H
                clear H
                have p249 : 0 ≤ (x5_1 : Int) := of_decide_eq_true (by first | (with_reducible assumption) | assumption)
                have q249 : x5_1 < (l0.length : Int) := of_decide_eq_true (by first | (with_reducible assumption) | assumption)
                obtain ⟨ad249,e249,hx249_0⟩ := Kd.at_string HR0.out x5_1 p249 q249
                cases e249
                replace p249 := eq_true p249
                replace q249 := eq_true q249
                have p250 : 0 ≤ (x5_1 : Int) := of_decide_eq_true (by first | (with_reducible assumption) | assumption)
                have q250 : x5_1 < (l1.length : Int) := of_decide_eq_true (by first | (with_reducible assumption) | assumption)
                obtain ⟨ad250,e250,hx250_0⟩ := Kd.at_string HR1.out x5_1 p250 q250
                cases e250
                replace p250 := eq_true p250
                replace q250 := eq_true q250
                go_wp2
                repeat (go_quiet (fail);try go_wp2)
                go_roundg k1
                case measure => have := HK1.out;omega
                case rel => exact ⟨(wrap64 (x5_1 + 1)),(by first | rfl | (simp;done) | (simp [*];done)),H',⟨by have := HK1.out;omega⟩,by repeat (first | exact Drawn0.refl _ | apply Drawn0.step)⟩
              · rw [if_neg c7] at H
                have c7b0 : ((rdOf ByteArray.empty l0 x5_1).toList == (rdOf ByteArray.empty l1 x5_1).toList) = false := beq_eq_false_iff_ne.mpr c7
                have c7b1 : ((rdOf ByteArray.empty l0 x5_1).toList != (rdOf ByteArray.empty l1 x5_1).toList) = true := bne_iff_ne.mpr c7
                obtain rfl := Option.some.inj H
                have p249 : 0 ≤ (x5_1 : Int) := of_decide_eq_true (by first | (with_reducible assumption) | assumption)
                have q249 : x5_1 < (l0.length : Int) := of_decide_eq_true (by first | (with_reducible assumption) | assumption)
                obtain ⟨ad249,e249,hx249_0⟩ := Kd.at_string HR0.out x5_1 p249 q249
                cases e249
                replace p249 := eq_true p249
                replace q249 := eq_true q249
                have p250 : 0 ≤ (x5_1 : Int) := of_decide_eq_true (by first | (with_reducible assumption) | assumption)
                have q250 : x5_1 < (l1.length : Int) := of_decide_eq_true (by first | (with_reducible assumption) | assumption)
                obtain ⟨ad250,e250,hx250_0⟩ := Kd.at_string HR1.out x5_1 p250 q250
                cases e250
                replace p250 := eq_true p250
                replace q250 := eq_true q250
                go_wp2
                repeat (go_quiet (fail);try go_wp2)
                go_ret
                exact ⟨by first | rfl | (simp;done) | (simp [*];done),by repeat (first | exact Drawn0.refl _ | apply Drawn0.step)⟩
            · rw [if_neg c6] at H
              exact absurd H (by simp)
          · rw [if_neg c5] at H
            exact absurd H (by simp)
        · rw [if_neg c4] at H
          have c4b0 : decide (x5_1 < (l0.length : Int)) = false := decide_eq_false c4
          clear c4
          obtain rfl := Option.some.inj H
          go_wp2
          repeat (go_quiet (fail);try go_wp2)
          go_ret
          exact ⟨by first | rfl | (simp;done) | (simp [*];done),by repeat (first | exact Drawn0.refl _ | apply Drawn0.step)⟩
  · rw [if_neg c3] at H
    have c3b0 : ((l0.length : Int) == (l1.length : Int)) = false := beq_eq_false_iff_ne.mpr c3
    have c3b1 : ((l0.length : Int) != (l1.length : Int)) = true := bne_iff_ne.mpr c3
    have c3b2 : (l0.length == l1.length) = false := by first | simpa using c3 | (simp at c3 ⊢;omega)
    obtain rfl := Option.some.inj H
    go_enter Try.func37,Try.ntmps37
    go_wp2
    repeat (go_quiet (fail);try go_wp2)
    go_ret
    exact ⟨by first | rfl | (simp;done) | (simp [*];done),by repeat (first | exact Drawn0.refl _ | apply Drawn0.step)⟩
end Go.Proofs.Ythfaimomcbmniaa.Z
end
section
namespace Go.Proofs.Ythfaimomcbmniaa.Z
set_option linter.unusedVariables false
set_option linter.unusedSimpArgs false
open Go.RowKit Go.Shelf Go.Maps Go.Proofs.YthfaimomcbmniaaW.PrintWords Go.Proofs.YthfaimomcbmniaaW.PrintLast Go.Proofs.YthfaimomcbmniaaW.PrintMore Go.Proofs.Ythfaimomcbmniaa.Cmp
theorem orph_false {L : List Tn} {p : Nm} (h : orph L p = false) : p = emp ∨ getT L p ≠ none := by
  unfold orph at h
  by_cases e : p = emp
  · exact .inl e
  · rw [decide_eq_false e] at h
    refine .inr (fun h2 => ?_)
    rw [h2] at h
    cases h
theorem Ok.addP {L : List Tn} (h : Ok L) (n p : Nm) : Ok (Z.addP L n p).2 := by
  unfold Z.addP
  split
  · exact h
  rename_i h1
  split
  · exact h
  rename_i h2
  split
  · exact h
  rename_i h3
  split
  · exact h
  rename_i h4
  split
  · exact h
  rename_i h5
  refine h.add (by cases hn : nameB n <;> simp_all) ?_ (orph_false (by simpa using h3)) (by omega) (by omega)
  cases hg : getT L n with
  | none => rfl
  | some q => rw [hg] at h2;exact absurd rfl h2
theorem texts_l0 (l : List Nm) (hl : l.length ≤ 1000000) : ∀ d i k,l.length - i = d → i ≤ l.length → d + 1 < k → verdererref09_Texts.l0 k l l (i : Int) = some true := by
  intro d
  induction d with
  | zero =>
    intro i k hd hi hk
    obtain ⟨k,rfl⟩ : ∃ m,k = m + 1 := ⟨k - 1,by omega⟩
    simp only [verdererref09_Texts.l0]
    rw [if_neg (by omega)]
  | succ d ih =>
    intro i k hd hi hk
    obtain ⟨k,rfl⟩ : ∃ m,k = m + 1 := ⟨k - 1,by omega⟩
    simp only [verdererref09_Texts.l0]
    rw [if_pos (by omega),if_pos (by omega),if_pos (by omega),if_pos trivial,show wrap64 ((i : Int) + 1) = ((i + 1 : Nat) : Int) by unfold wrap64;omega]
    exact ih (i + 1) k (by omega) (by omega) (by omega)
theorem texts_self (l : List Nm) (hl : l.length ≤ 1000000) : verdererref09_Texts.f (l.length + 2) l l = some true := by
  unfold verdererref09_Texts.f
  rw [if_pos rfl]
  exact texts_l0 l hl l.length 0 _ (by omega) (Nat.zero_le _) (by omega)
theorem texts_call {A0 A1 : Option Addr} {c0 c1 : Nat} {l : List Nm} {w : World} (hl : l.length ≤ 1000000) (h0 : Kd.C Kd.string w A0 l.length l) (k0 : l.length ≤ c0) (h1 : Kd.C Kd.string w A1 l.length l) (k1 : l.length ≤ c1) :
    Calls Try.prog 37 #[.slice A0 l.length c0,.slice A1 l.length c1] w fun e w' => e = .returned (.bool true) ∧ Below w.heap.size w w' := by
  refine (verdererref09_Texts.calls (l.length + 2) A0 c0 l A1 c1 l true w h0 k0 h1 k1 (texts_self l hl)).mono ?_
  rintro e w' ⟨rfl,h⟩
  exact ⟨rfl,h.below⟩
theorem two_row {w : World} {g : Nat} {a b : Nm} (h : w.heap[g]? = some (.cells #[.string a,.string b] 9 (0,0))) : Kd.C Kd.string w (some ⟨g,0,none⟩) 2 [a,b] :=
  ⟨rfl,by omega,fun _ => ⟨_,rfl,fun j p hj => by
    match j,hj with
    | 0,hj =>
      simp only [List.getElem?_cons_zero,Option.some.injEq] at hj
      subst hj
      exact ⟨[.string a],rfl,rfl,fun i u hu => by
        cases i with
        | succ i => simp at hu
        | zero =>
          rw [Addr.add_lit,show 0 + (0 * Kd.string.sz + 0) = 0 from rfl,blk_cell h 0]
          exact hu⟩
    | 1,hj =>
      simp only [List.getElem?_cons_succ,List.getElem?_cons_zero,Option.some.injEq] at hj
      subst hj
      exact ⟨[.string b],rfl,rfl,fun i u hu => by
        cases i with
        | succ i => simp at hu
        | zero =>
          rw [Addr.add_lit,show 0 + (1 * Kd.string.sz + 0) = 1 from rfl,blk_cell h 1]
          exact hu⟩⟩⟩
def sa : Nm := ⟨#[97]⟩
def sb : Nm := ⟨#[98]⟩
theorem kn1 : addP [] sa emp = (0,[(sa,emp)]) := by kernel_rfl
theorem kn2 : addP [(sa,emp)] sb sa = (0,[(sa,emp),(sb,sa)]) := by kernel_rfl
theorem kn3 : moveP [(sa,emp),(sb,sa)] sa sb = (13,[(sa,emp),(sb,sa)]) := by kernel_rfl
theorem kn4 : abv [(sa,emp),(sb,sa)] sb = [sb,sa] := by kernel_rfl
theorem kn5 : undL [(sa,emp),(sb,sa)] sa = [sa,sb] := by kernel_rfl
theorem ok1 : Ok [(sa,emp)] := by have := Ok.nil.addP sa emp;rw [kn1] at this;exact this
theorem ok2 : Ok [(sa,emp),(sb,sa)] := by have := ok1.addP sb sa;rw [kn2] at this;exact this
set_option maxHeartbeats 8000000 in
set_option maxRecDepth 100000 in
theorem known09 (w : World) : Calls Try.prog 55 #[] w fun e w' => e = .returned (.bool true) ∧ Below w.heap.size w w' := by
  go_enter Try.func55,Try.ntmps55
  go_wp2_with (fail)
  refine (ten_new w).mono ?_
  rintro e w1 ⟨t,b,rfl,hA,hB,ht,hb⟩
  have A1 := Aside0.mk hA
  have B1 := Aside0.mk hB
  have HB := Aside0.mk hb
  clear hA hB
  go_wp2_with (fail)
  refine (ten_add A1.out Ok.nil sa emp (by decide) (by decide)).mono ?_
  rintro e w2 ⟨rfl,hA,hg⟩
  rw [kn1] at hA ⊢
  have A2 := Aside0.mk hA
  have B2 := Aside0.mk (B1.out.grown hg B1.out.size (fun k e => by cases e;exact HB.out))
  clear hA hg A1 B1
  go_wp2_with (fail)
  refine (ten_add A2.out ok1 sb sa (by decide) (by decide)).mono ?_
  rintro e w3 ⟨rfl,hA,hg⟩
  rw [kn2] at hA ⊢
  have A3 := Aside0.mk hA
  have B3 := Aside0.mk (B2.out.grown hg B2.out.size (fun k e => by cases e;exact HB.out))
  clear hA hg A2 B2
  go_wp2_with (fail)
  refine (ten_move A3.out ok2 sa sb (by decide) (by decide)).mono ?_
  rintro e w4 ⟨rfl,hA,hg⟩
  rw [kn3] at hA ⊢
  have A4 := Aside0.mk hA
  have B4 := Aside0.mk (B3.out.grown hg B3.out.size (fun k e => by cases e;exact HB.out))
  clear hA hg A3 B3
  go_wp2_with (fail)
  refine (ten_depth A4.out.v ok2.sh ok2.psize sb (by decide)).mono ?_
  rintro e w5 ⟨rfl,hb5⟩
  rw [kn4]
  have A5 := Aside0.mk (A4.out.below hb5)
  have B5 := Aside0.mk (B4.out.trans (hb5.mono B4.out.size))
  clear hb5 A4 B4
  go_wp2_with (fail)
  refine (ten_under A5.out ok2.sh ok2.psize (by decide) sa).mono ?_
  rintro e w6 ⟨v6,rfl,hrow,hb6⟩
  rw [kn5] at hrow
  obtain ⟨A0,c0,rfl,hc0,hC0⟩ := hrow.reads
  have A6 := Aside0.mk (A5.out.below hb6)
  have B6 := Aside0.mk (B5.out.trans (hb6.mono B5.out.size))
  have R6 := Aside0.mk hC0
  clear hb6 A5 B5 hrow hC0
  go_wp2_with (fail)
  have BA := below_alloc (Below.refl w6.heap.size w6) (.cells #[.string sa,.string sb] 9)
  refine (texts_call (l := [sa,sb]) (by decide) (Kd.C_below R6.out BA) hc0 (two_row (blk_new w6 (.cells #[.string sa,.string sb] 9))) (Nat.le_refl 2)).mono ?_
  rintro e w7 ⟨rfl,hb7⟩
  have A7 := Aside0.mk ((A6.out.below BA).below hb7)
  have B7 := Aside0.mk (B6.out.trans ((BA.trans (hb7.mono BA.size)).mono B6.out.size))
  clear hb7 BA A6 B6 R6 hc0
  go_wp2_with (fail)
  refine (ten_above A7.out.v ok2.sh ok2.psize sb (by decide)).mono ?_
  rintro e w8 ⟨v8,rfl,hrow,hb8⟩
  rw [kn4] at hrow
  obtain ⟨A1,c1,rfl,hc1,hC1⟩ := hrow.reads
  have B8 := Aside0.mk (B7.out.trans (hb8.mono B7.out.size))
  have R8 := Aside0.mk hC1
  clear hb8 A7 B7 hrow hC1
  go_wp2_with (fail)
  have BA := below_alloc (Below.refl w8.heap.size w8) (.cells #[.string sb,.string sa] 9)
  refine (texts_call (l := [sb,sa]) (by decide) (Kd.C_below R8.out BA) hc1 (two_row (blk_new w8 (.cells #[.string sb,.string sa] 9))) (Nat.le_refl 2)).mono ?_
  rintro e w9 ⟨rfl,hb9⟩
  have B9 := Aside0.mk (B8.out.trans ((BA.trans (hb9.mono BA.size)).mono B8.out.size))
  clear hb9 BA B8 R8 hc1
  go_wp2_with (fail)
  go_ret
  exact ⟨rfl,B9.out⟩
end Go.Proofs.Ythfaimomcbmniaa.Z
end
section
namespace Go.Proofs.Ythfaimomcbmniaa.Z
set_option linter.unusedVariables false
set_option linter.unusedSimpArgs false
open Go.RowKit Go.Shelf Go.Maps Go.Proofs.YthfaimomcbmniaaW.PrintWords Go.Proofs.YthfaimomcbmniaaW.PrintLast Go.Proofs.YthfaimomcbmniaaW.PrintMore Go.Proofs.Ythfaimomcbmniaa.Cmp
theorem lev_mono (L : List Tn) (own : Int) : ∀ (l : List Nm) (m : Int),m ≤ lev L own l m
  | [],m => Int.le_refl m
  | x :: r,m => Int.le_trans (Int.le_max_left _ _) (lev_mono L own r _)
theorem lev_ge (L : List Tn) (own : Int) (x : Nm) : ∀ (l : List Nm) (m : Int),x ∈ l → ((abv L x).length : Int) - own + 1 ≤ lev L own l m
  | [],m,h => by cases h
  | y :: r,m,h => by
    rcases List.mem_cons.1 h with rfl | h
    · exact Int.le_trans (Int.le_max_right m _) (lev_mono L own r _)
    · exact lev_ge L own x r _ h
theorem mem_undL {L : List Tn} {x n : Nm} (hx : getT L x ≠ none) (h : n ∈ abv L x) : x ∈ undL L n := by
  unfold undL
  rw [List.mem_filter]
  refine ⟨?_,(hasN_iff _ _).2 h⟩
  cases hg : getT L x with
  | none => exact absurd hg hx
  | some q => exact List.mem_map.2 ⟨_,getT_mem L x q hg,rfl⟩
theorem Ch.split {L L' : List Tn} {n p : Nm} {lp : List Nm} (hne : ∀ m,m ≠ n → getT L' m = getT L m) (hp : getT L' n = some p) (hlp : Ch L' p lp) {x : Nm} {l : List Nm} (h : Ch L x l) : n ∈ l → ∃ pre suf,l = pre ++ n :: suf ∧ Ch L n (n :: suf) ∧ Ch L' x (pre ++ n :: lp) := by
  induction h with
  | stop _ => intro h;cases h
  | @go m q l h hc ih =>
    intro hn
    by_cases e : m = n
    · subst e
      exact ⟨[],l,rfl,.go h hc,.go hp hlp⟩
    · obtain ⟨pre,suf,rfl,h2,h3⟩ := ih (by
        rcases List.mem_cons.1 hn with h4 | h4
        · exact absurd h4.symm e
        · exact h4)
      exact ⟨m :: pre,suf,rfl,h2,.go (by rw [hne m e];exact h) h3⟩
theorem hasN_false {l : List Nm} {n : Nm} (h : hasN l n = false) : n ∉ l := fun hm => by rw [(hasN_iff l n).2 hm] at h;cases h
theorem Ok.move {L : List Tn} (h : Ok L) (hnd : (L.map Prod.fst).Nodup) {n p : Nm} (hg : getT L n ≠ none) (hp : p = emp ∨ getT L p ≠ none) (hc : hasN (abv L p) n = false) (hd : ((abv L p).length : Int) + levL L n ≤ 5) : Ok (putL n p L) := by
  have hsame : ∀ m,m ≠ n → getT (putL n p L) m = getT L m := fun m hm => by rw [getT_put,if_neg hm]
  have hself : getT (putL n p L) n = some p := by rw [getT_put,if_pos rfl]
  have hstay : ∀ x,n ∉ abv L x → Ch (putL n p L) x (abv L x) := fun x hx =>
    Ch.stay hsame (h.sh.ch x) hx (fun e h2 => by
      subst e
      have := h.sh.ch x
      rw [h2] at this
      cases this with
      | stop h3 => exact hg h3) (fun _ _ _ _ _ => hg)
  have hpn : p ≠ n := fun e => by
    subst e
    obtain ⟨r,hr⟩ := abv_head h.sh hg
    exact hasN_false hc (by rw [hr];exact List.mem_cons_self)
  have hchp := hstay p (hasN_false hc)
  refine ⟨shallow_of fun x => ?_,fun q hq => ?_,fun q hq => ?_,by rw [put_len_old hnd hg];exact h.len⟩
  · by_cases hx : n ∈ abv L x
    · obtain ⟨pre,suf,h1,h2,h3⟩ := Ch.split hsame hself hchp (h.sh.ch x) hx
      refine ⟨_,h3,?_⟩
      have e1 : (abv L x).length = pre.length + (suf.length + 1) := by rw [h1,List.length_append,List.length_cons]
      have e2 : abv L n = n :: suf := (h.sh.ch n).uniq h2
      have h4 := lev_ge L ((abv L n).length : Int) x (undL L n) 0 (mem_undL (fun h0 => by rw [abv_none h0] at hx;cases hx) hx)
      have h5 : lev L ((abv L n).length : Int) (undL L n) 0 = levL L n := rfl
      rw [h5,e2,List.length_cons] at h4
      rw [List.length_append,List.length_cons]
      omega
    · exact ⟨_,hstay x hx,h.sh x⟩
  · rcases (mem_put n p q L).1 hq with rfl | ⟨hq,_⟩
    · cases hgn : getT L n with
      | none => exact absurd hgn hg
      | some q0 => exact h.key hgn
    · exact h.nm q hq
  · have hkeep : ∀ m,getT L m ≠ none → getT (putL n p L) m ≠ none := fun m hm => by
      by_cases e : m = n
      · rw [e,hself];simp
      · rw [hsame m e];exact hm
    rcases (mem_put n p q L).1 hq with rfl | ⟨hq,hqn⟩
    · rcases hp with h1 | h1
      · exact .inl h1
      · exact .inr (hkeep p h1)
    · rcases h.pr q hq with h1 | h1
      · exact .inl h1
      · exact .inr (hkeep _ h1)
theorem Ok.moveP {L : List Tn} (h : Ok L) (hnd : (L.map Prod.fst).Nodup) (n p : Nm) : Ok (Z.moveP L n p).2 := by
  unfold Z.moveP
  split
  · exact h
  rename_i h1
  split
  · exact h
  rename_i h2
  split
  · exact h
  rename_i h3
  split
  · exact h
  rename_i h4
  refine h.move hnd (fun hg => by rw [hg] at h1;exact h1 rfl) (orph_false (by simpa using h2)) (by simpa using h3) (by omega)
theorem nodup_eq : ∀ {L : List Tn},(L.map Prod.fst).Nodup → ∀ {n a b : Nm},(n,a) ∈ L → ∀ {q : Tn},q ∈ L → q.1 = n → q.2 = b → a = b
  | [],_,n,a,b,h,q,_,_,_ => by cases h
  | x :: r,hn,n,a,b,h,q,hq,h1,h2 => by
    rw [List.map_cons,List.nodup_cons] at hn
    rcases List.mem_cons.1 h with e | h
    · rcases List.mem_cons.1 hq with e2 | hq
      · rw [← h2,e2,← e]
      · exact absurd (List.mem_map.2 ⟨q,hq,by rw [h1,← e]⟩) hn.1
    · rcases List.mem_cons.1 hq with e2 | hq
      · exact absurd (List.mem_map.2 ⟨(n,a),h,by rw [← e2,h1]⟩) hn.1
      · exact nodup_eq hn.2 h hq h1 h2
theorem Ok.drop {L : List Tn} (h : Ok L) (hnd : (L.map Prod.fst).Nodup) {n : Nm} (hg : getT L n ≠ none) (hu : (undL L n).length ≤ 1) : Ok (delL n L) := by
  have hself : getT (delL n L) n = none := by rw [getT_del,if_pos rfl]
  have hsame : ∀ m,m ≠ n → getT (delL n L) m = getT L m := fun m hm => by rw [getT_del,if_neg hm]
  have hnn : n ∈ undL L n := mem_undL hg (by obtain ⟨r,hr⟩ := abv_head h.sh hg;rw [hr];exact List.mem_cons_self)
  have only : ∀ x,getT L x ≠ none → n ∈ abv L x → x = n := fun x hx hm => by
    have h1 := mem_undL hx hm
    match hU : undL L n,hu,hnn,h1 with
    | [],_,h2,_ => cases h2
    | [y],_,h2,h3 =>
      simp only [List.mem_singleton] at h2 h3
      rw [h2,h3]
    | y :: z :: r,h2,_,_ => simp at h2
  have hstay : ∀ x,n ∉ abv L x → Ch (delL n L) x (abv L x) := fun x hx =>
    Ch.stay hsame (h.sh.ch x) hx (fun e h2 => by
      subst e
      have := h.sh.ch x
      rw [h2] at this
      cases this with
      | stop h3 => exact hg h3) (fun _ _ _ _ _ => hg)
  refine ⟨shallow_of fun x => ?_,fun q hq => h.nm q ((mem_del n q L).1 hq).1,fun q hq => ?_,by have := del_len hnd hg;have := h.len;omega⟩
  · by_cases hx : n ∈ abv L x
    · have hk : getT L x ≠ none := fun h1 => by rw [abv_none h1] at hx;cases hx
      obtain rfl := only x hk hx
      exact ⟨[],.stop hself,by simp⟩
    · exact ⟨_,hstay x hx,h.sh x⟩
  · obtain ⟨hq,hqn⟩ := (mem_del n q L).1 hq
    rcases h.pr q hq with h1 | h1
    · exact .inl h1
    · by_cases e : q.2 = n
      · exfalso
        apply hqn
        have hgq : getT L q.1 ≠ none := fun h2 => (getT_none L q.1).1 h2 q hq rfl
        cases hgq2 : getT L q.1 with
        | none => exact absurd hgq2 hgq
        | some p2 =>
          have hp2 : p2 = q.2 := by
            have hm := getT_mem L q.1 p2 hgq2
            exact nodup_eq hnd hm hq rfl rfl
          refine only q.1 hgq ?_
          rw [abv_some h.sh hgq2,hp2,e]
          obtain ⟨r,hr⟩ := abv_head h.sh hg
          rw [hr]
          exact List.mem_cons_of_mem _ List.mem_cons_self
      · exact .inr (by rw [hsame _ e];exact h1)
theorem Ok.dropP {L : List Tn} (h : Ok L) (hnd : (L.map Prod.fst).Nodup) (n : Nm) : Ok (Z.dropP L n).2 := by
  unfold Z.dropP
  split
  · exact h
  rename_i h1
  split
  · exact h
  rename_i h2
  exact h.drop hnd (fun hg => by rw [hg] at h1;exact h1 rfl) (by omega)
end Go.Proofs.Ythfaimomcbmniaa.Z
end
section
namespace Go.Proofs.Ythfaimomcbmniaa.Z
set_option linter.unusedVariables false
set_option linter.unusedSimpArgs false
open Go.RowKit
end Go.Proofs.Ythfaimomcbmniaa.Z
end
section
namespace Go.Proofs.Ythfaimomcbmniaa.Z
set_option linter.unusedVariables false
set_option linter.unusedSimpArgs false
open Go.RowKit Go.Shelf Go.Maps Go.Proofs.YthfaimomcbmniaaW.PrintWords Go.Proofs.YthfaimomcbmniaaW.PrintLast Go.Proofs.YthfaimomcbmniaaW.PrintMore Go.Proofs.Ythfaimomcbmniaa.Cmp
abbrev tR : Nat := 91
abbrev tE : Nat := 85
abbrev STn := S85
abbrev kTn : Kd STn := k85
def tn (p : Tn) : STn := ⟨p.1,p.2⟩
structure RTree (w : World) (r N : Nat) (v : Value) (L : List Tn) : Prop where
  blk : w.heap[r]? = some (.cells #[v] tR (0,0))
  row : Kd.N kTn tE w N (fun k => k ≠ r) v (L.map tn)
  le : N ≤ r
theorem RTree.below {w w1 : World} {r N : Nat} {v : Value} {L : List Tn} (h : RTree w r N v L) (hb : Below w.heap.size w w1) : RTree w1 r N v L :=
  ⟨(hb.block r (blk_lt h.blk)).trans h.blk,Kd.N_below h.row hb,h.le⟩
structure RC (w : World) (r : Nat) (A : Option Addr) (c : Nat) (L : List Tn) : Prop where
  cell : w.cell? ⟨r,0,none⟩ = some (.slice A L.length c)
  lt : r < w.heap.size
  row : Kd.C kTn w A L.length (L.map tn)
  cap : L.length ≤ c
theorem RC.below {w w1 : World} {r : Nat} {A : Option Addr} {c : Nat} {L : List Tn} (h : RC w r A c L) (hb : Below w.heap.size w w1) : RC w1 r A c L :=
  ⟨(hb.cell (p := ⟨r,0,none⟩) h.lt).trans h.cell,Nat.lt_of_lt_of_le h.lt hb.size,Kd.C_below h.row hb,h.cap⟩
theorem RC.at_ {w : World} {r : Nat} {A : Option Addr} {c : Nat} {L : List Tn} (h : RC w r A c L) {i : Nat} {x : Tn} (hx : L[i]? = some x) :
    ∃ ad,A = some ad ∧ w.cell? (ad.add (i * 2)) = some (.string x.1) ∧ w.cell? ⟨(ad.add (i * 2)).block,(ad.add (i * 2)).off + 1,none⟩ = some (.string x.2) := by
  have hi : i < L.length := (List.getElem?_eq_some_iff.1 hx).1
  obtain ⟨ad,rfl,h1,h2⟩ := at_T85 h.row (i : Int) (by omega) (by omega)
  have e : rd_T85 (L.map tn) (i : Int) = tn x := by
    unfold rd_T85
    rw [Int.toNat_natCast,List.getD_eq_getElem?_getD,List.getElem?_map,hx]
    rfl
  rw [e,Int.toNat_natCast] at h1 h2
  exact ⟨ad,rfl,h1,h2⟩
end Go.Proofs.Ythfaimomcbmniaa.Z
end
section
namespace Go.Proofs
open Go.Shelf
def Try.keys105_ren : Go.Shelf.Ren := ⟨fun | 7 => 105 | 10 => 127 | n => n,fun | 23 => 136 | 26 => 9 | 3 => 9 | 28 => 142 | 0 => 0 | 27 => 141 | 33 => 95 | 4 => 4 | n => n,fun | n => n⟩
theorem Try.keys105 : Go.Proofs.SlLaysZ.n7 Try.prog Try.keys105_ren := {
  mixed := by kernel_rfl
  f7 := ⟨Try.f105.name,by decide,Try.func105.trans (congrArg some (by kernel_rfl))⟩
  f10 := ⟨Try.f127.name,by decide,Try.func127.trans (congrArg some (by kernel_rfl))⟩
  t0 := Try.underlying0
  a0 := Try.isAgg0
  z0 := Try.sizeOf0
  v0 := Try.zeroValue0
  t4 := Try.underlying4
  a4 := Try.isAgg4
  z4 := Try.sizeOf4
  v4 := Try.zeroValue4
  t23 := Try.underlying136
  a23 := Try.isAgg136
  z23 := Try.sizeOf136
  v23 := Try.zeroValue136
  t26 := Try.underlying9
  a26 := Try.isAgg9
  z26 := Try.sizeOf9
  v26 := Try.zeroValue9
  t27 := Try.underlying141
  a27 := Try.isAgg141
  z27 := Try.sizeOf141
  v27 := Try.zeroValue141
  t28 := Try.underlying142
  a28 := Try.isAgg142
  z28 := Try.sizeOf142
  v28 := Try.zeroValue142
  t33 := Try.underlying95
  a33 := Try.isAgg95
  z33 := Try.sizeOf95
  v33 := Try.zeroValue95 }
def Try.sorted104_ren : Go.Shelf.Ren := ⟨fun | 6 => 104 | 8 => 106 | 9 => 86 | 11 => 128 | 13 => 124 | 12 => 123 | 23 => 147 | 24 => 148 | 14 => 138 | 15 => 139 | 16 => 140 | 17 => 141 | 18 => 142 | 19 => 143 | 20 => 144 | 21 => 145 | 22 => 146 | 25 => 155 | 26 => 156 | 27 => 157 | 28 => 158 | 29 => 159 | 30 => 132 | 31 => 164 | n => n,fun | 26 => 9 | 28 => 142 | 24 => 59 | 0 => 0 | 3 => 3 | 37 => 150 | 48 => 174 | 50 => 176 | 4 => 4 | 40 => 168 | 39 => 167 | 45 => 101 | 5 => 5 | 9 => 9 | 51 => 181 | 55 => 185 | 57 => 188 | 58 => 189 | 33 => 95 | n => n,fun | n => n⟩
theorem Try.sorted104 : Go.Proofs.SlLaysZ.n6 Try.prog Try.sorted104_ren := {
  mixed := by kernel_rfl
  f6 := ⟨Try.f104.name,by decide,Try.func104.trans (congrArg some (by kernel_rfl))⟩
  f8 := ⟨Try.f106.name,by decide,Try.func106.trans (congrArg some (by kernel_rfl))⟩
  f11 := ⟨Try.f128.name,by decide,Try.func128.trans (congrArg some (by kernel_rfl))⟩
  t0 := Try.underlying0
  a0 := Try.isAgg0
  z0 := Try.sizeOf0
  v0 := Try.zeroValue0
  t24 := Try.underlying59
  a24 := Try.isAgg59
  z24 := Try.sizeOf59
  v24 := Try.zeroValue59
  t26 := Try.underlying9
  a26 := Try.isAgg9
  z26 := Try.sizeOf9
  v26 := Try.zeroValue9
  t28 := Try.underlying142
  a28 := Try.isAgg142
  z28 := Try.sizeOf142
  v28 := Try.zeroValue142
  i26 := by kernel_rfl }
def Try.sort86_ren : Go.Shelf.Ren := ⟨fun | 6 => 86 | 8 => 124 | 9 => 123 | 19 => 147 | 20 => 148 | 21 => 138 | 22 => 139 | 23 => 140 | 24 => 141 | 25 => 142 | 26 => 143 | 27 => 144 | 28 => 145 | 29 => 146 | 36 => 155 | 31 => 156 | 32 => 157 | 37 => 158 | 38 => 159 | 39 => 132 | 41 => 164 | n => n,fun | 27 => 59 | 29 => 9 | 3 => 3 | 32 => 150 | 26 => 59 | 0 => 0 | 44 => 174 | 46 => 176 | 4 => 4 | 36 => 168 | 35 => 167 | 41 => 101 | 5 => 5 | 9 => 9 | 53 => 181 | 57 => 185 | 63 => 188 | 64 => 189 | n => n,fun | n => n⟩
theorem Try.sort86 : Go.Proofs.SlLaysM.n6 Try.prog Try.sort86_ren := {
  mixed := by kernel_rfl
  f6 := ⟨Try.f86.name,by decide,Try.func86.trans (congrArg some (by kernel_rfl))⟩
  f8 := Try.func124.trans (congrArg some (by kernel_rfl))
  f9 := ⟨Try.f123.name,by decide,Try.func123.trans (congrArg some (by kernel_rfl))⟩
  f19 := Try.func147.trans (congrArg some (by kernel_rfl))
  f20 := Try.func148.trans (congrArg some (by kernel_rfl))
  f21 := ⟨Try.f138.name,by decide,Try.func138.trans (congrArg some (by kernel_rfl))⟩
  f22 := ⟨Try.f139.name,by decide,Try.func139.trans (congrArg some (by kernel_rfl))⟩
  f23 := ⟨Try.f140.name,by decide,Try.func140.trans (congrArg some (by kernel_rfl))⟩
  f24 := ⟨Try.f141.name,by decide,Try.func141.trans (congrArg some (by kernel_rfl))⟩
  f25 := ⟨Try.f142.name,by decide,Try.func142.trans (congrArg some (by kernel_rfl))⟩
  f26 := ⟨Try.f143.name,by decide,Try.func143.trans (congrArg some (by kernel_rfl))⟩
  f27 := ⟨Try.f144.name,by decide,Try.func144.trans (congrArg some (by kernel_rfl))⟩
  f28 := ⟨Try.f145.name,by decide,Try.func145.trans (congrArg some (by kernel_rfl))⟩
  f29 := ⟨Try.f146.name,by decide,Try.func146.trans (congrArg some (by kernel_rfl))⟩
  f31 := Try.func156.trans (congrArg some (by kernel_rfl))
  f32 := Try.func157.trans (congrArg some (by kernel_rfl))
  f36 := ⟨Try.f155.name,by decide,Try.func155.trans (congrArg some (by kernel_rfl))⟩
  f37 := ⟨Try.f158.name,by decide,Try.func158.trans (congrArg some (by kernel_rfl))⟩
  f38 := ⟨Try.f159.name,by decide,Try.func159.trans (congrArg some (by kernel_rfl))⟩
  f39 := ⟨Try.f132.name,by decide,Try.func132.trans (congrArg some (by kernel_rfl))⟩
  f41 := ⟨Try.f164.name,by decide,Try.func164.trans (congrArg some (by kernel_rfl))⟩
  t0 := Try.underlying0
  a0 := Try.isAgg0
  z0 := Try.sizeOf0
  v0 := Try.zeroValue0
  t3 := Try.underlying3
  a3 := Try.isAgg3
  z3 := Try.sizeOf3
  v3 := Try.zeroValue3
  t4 := Try.underlying4
  a4 := Try.isAgg4
  z4 := Try.sizeOf4
  v4 := Try.zeroValue4
  t5 := Try.underlying5
  a5 := Try.isAgg5
  z5 := Try.sizeOf5
  v5 := Try.zeroValue5
  t9 := Try.underlying9
  a9 := Try.isAgg9
  z9 := Try.sizeOf9
  v9 := Try.zeroValue9
  t26 := Try.underlying59
  a26 := Try.isAgg59
  z26 := Try.sizeOf59
  v26 := Try.zeroValue59
  t27 := Try.underlying59
  a27 := Try.isAgg59
  z27 := Try.sizeOf59
  v27 := Try.zeroValue59
  t29 := Try.underlying9
  a29 := Try.isAgg9
  z29 := Try.sizeOf9
  v29 := Try.zeroValue9
  t32 := Try.underlying150
  a32 := Try.isAgg150
  z32 := Try.sizeOf150
  v32 := Try.zeroValue150
  t35 := Try.underlying167
  a35 := Try.isAgg167
  z35 := Try.sizeOf167
  v35 := Try.zeroValue167
  t36 := Try.underlying168
  a36 := Try.isAgg168
  z36 := Try.sizeOf168
  v36 := Try.zeroValue168
  t41 := Try.underlying101
  a41 := Try.isAgg101
  z41 := Try.sizeOf101
  v41 := Try.zeroValue101
  t44 := Try.underlying174
  a44 := Try.isAgg174
  z44 := Try.sizeOf174
  v44 := Try.zeroValue174
  t46 := Try.underlying176
  a46 := Try.isAgg176
  z46 := Try.sizeOf176
  v46 := Try.zeroValue176
  t53 := Try.underlying181
  a53 := Try.isAgg181
  z53 := Try.sizeOf181
  v53 := Try.zeroValue181
  t57 := Try.underlying185
  a57 := Try.isAgg185
  z57 := Try.sizeOf185
  v57 := Try.zeroValue185
  t63 := Try.underlying188
  a63 := Try.isAgg188
  z63 := Try.sizeOf188
  v63 := Try.zeroValue188
  t64 := Try.underlying189
  a64 := Try.isAgg189
  z64 := Try.sizeOf189
  v64 := Try.zeroValue189 }
open Go.RowKit Go.Maps Go.Sort Go.Shelf
theorem Try.sorts104 (m : Nat) : AnyZ.SortsIn Try.prog Try.sorted104_ren Fence.wide m :=
  ⟨fun blk off cap ss W hH hblk hsz => callsIn_wide.2 (AnyM.slices_Sort_string Try.sort86 blk off cap ss W hH hblk hsz),
   fun p cap W => callsIn_wide.2 (AnyM.slices_Sort_string_none Try.sort86 p cap W)⟩
theorem Try.maps_Keys_105 (mb : Option Nat) (W : World) : CallsIn Fence.wide 5 Try.prog 105 #[.map mb] W fun e w' => e = .returned (.func (.func 127) #[] #[.pointer (some ⟨W.heap.size,0,none⟩)]) ∧ w' = W.alloc (.cells #[.map mb] 136) :=
  AnyZ.keys_in Try.keys105 Fence.wide 5 trivial rfl mb W
set_option maxHeartbeats 1000000 in
theorem Try.slices_Sorted_keys_104_105 {H : Type} (b nn : Nat) (D0 : DataW H) (R : Value → Option (DataW H × List MemPlace)) (w : World) (hown : w.ownsMap Try.prog 9 R b nn D0) (hmax : Maps.size D0 ≤ maxLen) (hbytes : Maps.size D0 * 16 ≤ 140737488355328) :
    CallsIn Fence.wide 5 Try.prog 104 #[.func (.func 127) #[] #[.pointer (some ⟨w.heap.size,0,none⟩)]] (w.alloc (.cells #[.map (some b)] 136)) fun e w' => ∃ (v : Value) (ss : List (List UInt8)),e = .returned v ∧ ss.Perm (strKeys D0) ∧
      w'.ownsRow (w.alloc (.cells #[.map (some b)] 136)).heap.size 9 1 v ss.length ((ss.mergeSort (fun x y => decide (x ≤ y))).map encStr) ∧ (v = .slice none 0 0 ↔ ss = []) ∧ Below (w.alloc (.cells #[.map (some b)] 136)).heap.size (w.alloc (.cells #[.map (some b)] 136)) w' := by
  have hbl := hown.lt
  have hseq : SeqGives Fence.wide 2 Try.prog 127 #[.pointer (some ⟨w.heap.size,0,none⟩)] encStr (fun ss => ss.Perm (strKeys D0)) (Maps.size D0) (w.alloc (.cells #[.map (some b)] 136)) :=
    AnyZ.keys_gives (ρ := Try.keys105_ren) { Try.keys105 with } Fence.wide _ trivial rfl (by omega) w.heap.size b nn D0 _ (by simp) (by simp) (by
      obtain ⟨es,clock,hb,Ft,hs,hD⟩ := hown
      exact ⟨es,clock,(Below.heap_alloc _ _ b hbl).trans hb,Ft,hs,hD⟩)
  exact AnyZ.sorted_in Try.sorted104 Fence.wide 5 trivial trivial trivial trivial rfl (by omega) (Try.sorts104 _) (enters_of Try.func86 (by kernel_rfl) rfl) 127 #[.pointer (some ⟨w.heap.size,0,none⟩)] trivial (enters_of Try.func127 (by kernel_rfl) rfl) _ _ hmax hbytes _ hseq
end Go.Proofs
end
section
namespace Go.Proofs.Ythfaimomcbmniaa.Z
set_option linter.unusedVariables false
set_option linter.unusedSimpArgs false
open Go.RowKit Go.Shelf Go.Maps Go.Proofs.YthfaimomcbmniaaW.PrintWords Go.Proofs.YthfaimomcbmniaaW.PrintLast Go.Proofs.YthfaimomcbmniaaW.PrintMore Go.Proofs.Ythfaimomcbmniaa.Cmp
theorem keys_row {w W : World} {t b base : Nat} {L : List Tn} {v : Value} {ss : List (List UInt8)} (h : TreeAt w t b L) (hp : ss.Perm (strKeys (mapD L))) (hr : W.ownsRow base 9 1 v ss.length ((ss.mergeSort (fun x y => decide (x ≤ y))).map encStr)) : SRow W base v (L.map Prod.fst) := by
  rw [strKeys_mapD] at hp
  have h1 : sortN (ss.map ofB) = L.map Prod.fst := by
    refine sortN_eq ?_ (List.pairwise_map.2 (h.rise.imp (fun h => List.le_of_lt h)))
    have := hp.map ofB
    rw [map_of_to] at this
    exact this
  have h2 : (ss.mergeSort leB).map ofB = L.map Prod.fst := by
    rw [← h1]
    unfold sortN
    rw [map_to_of]
  have h3 : ((ss.mergeSort leB).map encStr) = (L.map Prod.fst).map strV := by
    rw [← h2,List.map_map]
    exact List.map_congr_left (fun x _ => by show encStr x = strV (ofB x);rw [← enc_to,to_of])
  have h4 : ss.length = (L.map Prod.fst).length := by rw [hp.length_eq,List.length_map]
  unfold SRow
  rw [← h3,← h4]
  exact hr
theorem getT_at {L : List Tn} (hn : (L.map Prod.fst).Nodup) {i : Nat} {x : Tn} (hx : L[i]? = some x) : getT L x.1 = some x.2 := by
  cases hg : getT L x.1 with
  | none => exact absurd rfl ((getT_none L x.1).1 hg x (List.mem_of_getElem? hx))
  | some p => rw [nodup_eq hn (getT_mem L x.1 p hg) (List.mem_of_getElem? hx) rfl rfl]
set_option maxHeartbeats 8000000 in
set_option maxRecDepth 100000 in
theorem ten_all {w : World} {t b : Nat} {L : List Tn} (h : TreeAt w t b L) (hO : Ok L) : Calls Try.prog 50 #[.pointer (some ⟨t,0,none⟩)] w fun e w' => ∃ v,e = .returned v ∧ Kd.N kTn tE w' w.heap.size (fun _ => True) v (L.map tn) ∧ Below w.heap.size w w' := by
  have HA := Aside0.mk h
  have HO := Aside0.mk hO
  have x0 : w.cell? ⟨t,0,none⟩ = some (.map (some b)) := blk_cell h.blk 0
  have HSZ := Aside0.mk (size_mapD L)
  clear h hO
  go_enter Try.func50,Try.ntmps50
  go_wp2_with (fail)
  refine (callsIn_wide.1 (Try.maps_Keys_105 (some b) w)).mono ?_
  rintro e w' ⟨rfl,rfl⟩
  go_wp2_with (fail)
  refine (callsIn_wide.1 (Try.slices_Sorted_keys_104_105 b L.length (mapD L) RvS w HA.out.map (by rw [HSZ.out];have := HO.out.len;unfold maxLen;omega) (by rw [HSZ.out];have := HO.out.len;omega))).mono ?_
  rintro e w2 ⟨v,ss,rfl,hp,hr,_,hb⟩
  have hrow := keys_row HA.out hp hr
  have B2 := Aside0.mk ((below_alloc (Below.refl w.heap.size w) (.cells #[.map (some b)] tM)).trans (hb.mono (by simp)))
  obtain ⟨Ak,ck,rfl,_,hC⟩ := hrow.reads
  have HC := Aside0.mk hC
  have A2 := Aside0.mk (HA.out.below B2.out)
  rw [List.length_map] at HC ⊢
  clear hp hr hb hrow hC
  go_wp2_with (fail)
  go_loopw [3,15] (fun ov iv wr => ∃ (i : Nat) (K : List Tn),iv = .int .i64 (i : Int) ∧ i ≤ L.length ∧ Aside0 (K = L.take i) ∧ Aside0 (Kd.N kTn tE wr w.heap.size (fun _ => True) ov (K.map tn)) ∧ Aside0 (∀ k,ov.ownBlock = some k → w2.heap.size ≤ k) ∧ Aside0 (NextW w2.heap.size w2 wr)) (fun _ iv _ => L.length - (intOf iv).toNat)
  case atStart => exact ⟨0,[],rfl,Nat.zero_le _,⟨rfl⟩,⟨Kd.N_nil _ _ _ _ _⟩,⟨fun k hk => by simp [Value.ownBlock] at hk⟩,⟨NextW.refl _⟩⟩
  case round =>
    rename World => wr
    obtain ⟨i,K,rfl,hi,HK,HN,HV,NW⟩ := hrel
    obtain ⟨m,hm⟩ : ∃ m,(K.map tn).length = m := ⟨_,rfl⟩
    have HM := Aside0.mk hm
    obtain ⟨Ao,co,rfl⟩ := Kd.N_slice HN.out
    rw [hm] at HN HV ⊢
    clear hm
    have h24 := HO.out.len
    by_cases hlt : i < L.length
    · have k0 : decide ((i : Int) < (L.length : Int)) = true := decide_eq_true (by omega)
      obtain ⟨x,hx⟩ : ∃ x,L[i]? = some x := ⟨L[i],List.getElem?_eq_getElem hlt⟩
      have A3 := Aside0.mk (A2.out.below NW.out.below)
      have hgx := getT_at A3.out.names hx
      have hkx := HO.out.nm x (List.mem_of_getElem? hx)
      have hsx : x.1.size ≤ maxLen := by have := (name_size hkx).2;unfold maxLen;omega
      obtain ⟨ad,cs,rfl,_,hcs,hcell⟩ := Kd.C_get (Kd.C_below HC.out NW.out.below) emp (i : Int) (by omega) (by omega)
      have c0 := hcell 0 (.string x.1) (by
        have h1 : cs = [.string ((L.map Prod.fst).getD (i : Int).toNat emp)] := hcs
        rw [h1,Int.toNat_natCast,List.getD_eq_getElem?_getD,List.getElem?_map,hx]
        rfl)
      have c1 : wr.cell? (ad.add i) = some (.string x.1) := by
        rw [← c0]
        congr 2
        show i = (i : Int).toNat * 1 + 0
        omega
      have y0 : wr.cell? ⟨t,0,none⟩ = some (.map (some b)) := blk_cell A3.out.blk 0
      have l0 := A3.out.look x.1 hsx
      rw [hgx] at l0
      have l1 : (Instr.lookup tM (.map (some b)) (.string x.1) false).run Try.prog wr = .ok (.string x.2) wr := l0
      have TK := Aside0.mk (show L.take (i + 1) = K ++ [x] by rw [HK.out,List.take_add_one,hx];rfl)
      have KL := Aside0.mk (show m ≤ 24 by have := HM.out;rw [← this,List.length_map,HK.out,List.length_take];omega)
      obtain ⟨x1,hx1⟩ : ∃ x1,x.1 = x1 := ⟨_,rfl⟩
      obtain ⟨x2,hx2⟩ : ∃ x2,x.2 = x2 := ⟨_,rfl⟩
      have HXT := Aside0.mk (show tn x = ⟨x1,x2⟩ by rw [← hx1,← hx2];rfl)
      rw [hx1] at c1 l1
      rw [hx2] at l1
      have p0 : (0 : Int) ≤ (i : Int) := by omega
      have p1 : (i : Int) < (L.length : Int) := by omega
      have GE := Aside0.mk (show w.heap.size ≤ wr.heap.size from Nat.le_trans B2.out.size NW.out.le)
      clear hcell hcs c0 hx hgx hkx hsx l0 hx1 hx2
      go_wp2_with (((with_reducible refine gate_builtin (b := .append) (xs := #[.tmp 19,.tmp 28]) rfl ?_);at_builtin;refine Kd.N_append kTn (w0 := w) w.heap.size rfl (.tmp 19) (.tmp 28) 81 tE (.agg #[(.string ⟨#[]⟩),(.string ⟨#[]⟩)]) 32 rfl Try.underlying81 (by kernel_rfl) rfl (by decide) (by omega) (.slice Ao m co) (K.map tn) ⟨x1,x2⟩ [.string x1,.string x2] (fun _ => True) (fun _ => False) rfl rfl (k85_mkF _ _ ⟨x1,x2⟩) (fun k hk => hk.elim) (fun _ _ => trivial) HN.out (B2.out.trans (NW.out.below.mono B2.out.size)) GE.out (by rw [HM.out];have := KL.out;omega) ?_;intro v2 w8 hv hb3 hg hat;have NV8 := Aside0.mk (show Kd.N kTn tE w8 w.heap.size (fun _ => True) v2 ((K ++ [x]).map tn) by (rw [List.map_append];show Kd.N kTn tE w8 w.heap.size (fun _ => True) v2 (K.map tn ++ [tn x]);rw [HXT.out];exact hv));have OV8 := Aside0.mk (own_new2 HV.out NW.out.le hat);have NW8 := Aside0.mk (show NextW w2.heap.size w2 w8 from ⟨NW.out.below.grown hg NW.out.le (fun k e => HV.out k e),Nat.le_trans NW.out.le hg.size⟩);clear hv hb3 hg hat))
      go_roundw
      case rel => exact ⟨i + 1,K ++ [x],by go_num,hlt,⟨TK.out.symm⟩,NV8,OV8,NW8⟩
      case measure => simp [intOf];omega
    · have k0 : decide ((i : Int) < (L.length : Int)) = false := decide_eq_false (by omega)
      have HE := Aside0.mk (show K = L by rw [HK.out,List.take_of_length_le (by omega)])
      go_wp2_with (fail)
      go_ret
      exact ⟨_,rfl,by rw [← HE.out];exact HN.out,B2.out.trans (NW.out.below.mono B2.out.size)⟩
end Go.Proofs.Ythfaimomcbmniaa.Z
end
section
namespace Go.Proofs.Ythfaimomcbmniaa.Z
open Go.RowKit Go.Proofs.YthfaimomcbmniaaW.PrintWords Go.Proofs.YthfaimomcbmniaaW.PrintLast Go.Proofs.YthfaimomcbmniaaW.PrintMore
attribute [local go_sem] max2_int min2_int max_two min_two max_three min_three max_four min_four
set_option linter.unusedVariables false
set_option linter.unusedSimpArgs false
def verdererlaw09_has.l0 : Nat → List ByteArray → ByteArray → Int → Option (Bool)
  | 0,_,_,_ => none
  | k + 1,x0,x1,x5 => if x5 < (x0.length : Int) then (if 0 ≤ x5 then (if (rdOf ByteArray.empty x0 x5).toList = x1.toList then (some true) else (verdererlaw09_has.l0 k x0 x1 (wrap64 (x5 + 1)))) else (none)) else (some false)
def verdererlaw09_has.f (k : Nat) (l0 : List ByteArray) (a1 : ByteArray) : Option (Bool) := verdererlaw09_has.l0 k l0 a1 0
theorem verdererlaw09_has.mono_l : ∀ k,(∀ y0 y1 y2,LeO (verdererlaw09_has.l0 k y0 y1 y2) (verdererlaw09_has.l0 (k + 1) y0 y1 y2))
  | 0 => fun _ _ _ r h => by simp [verdererlaw09_has.l0] at h
  | k + 1 => by
    have ih0 := verdererlaw09_has.mono_l k
    · intro y0 y1 y2
      unfold verdererlaw09_has.l0
      repeat' first
      | (with_reducible exact ih0 _ _ _)
      | (with_reducible exact LeO.refl _)
      | (with_reducible exact LeO.none _)
      | (with_reducible refine LeO.ite ?_ ?_)
      | (with_reducible refine LeO.bind ?_ (fun _ => ?_))
      | exact ih0 _ _ _
      | exact LeO.none _
      | refine LeO.ite ?_ ?_
      | refine LeO.bind ?_ (fun _ => ?_)
theorem verdererlaw09_has.mono : ∀ a0 a1 k,LeO (verdererlaw09_has.f k a0 a1) (verdererlaw09_has.f (k + 1) a0 a1) := by
  intro a0 a1 k
  have ih0 := verdererlaw09_has.mono_l k
  unfold verdererlaw09_has.f
  repeat' first
      | (with_reducible exact ih0 _ _ _)
      | (with_reducible exact LeO.refl _)
      | (with_reducible exact LeO.none _)
      | (with_reducible refine LeO.ite ?_ ?_)
      | (with_reducible refine LeO.bind ?_ (fun _ => ?_))
      | exact ih0 _ _ _
      | exact LeO.none _
      | refine LeO.ite ?_ ?_
      | refine LeO.bind ?_ (fun _ => ?_)
set_option maxHeartbeats 8000000 in
set_option maxRecDepth 100000 in
theorem verdererlaw09_has.calls (k : Nat) (A0 : Option Addr) (c0 : Nat) (l0 : List ByteArray) (a1 : ByteArray) (r : Bool) (w : World) (hr0 : Kd.C Kd.string w A0 l0.length l0) (hc0 : l0.length ≤ c0) (h : verdererlaw09_has.f k l0 a1 = some r) :
    Calls Try.prog 53 #[.slice A0 l0.length c0,.string a1] w fun e w' => e = .returned (.bool r) ∧ Drawn0 w w' := by
  have HR0 := Aside0.mk hr0
  have HC0 := Aside0.mk hc0
  clear hr0 hc0
  have H : (verdererlaw09_has.l0 k l0 a1 0) = some r := h
  clear h
  have H' := Aside0.mk H
  clear H
  go_enter Try.func53,Try.ntmps53
  go_wp2
  go_loopg [5] k (fun kq v5 w' => ∃ (x5_1 : Int),v5 = .int .i64 x5_1 ∧ Aside0 (verdererlaw09_has.l0 kq l0 a1 x5_1 = some r) ∧ Aside0 (kq ≤ k) ∧ Drawn0 w w')
  case atStart => exact ⟨(0),(by first | rfl | (simp;done) | (simp [*];done)),H',⟨Nat.le_refl _⟩,by repeat (first | exact Drawn0.refl _ | apply Drawn0.step)⟩
  case round =>
    clear H'
    try clear p2
    obtain ⟨x5_1,rfl,HA,HK1,⟨m1,rfl⟩⟩ := hrel
    cases gk with
    | zero => exact absurd HA.out (by simp [verdererlaw09_has.l0])
    | succ k1 =>
      have H := HA.out
      clear HA
      simp only [verdererlaw09_has.l0] at H
      by_cases c3 : x5_1 < (l0.length : Int)
      · rw [if_pos c3] at H
        have c3b0 : decide (x5_1 < (l0.length : Int)) = true := decide_eq_true c3
        clear c3
        by_cases c4 : 0 ≤ x5_1
        · rw [if_pos c4] at H
          have c4b0 : decide (0 ≤ x5_1) = true := decide_eq_true c4
          clear c4
          by_cases c5 : (rdOf ByteArray.empty l0 x5_1).toList = a1.toList
          · rw [if_pos c5] at H
            have c5b0 : ((rdOf ByteArray.empty l0 x5_1).toList == a1.toList) = true := beq_iff_eq.mpr c5
            have c5b1 : ((rdOf ByteArray.empty l0 x5_1).toList != a1.toList) = false := bne_eq_false_iff_eq.mpr c5
            clear c5
            obtain rfl := Option.some.inj H
            have p253 : 0 ≤ (x5_1 : Int) := of_decide_eq_true (by first | (with_reducible assumption) | assumption)
            have q253 : x5_1 < (l0.length : Int) := of_decide_eq_true (by first | (with_reducible assumption) | assumption)
            obtain ⟨ad253,e253,hx253_0⟩ := Kd.at_string HR0.out x5_1 p253 q253
            cases e253
            replace p253 := eq_true p253
            replace q253 := eq_true q253
            go_wp2
            go_ret
            exact ⟨by first | rfl | (simp;done) | (simp [*];done),by repeat (first | exact Drawn0.refl _ | apply Drawn0.step)⟩
          · rw [if_neg c5] at H
            have c5b0 : ((rdOf ByteArray.empty l0 x5_1).toList == a1.toList) = false := beq_eq_false_iff_ne.mpr c5
            have c5b1 : ((rdOf ByteArray.empty l0 x5_1).toList != a1.toList) = true := bne_iff_ne.mpr c5
            have H' := Aside0.mk H
            clear H
            have p253 : 0 ≤ (x5_1 : Int) := of_decide_eq_true (by first | (with_reducible assumption) | assumption)
            have q253 : x5_1 < (l0.length : Int) := of_decide_eq_true (by first | (with_reducible assumption) | assumption)
            obtain ⟨ad253,e253,hx253_0⟩ := Kd.at_string HR0.out x5_1 p253 q253
            cases e253
            replace p253 := eq_true p253
            replace q253 := eq_true q253
            go_wp2
            go_roundg k1
            case measure => have := HK1.out;omega
            case rel => exact ⟨(wrap64 (x5_1 + 1)),(by first | rfl | (simp;done) | (simp [*];done)),H',⟨by have := HK1.out;omega⟩,by repeat (first | exact Drawn0.refl _ | apply Drawn0.step)⟩
        · rw [if_neg c4] at H
          exact absurd H (by simp)
      · rw [if_neg c3] at H
        have c3b0 : decide (x5_1 < (l0.length : Int)) = false := decide_eq_false c3
        clear c3
        obtain rfl := Option.some.inj H
        go_wp2
        go_ret
        exact ⟨by first | rfl | (simp;done) | (simp [*];done),by repeat (first | exact Drawn0.refl _ | apply Drawn0.step)⟩
end Go.Proofs.Ythfaimomcbmniaa.Z
end
section
namespace Go.Proofs.Ythfaimomcbmniaa.Z
set_option linter.unusedVariables false
set_option linter.unusedSimpArgs false
open Go.RowKit Go.Proofs.YthfaimomcbmniaaW.PrintWords Go.Proofs.YthfaimomcbmniaaW.PrintLast Go.Proofs.YthfaimomcbmniaaW.PrintMore
structure S78 where
  f0 : Int
  f1 : ByteArray
  f2 : ByteArray
def z78 : S78 := ⟨(0 : Int),(⟨#[]⟩ : ByteArray),(⟨#[]⟩ : ByteArray)⟩
def k78 : Kd S78 := Kd.iso (Kd.pair (Kd.int .i64) (Kd.pair Kd.string Kd.string)) (fun x : S78 => (x.f0,x.f1,x.f2))
theorem k78_open {w : World} {x : S78} {cs : List Value} (h : k78.K w x cs) : cs = [.int .i64 x.f0,.string x.f1,.string x.f2] := by
  obtain ⟨_,_,rfl,rfl,⟨_,_,rfl,rfl,rfl⟩⟩ := h
  exact rfl
def rd_T78 (xs : List S78) (i : Int) : S78 := xs.getD i.toNat z78
theorem at_T78 {w : World} {A : Option Addr} {n : Nat} {xs : List S78} (h : Kd.C k78 w A n xs) (i : Int) (h0 : 0 ≤ i) (h1 : i < n) : ∃ ad,A = some ad ∧ w.cell? (ad.add (i.toNat * 3)) = some (.int .i64 (rd_T78 xs i).f0) ∧ w.cell? ⟨(ad.add (i.toNat * 3)).block,(ad.add (i.toNat * 3)).off + 1,none⟩ = some (.string (rd_T78 xs i).f1) ∧ w.cell? ⟨(ad.add (i.toNat * 3)).block,(ad.add (i.toNat * 3)).off + 2,none⟩ = some (.string (rd_T78 xs i).f2) := by
  obtain ⟨ad,c,e,_,hK,hc0⟩ := Kd.C_get h z78 i h0 h1
  have hc : ∀ j u,c[j]? = some u → w.cell? (ad.add (i.toNat * 3 + j)) = some u := hc0
  obtain rfl := k78_open hK
  exact ⟨ad,e,hc 0 _ rfl,by rw [← add_field _ _ 1 (by omega)];exact hc 1 _ rfl,by rw [← add_field _ _ 2 (by omega)];exact hc 2 _ rfl⟩
end Go.Proofs.Ythfaimomcbmniaa.Z
end
section
namespace Go.Proofs.Ythfaimomcbmniaa.Z
set_option linter.unusedVariables false
set_option linter.unusedSimpArgs false
open Go.RowKit Go.Shelf Go.Maps Go.Proofs.YthfaimomcbmniaaW.PrintWords Go.Proofs.YthfaimomcbmniaaW.PrintLast Go.Proofs.YthfaimomcbmniaaW.PrintMore Go.Proofs.Ythfaimomcbmniaa.Cmp
abbrev Act9 := S78
abbrev kAct : Kd Act9 := k78
def actP (L : List Tn) (a : Act9) : List Tn := if a.f0.tmod 3 = 0 then (addP L a.f1 a.f2).2 else if a.f0.tmod 3 = 1 then (moveP L a.f1 a.f2).2 else (dropP L a.f1).2
theorem Ok.actP {L : List Tn} (h : Ok L) (hn : (L.map Prod.fst).Nodup) (a : Act9) : Ok (Z.actP L a) := by
  unfold Z.actP
  split
  · exact h.addP _ _
  split
  · exact h.moveP hn _ _
  · exact h.dropP hn _
theorem row_at {w : World} {A : Option Addr} {L : List Tn} (h : Kd.C kTn w A L.length (L.map tn)) {i : Nat} {x : Tn} (hx : L[i]? = some x) :
    ∃ ad,A = some ad ∧ w.cell? (ad.add (i * 2)) = some (.string x.1) ∧ w.cell? ⟨(ad.add (i * 2)).block,(ad.add (i * 2)).off + 1,none⟩ = some (.string x.2) := by
  have hi : i < L.length := (List.getElem?_eq_some_iff.1 hx).1
  obtain ⟨ad,rfl,h1,h2⟩ := at_T85 h (i : Int) (by omega) (by omega)
  have e : rd_T85 (L.map tn) (i : Int) = tn x := by
    unfold rd_T85
    rw [Int.toNat_natCast,List.getD_eq_getElem?_getD,List.getElem?_map,hx]
    rfl
  rw [e,Int.toNat_natCast] at h1 h2
  exact ⟨ad,rfl,h1,h2⟩
theorem Ok.ksize {L : List Tn} (h : Ok L) (x : Tn) (hx : x ∈ L) : x.1.size ≤ maxLen := by
  have := (name_size (h.nm x hx)).2
  unfold maxLen
  omega
theorem has_l0 (l : List Nm) (n : Nm) (hl : l.length ≤ 1000000) : ∀ d i k,l.length - i = d → i ≤ l.length → d + 1 < k → verdererlaw09_has.l0 k l n (i : Int) = some (hasN (l.drop i) n) := by
  intro d
  induction d with
  | zero =>
    intro i k hd hi hk
    obtain ⟨k,rfl⟩ : ∃ m,k = m + 1 := ⟨k - 1,by omega⟩
    simp only [verdererlaw09_has.l0]
    rw [if_neg (by omega),List.drop_eq_nil_of_le (by omega)]
    rfl
  | succ d ih =>
    intro i k hd hi hk
    obtain ⟨k,rfl⟩ : ∃ m,k = m + 1 := ⟨k - 1,by omega⟩
    have hlt : i < l.length := by omega
    have e0 : rdOf ByteArray.empty l (i : Int) = l[i] := by
      show l.getD (i : Int).toNat _ = _
      rw [Int.toNat_natCast,List.getD_eq_getElem?_getD,List.getElem?_eq_getElem hlt]
      rfl
    have e1 : l.drop i = l[i] :: l.drop (i + 1) := List.drop_eq_getElem_cons hlt
    have e2 : hasN (l.drop i) n = (decide (l[i] = n) || hasN (l.drop (i + 1)) n) := by rw [e1];rfl
    simp only [verdererlaw09_has.l0]
    rw [if_pos (by omega),if_pos (by omega),e0,e2]
    by_cases h : l[i] = n
    · rw [decide_eq_true h,if_pos (by rw [h])]
      rfl
    · rw [decide_eq_false h,if_neg (fun e : ByteArray.toList l[i] = ByteArray.toList n => by
        have h1 := eqS l[i] n
        rw [decide_eq_false h,e] at h1
        simp at h1),show wrap64 ((i : Int) + 1) = ((i + 1 : Nat) : Int) by unfold wrap64;omega,ih (i + 1) k (by omega) (by omega) (by omega)]
      rfl
theorem has_call {A : Option Addr} {c : Nat} {l : List Nm} {n : Nm} {w : World} (hl : l.length ≤ 1000000) (h0 : Kd.C Kd.string w A l.length l) (hc : l.length ≤ c) :
    Calls Try.prog 53 #[.slice A l.length c,.string n] w fun e w' => e = .returned (.bool (hasN l n)) ∧ Below w.heap.size w w' := by
  refine (verdererlaw09_has.calls (l.length + 2) A c l n (hasN l n) w h0 hc (by
    have := has_l0 l n hl l.length 0 (l.length + 2) (by omega) (Nat.zero_le _) (by omega)
    exact this)).mono ?_
  rintro e w' ⟨rfl,h⟩
  exact ⟨rfl,h.below⟩
theorem has_call' {A : Option Addr} {c m : Nat} {l : List Nm} {n : Nm} {w : World} {bb : Bool} (hm : l.length = m) (hl : m ≤ 1000000) (h0 : Kd.C Kd.string w A m l) (hc : m ≤ c) (hb : hasN l n = bb) :
    Calls Try.prog 53 #[.slice A m c,.string n] w fun e w' => e = .returned (.bool bb) ∧ Below w.heap.size w w' := by
  subst hm
  subst hb
  exact has_call hl h0 hc
theorem has_und {L : List Tn} {x y : Nm} (hx : x ∈ L.map Prod.fst) : hasN (undL L y) x = hasN (abv L x) y := by
  cases h : hasN (abv L x) y with
  | true =>
    rw [hasN_iff]
    unfold undL
    exact List.mem_filter.2 ⟨hx,h⟩
  | false =>
    rw [Bool.eq_false_iff]
    intro h1
    rw [hasN_iff] at h1
    unfold undL at h1
    have := (List.mem_filter.1 h1).2
    rw [h] at this
    cases this
theorem sameW_nx {w1 W w2 : World} (hb : Below W.heap.size W w2) (e : SameW w1 W := by exact ⟨rfl,rfl,rfl,rfl⟩) : Below w1.heap.size w1 w2 := by
  have h1 := (NextW.refl w1).next hb e
  exact h1.below
theorem TreeAt.at_ {w W : World} {t b : Nat} {L : List Tn} (h : TreeAt w t b L) (e : SameW w W := by exact ⟨rfl,rfl,rfl,rfl⟩) : TreeAt W t b L := h.below (e.below _)
def GAct (a : Act9) : Prop := a.f1.size ≤ maxLen ∧ a.f2.size ≤ maxLen
set_option maxHeartbeats 8000000 in
set_option maxRecDepth 100000 in
theorem tenant_right (A : Option Addr) (n c : Nat) (l : List Act9) (w : World) (hC : Kd.C kAct w A n l) (hG : ∀ x ∈ l,GAct x) : Calls Try.prog 9 #[.slice A n c] w fun e w' => e = .returned (.bool true) ∧ Below w.heap.size w w' := by
  have HC := Aside0.mk hC
  have HG := Aside0.mk hG
  have HL := Aside0.mk (show l.length = n from hC.1)
  have hmax : n ≤ 9223372036854775807 := hC.2.1
  clear hC hG
  go_enter Try.func9,Try.ntmps9
  go_wp2_with (fail)
  refine (ten_new w).mono ?_
  rintro e w1 ⟨t,b,rfl,hA,hB,ht,hb⟩
  have A1 := Aside0.mk hA
  have B1 := Aside0.mk (NextW.mk hB hB.size)
  have HB := Aside0.mk hb
  clear hA hB
  go_wp2_with (fail)
  go_loopw [4] (fun iv wr => ∃ (i : Nat) (L : List Tn),iv = .int .i64 (i : Int) ∧ i ≤ n ∧ i ≤ 100 ∧ Aside0 (TreeAt wr t b L) ∧ Aside0 (Ok L) ∧ Aside0 (NextW w.heap.size w wr)) (fun iv _ => 100 - (intOf iv).toNat)
  case atStart => exact ⟨0,[],rfl,Nat.zero_le _,Nat.zero_le _,A1,⟨Ok.nil⟩,B1⟩
  case round =>
    rename World => wr
    clear A1 B1
    obtain ⟨i,L,rfl,hi,hi2,HA,HO,NW⟩ := hrel
    by_cases hlt : i < n ∧ i < 100
    · have k0 : decide ((i : Int) < (n : Int)) = true := decide_eq_true (by omega)
      have k1 : decide ((i : Int) < 100) = true := decide_eq_true (by omega)
      obtain ⟨x,hx⟩ : ∃ x,l[i]? = some x := ⟨l[i]'(by have := HL.out;omega),List.getElem?_eq_getElem (by have := HL.out;omega)⟩
      have HX := Aside0.mk hx
      obtain ⟨ad,rfl,c0,c1,c2⟩ := at_T78 (Kd.C_below HC.out NW.out.below) (i : Int) (by omega) (by omega)
      have e0 : rd_T78 l (i : Int) = x := by
        unfold rd_T78
        rw [Int.toNat_natCast,List.getD_eq_getElem?_getD,hx]
        rfl
      rw [e0,Int.toNat_natCast] at c0 c1 c2
      have XG := Aside0.mk (HG.out x (List.mem_of_getElem? HX.out))
      have p0 : (0 : Int) ≤ (i : Int) := by omega
      have p1 : (i : Int) < (n : Int) := by omega
      have hlt1 := hlt.1
      have hlt2 := hlt.2
      clear hx e0 hlt
      have AD := Aside0.mk (HA.out.below (below_drew (Below.refl _ _)))
      have hbN : w.heap.size ≤ b := HB.out
      cases h0 : (x.f0.tmod 3 == 0) with
      | true =>
        have PD := Aside0.mk (show actP L x = (addP L x.f1 x.f2).2 by unfold actP;rw [if_pos (eq_of_beq h0)])
        go_wp2_with (fail)
        go_still_tail 11,(by kernel_rfl)
        change wpList _ _ _ _ _ wr.drew
        go_wp2_with (fail)
        refine (ten_add AD.out HO.out x.f1 x.f2 XG.out.1 XG.out.2).mono ?_
        rintro e w2 ⟨rfl,hA2,hg2⟩
        rw [← PD.out] at hA2
        have A2 := Aside0.mk hA2
        have O2 := Aside0.mk (HO.out.actP HA.out.names x)
        have N2 := Aside0.mk (show NextW w.heap.size w w2 from ⟨(NW.out.at_ (SameW.drew wr)).grown hg2 NW.out.le (fun k e => by cases e;exact hbN),Nat.le_trans NW.out.le hg2.size⟩)
        clear hA2 hg2
        go_wp2_with (fail)
        go_roundw
        case rel => exact ⟨i + 1,actP L x,by go_num,by omega,by omega,A2,O2,N2⟩
        case measure => simp [intOf];omega
      | false =>
        cases h1 : (x.f0.tmod 3 == 1) with
        | true =>
          have PD := Aside0.mk (show actP L x = (moveP L x.f1 x.f2).2 by unfold actP;rw [if_neg (fun e => by rw [e] at h0;cases h0),if_pos (eq_of_beq h1)])
          go_wp2_with (fail)
          go_still_tail 11,(by kernel_rfl)
          change wpList _ _ _ _ _ wr.drew
          go_wp2_with (fail)
          refine (ten_move AD.out HO.out x.f1 x.f2 XG.out.1 XG.out.2).mono ?_
          rintro e w2 ⟨rfl,hA2,hg2⟩
          rw [← PD.out] at hA2
          have A2 := Aside0.mk hA2
          have O2 := Aside0.mk (HO.out.actP HA.out.names x)
          have N2 := Aside0.mk (show NextW w.heap.size w w2 from ⟨(NW.out.at_ (SameW.drew wr)).grown hg2 NW.out.le (fun k e => by cases e;exact hbN),Nat.le_trans NW.out.le hg2.size⟩)
          clear hA2 hg2
          go_wp2_with (fail)
          go_roundw
          case rel => exact ⟨i + 1,actP L x,by go_num,by omega,by omega,A2,O2,N2⟩
          case measure => simp [intOf];omega
        | false =>
          have PD := Aside0.mk (show actP L x = (dropP L x.f1).2 by unfold actP;rw [if_neg (fun e => by rw [e] at h0;cases h0),if_neg (fun e => by rw [e] at h1;cases h1)])
          go_wp2_with (fail)
          refine (ten_drop HA.out HO.out x.f1 XG.out.1).mono ?_
          rintro e w2 ⟨rfl,hA2,hg2⟩
          rw [← PD.out] at hA2
          have A2 := Aside0.mk hA2
          have O2 := Aside0.mk (HO.out.actP HA.out.names x)
          have N2 := Aside0.mk (show NextW w.heap.size w w2 from ⟨NW.out.below.grown hg2 NW.out.le (fun k e => by cases e;exact hbN),Nat.le_trans NW.out.le hg2.size⟩)
          clear hA2 hg2
          go_wp2_with (fail)
          go_roundw
          case rel => exact ⟨i + 1,actP L x,by go_num,by omega,by omega,A2,O2,N2⟩
          case measure => simp [intOf];omega
    · have kk : (decide ((100 : Int) < (n : Int)) = true ∧ i = 100) ∨ i = n := by
        by_cases hn : i < n
        · exact .inl ⟨decide_eq_true (by omega),by omega⟩
        · exact .inr (by omega)
      clear hlt hi hi2 HC HG HL hmax
      rcases kk with ⟨k1,hik⟩ | hik
      all_goals
        subst hik
        go_wp2_with (fail)
        refine (ten_all HA.out HO.out).mono ?_
        rintro e w2 ⟨v,rfl,hN,hb2⟩
        have A2 := Aside0.mk (HA.out.below hb2)
        have W2 := Aside0.mk (NW.out.next hb2)
        obtain ⟨Al,cl,rfl,hcl,hCl⟩ := Kd.N_reads hN
        rw [List.length_map] at hcl hCl ⊢
        have CL := Aside0.mk hCl
        have h24 := HO.out.len
        have q24 : decide ((24 : Int) < (L.length : Int)) = false := decide_eq_false (by omega)
        clear hb2 hN hCl hcl HA NW
        go_wp2_with (fail)
        go_loopw [6] (fun iv wr => ∃ i : Nat,iv = .int .i64 (i : Int) ∧ i ≤ L.length ∧ Aside0 (NextW w2.heap.size w2 wr)) (fun iv _ => L.length - (intOf iv).toNat)
        case atStart => exact ⟨0,rfl,Nat.zero_le _,⟨NextW.refl _⟩⟩
        case round =>
          rename World => wr
          obtain ⟨j,rfl,hj,NW⟩ := hrel
          by_cases hlt : j < L.length
          · have k2 : decide ((j : Int) < (L.length : Int)) = true := decide_eq_true (by omega)
            obtain ⟨x,hx⟩ : ∃ x,L[j]? = some x := ⟨L[j],List.getElem?_eq_getElem hlt⟩
            obtain ⟨ad,rfl,c0,_⟩ := row_at (Kd.C_below CL.out NW.out.below) hx
            have HX := Aside0.mk hx
            have A3 := Aside0.mk (A2.out.below NW.out.below)
            have p0 : (0 : Int) ≤ (j : Int) := by omega
            have p1 : (j : Int) < (L.length : Int) := by omega
            have HXS := Aside0.mk (HO.out.ksize x (List.mem_of_getElem? hx))
            have HGX := Aside0.mk (getT_at A3.out.names hx)
            clear hx
            go_wp2_with (fail)
            refine (ten_above A3.out.v HO.out.sh HO.out.psize x.1 HXS.out).mono ?_
            rintro e w4 ⟨v4,rfl,hrow,hb4⟩
            obtain ⟨Au,cu,rfl,hcu,hCu⟩ := hrow.reads
            obtain ⟨U,hU⟩ : ∃ U,abv L x.1 = U := ⟨_,rfl⟩
            have HU := Aside0.mk hU
            have UL := abv_len HO.out.sh x.1
            obtain ⟨ur,hur⟩ := abv_head HO.out.sh (show getT L x.1 ≠ none by rw [HGX.out];simp)
            rw [hU] at hcu hCu UL hur ⊢
            have UC := Aside0.mk hCu
            have UK := Aside0.mk hcu
            have A4 := Aside0.mk (A3.out.below hb4)
            have N4 := Aside0.mk (NW.out.next hb4)
            have UP := Aside0.mk (show 1 ≤ U.length by rw [hur];simp)
            obtain ⟨au,rfl,u0⟩ : ∃ au,Au = some au ∧ w4.cell? au = some (.string x.1) := by
              obtain ⟨au,cs,rfl,_,hcs,hcell⟩ := Kd.C_get hCu emp 0 (by omega) (by have := UP.out;omega)
              refine ⟨au,rfl,?_⟩
              have h1 : cs = [.string (U.getD (0 : Int).toNat emp)] := hcs
              have h2 := hcell 0 (.string x.1) (by rw [h1,hur];rfl)
              rw [← h2]
              rfl
            obtain ⟨m,hm⟩ : ∃ m,U.length = m := ⟨_,rfl⟩
            have HM := Aside0.mk hm
            have m1 : (1 : Int) ≤ (m : Int) := by have := UP.out;omega
            have m0 : 0 < m := by omega
            have m5 : (m : Int) ≤ 5 := by omega
            rw [hm]
            have q1 : decide ((m : Int) < 1) = false := decide_eq_false (by omega)
            have q5 : decide ((5 : Int) < (m : Int)) = false := decide_eq_false (by omega)
            have e0 := (hb4.cell (p := ad.add (j * 2)) (World.block_lt_of_cell? _ _ c0)).trans c0
            have q6 : (ByteArray.toList x.1 == ByteArray.toList x.1) = true := by simp
            clear hb4 hrow hCu hcu hU hm hur UL NW A3 c0
            go_wp2_with (fail)
            go_region_held3 (fun w' => w'.cell? au = some (.string x.1) ∧ w'.cell? (ad.add (j * 2)) = some (.string x.1)) (first | go_keep | exact ⟨by assumption,by assumption⟩) (first
              | (go_at_call 52;(with_reducible refine (ten_depth (A4.out.at_ (W := _)).v HO.out.sh HO.out.psize x.1 HXS.out).mono ?_);rintro e w6 ⟨h6,hb6⟩;rw [HU.out,HM.out] at h6;subst h6;replace u0 := (hb6.cell (World.block_lt_of_cell? _ _ u0)).trans u0;replace e0 := (hb6.cell (World.block_lt_of_cell? _ _ e0)).trans e0;have A6 := Aside0.mk ((A4.out.at_ (W := _)).below hb6);have N6 := Aside0.mk (N4.out.next hb6);have U6 := Aside0.mk (Kd.C_below UC.out (sameW_nx (w1 := w4) hb6));clear hb6))
            clear A4 N4 UC u0 e0
            go_wp2_with (fail)
            go_loopw [8] (fun iv wr => ∃ i : Nat,iv = .int .i64 (i : Int) ∧ i ≤ L.length ∧ Aside0 (NextW w6.heap.size w6 wr)) (fun iv _ => L.length - (intOf iv).toNat)
            case atStart => exact ⟨0,rfl,Nat.zero_le _,⟨NextW.refl _⟩⟩
            case round =>
              rename World => wr
              obtain ⟨k,rfl,hk,NW⟩ := hrel
              by_cases hlt2 : k < L.length
              · have k3 : decide ((k : Int) < (L.length : Int)) = true := decide_eq_true (by omega)
                have NC := Aside0.mk (N6.out.next NW.out.below)
                obtain ⟨y,hy⟩ : ∃ y,L[k]? = some y := ⟨L[k],List.getElem?_eq_getElem hlt2⟩
                have d0 : wr.cell? (ad.add (k * 2)) = some (.string y.1) := by
                  obtain ⟨ad2,e,c0,_⟩ := row_at (Kd.C_below CL.out NC.out.below) hy
                  cases e
                  exact c0
                have b0 : wr.cell? (ad.add (j * 2)) = some (.string x.1) := by
                  obtain ⟨ad2,e,c0,_⟩ := row_at (Kd.C_below CL.out NC.out.below) HX.out
                  cases e
                  exact c0
                have YS := Aside0.mk (HO.out.ksize y (List.mem_of_getElem? hy))
                have A7 := Aside0.mk (A6.out.below NW.out.below)
                have U7 := Aside0.mk (show Kd.C Kd.string wr (some au) m U from HM.out ▸ (Kd.C_below U6.out NW.out.below))
                have r0 : (0 : Int) ≤ (k : Int) := by omega
                have r1 : (k : Int) < (L.length : Int) := by omega
                have HQ := Aside0.mk (show hasN (undL L y.1) x.1 = hasN U y.1 from HU.out ▸ has_und (List.mem_map.2 ⟨x,List.mem_of_getElem? HX.out,rfl⟩))
                obtain ⟨bb,hbb⟩ : ∃ bb,hasN U y.1 = bb := ⟨_,rfl⟩
                have HB2 := Aside0.mk hbb
                have h7 : (bb != bb) = false := by cases bb <;> rfl
                have h8 : (bb == bb) = true := by cases bb <;> rfl
                have UL := Aside0.mk (show (undL L y.1).length ≤ 1000000 by have := und_lenL L y.1;omega)
                have mm : m ≤ 1000000 := by omega
                have MM := Aside0.mk mm
                have MK := Aside0.mk (show m ≤ cu from HM.out ▸ UK.out)
                clear hy hbb mm
                go_wp2_with (fail)
                go_region_held3 (fun w' => w'.cell? (ad.add (k * 2)) = some (.string y.1) ∧ w'.cell? (ad.add (j * 2)) = some (.string x.1)) (first | go_keep | exact ⟨by assumption,by assumption⟩) (first
                  | (go_at_call 54;(with_reducible refine (ten_under (A7.out.at_ (W := _)) HO.out.sh HO.out.psize (by omega) y.1).mono ?_);rintro e w7 ⟨v7,rfl,hrow7,hb7⟩;obtain ⟨Au,c7,rfl,hc7,hC7⟩ := hrow7.reads;obtain ⟨m7,hm7⟩ : ∃ m7,(undL L y.1).length = m7 := ⟨_,rfl⟩;rw [hm7] at hc7 hC7 ⊢;replace d0 := (hb7.cell (World.block_lt_of_cell? _ _ d0)).trans d0;replace b0 := (hb7.cell (World.block_lt_of_cell? _ _ b0)).trans b0;have M7 := Aside0.mk hm7;have K7 := Aside0.mk hc7;have C7 := Aside0.mk hC7;have N7 := Aside0.mk (NW.out.next hb7);have U8 := Aside0.mk (Kd.C_below U7.out (sameW_nx (w1 := wr) hb7));clear hb7 hrow7 hC7 hc7 hm7)
                  | (go_at_call 53;(with_reducible refine (has_call' M7.out (M7.out ▸ UL.out) (Kd.C_below C7.out (SameW.below (W := _) (by exact ⟨rfl,rfl,rfl,rfl⟩) _)) K7.out (HQ.out.trans HB2.out)).mono ?_);rintro e w8 ⟨rfl,hb8⟩;replace d0 := (hb8.cell (World.block_lt_of_cell? _ _ d0)).trans d0;replace b0 := (hb8.cell (World.block_lt_of_cell? _ _ b0)).trans b0;have N8 := Aside0.mk (N7.out.next hb8);have U9 := Aside0.mk (Kd.C_below U8.out (sameW_nx (w1 := w7) hb8));clear hb8 C7)
                  | (go_at_call 53;(with_reducible refine (has_call' HM.out MM.out (Kd.C_below U9.out (SameW.below (W := _) (by exact ⟨rfl,rfl,rfl,rfl⟩) _)) MK.out HB2.out).mono ?_);rintro e w9 ⟨rfl,hb9⟩;replace d0 := (hb9.cell (World.block_lt_of_cell? _ _ d0)).trans d0;replace b0 := (hb9.cell (World.block_lt_of_cell? _ _ b0)).trans b0;have N9 := Aside0.mk (N8.out.next hb9);clear hb9 U9))
                clear NW
                go_wp2_with (fail)
                go_roundw
                case rel => exact ⟨k + 1,by go_num,by omega,N9⟩
                case measure => simp [intOf];omega
              · have k3 : decide ((k : Int) < (L.length : Int)) = false := decide_eq_false (by omega)
                go_wp2_with (fail)
                go_roundw
                case rel => exact ⟨j + 1,by go_num,by omega,⟨N6.out.next NW.out.below⟩⟩
                case measure => simp [intOf];omega
          · have k2 : decide ((j : Int) < (L.length : Int)) = false := decide_eq_false (by omega)
            go_wp2_with (fail)
            refine (known09 _).mono ?_
            rintro e w4 ⟨rfl,hb4⟩
            have B4 := Aside0.mk (((W2.out.next NW.out.below).next hb4).below)
            clear hb4 NW
            go_wp2_with (fail)
            go_ret
            exact ⟨rfl,B4.out⟩
end Go.Proofs.Ythfaimomcbmniaa.Z
end
section
namespace Go.Proofs.Ythfaimomcbmniaa.Z
set_option linter.unusedVariables false
open Go.RowKit Go.Proofs.YthfaimomcbmniaaW.PrintWords Go.Proofs.YthfaimomcbmniaaW.PrintLast Go.Proofs.YthfaimomcbmniaaW.PrintMore
open Classical in
noncomputable def verdererlaw09_TenantRight.f (l0 : List S78) : Option (Bool) := if ∀ x ∈ l0,GAct x then some true else none
theorem verdererlaw09_TenantRight.calls (A0 : Option Addr) (c0 : Nat) (l0 : List S78) (r : Bool) (w : World) (hC0 : Kd.C k78 w A0 l0.length l0) (hl0 : l0.length ≤ c0) (h : verdererlaw09_TenantRight.f l0 = some r) :
    Calls Try.prog 9 #[.slice A0 l0.length c0] w fun e w' => e = .returned (.bool r) ∧ Below w.heap.size w w' := by
  unfold verdererlaw09_TenantRight.f at h
  by_cases hn : ∀ x ∈ l0,GAct x
  · rw [if_pos hn] at h
    obtain rfl := Option.some.inj h
    exact tenant_right A0 l0.length c0 l0 w hC0 hn
  · rw [if_neg hn] at h
    cases h
end Go.Proofs.Ythfaimomcbmniaa.Z
end
