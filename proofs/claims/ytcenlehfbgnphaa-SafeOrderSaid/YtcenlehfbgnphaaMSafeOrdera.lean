/-
  verdererlaw03.SafeOrder: for every input the law returns true, and each argument reads behind the call as it read before. No condition.
-/
import Derived.Below
import Derived.Deep.Draws
import Derived.Deep.AppendLies
import Derived.Maps.AppendAt
import Derived.OwnWalk
import Derived.Laws.BytesArg
import Derived.Laws.MakeOwn
import Derived.Laws.OwnMore
import Derived.Deep.OwnRows
import Derived.Tactics
import Derived.Lib.ConvBytes
import Derived.Laws.Slices
import Derived.WalkKit
import Derived.KernelRfl
import Derived.RowKit3
import Derived.Deep.LoopGhost
import Derived.Deep.QuietTactic
import Derived.BigQuiet
import Derived.WideLaws
import Derived.Deep.DeepCutAuto
import Derived.Deep.CutBlock
import Derived.Deep.RegionHeld3
import Derived.Laws.Rows
import Derived.Lib.AppendStr
import Derived.ArgAppend
import Derived.Laws.IdiomCopy
import Derived.RowKit
import Derived.OrdersHeld
import Derived.Laws.BitsLemmas
import Derived.Laws.StructEq
import Derived.Test.YtcenlehfbgnphaaProg
import Derived.RegionTactic
import Derived.BigRegion
import Derived.ChangeAlike
import Derived.Laws.Bits64
import Derived.ChangeKeysEq
import Derived.StillTailTactics
import Derived.Outline
import Derived.Deep.Slices
import Derived.ProofKit
import Derived.Test.YtcenlehfbgnphaaRows
import Derived.OpenShut
import Derived.ShutString
import Derived.ChangeOld
namespace Go.Proofs.Ytcenlehfbgnphaa.Z
theorem zA {T : Type _} (l : List T) (i : Nat) (a : T) : l.toArray.setIfInBounds i a = (l.set i a).toArray := by simp
theorem zB {T : Type _} (x : T) (xs : List T) (a : T) : (x :: xs).set 0 a = a :: xs := rfl
theorem zC {T : Type _} (x : T) (xs : List T) (n : Nat) (a : T) : (x :: xs).set (n+1) a = x :: xs.set n a := rfl
end Go.Proofs.Ytcenlehfbgnphaa.Z
section
set_option linter.unusedVariables false
set_option linter.unusedSimpArgs false
namespace Go.Proofs.YtcenlehfbgnphaaW.PrintWords
open Go.RowKit
structure Aside0 (p : Prop) : Prop where mk :: (out : p)
structure Drawn0 (w w' : World) : Prop where mk :: (out : ∃ n,w' = w.drewN n)
theorem Drawn0.refl (w : World) : Drawn0 w w := ⟨⟨0,rfl⟩⟩
theorem Drawn0.step {w w' : World} (h : Drawn0 w w') (n : Nat) : Drawn0 w (w'.drewN n) := by
  obtain ⟨m,rfl⟩ := h
  exact ⟨⟨m + n,World.drewN_drewN ..⟩⟩
theorem Drawn0.below {w w' : World} (h : Drawn0 w w') : Below w.heap.size w w' := by
  obtain ⟨n,rfl⟩ := h
  induction n with
  | zero => exact Below.refl _ _
  | succ n ih => rw [← World.drew_drewN];exact ih.drew
theorem below_alloc {w W : World} (h : Below w.heap.size w W) (o : Obj) : Below w.heap.size w (W.alloc o) := h.alloc h.size o
theorem below_drew {B : Nat} {w W : World} (h : Below B w W) : Below B w W.drew := ⟨h.os,h.tape,h.output,h.size,h.block⟩
theorem pw_below_drewN {B : Nat} {w W : World} (h : Below B w W) (n : Nat) : Below B w (W.drewN n) := ⟨h.os,h.tape,h.output,h.size,h.block⟩
theorem grown_of_below {w w1 : World} (h : Below w.heap.size w w1) (row : Option Nat) : w.grownBy w1 row := ⟨h.os,h.tape,h.output,h.size,fun i hi _ => h.block i hi⟩
theorem pw_cell_below {w w1 : World} (h : Below w.heap.size w w1) {a : Addr} {v : Value} (hc : w.cell? a = some v) : w1.cell? a = some v := (h.cell (World.block_lt_of_cell? w a hc)).trans hc
def ReadsInt (w : World) (k : IntKind) (A : Option Addr) (n : Nat) (xs : List Int) : Prop :=
  xs.length = n ∧ n ≤ 9223372036854775807 ∧ (0 < n → ∃ ad,A = some ad ∧ ∀ j,j < n → w.cell? (ad.add j) = some (.int k (xs.getD j 0)))
theorem ReadsInt.below {w w1 : World} {k : IntKind} {A : Option Addr} {n : Nat} {xs : List Int} (h : ReadsInt w k A n xs) (hb : Below w.heap.size w w1) : ReadsInt w1 k A n xs :=
  ⟨h.1,h.2.1,fun hn => by
    obtain ⟨ad,e,hc⟩ := h.2.2 hn
    exact ⟨ad,e,fun j hj => pw_cell_below hb (hc j hj)⟩⟩
theorem own_base {w : World} {base : Nat} {e : TypeId} {size n : Nat} {v : Value} {xs : List Value} (h : w.ownsRow base e size v n xs) (k : Nat) (hk : v.ownBlock = some k) : base ≤ k := by
  rcases h.2 with ⟨rfl,_⟩ | ⟨g,cap,cur,rfl,hb,_⟩
  · simp [Value.ownBlock] at hk
  · have : g = k := by simpa [Value.ownBlock] using hk
    omega
theorem own_lt {w : World} {base : Nat} {e : TypeId} {size n : Nat} {v : Value} {xs : List Value} (h : w.ownsRow base e size v n xs) (k : Nat) (hk : v.ownBlock = some k) : k < w.heap.size := by
  rcases h.2 with ⟨rfl,_⟩ | ⟨g,cap,cur,rfl,hb,hh,_⟩
  · simp [Value.ownBlock] at hk
  · have : g = k := by simpa [Value.ownBlock] using hk
    subst this
    exact (Array.getElem?_eq_some_iff.1 hh).1
theorem pw_own_below {w w1 : World} {base : Nat} {e : TypeId} {size n : Nat} {v : Value} {xs : List Value} (h : w.ownsRow base e size v n xs) (hb : Below w.heap.size w w1) : w1.ownsRow base e size v n xs :=
  h.kept (grown_of_below hb none) (by cases v.ownBlock <;> simp)
theorem own_other {w w1 : World} {base : Nat} {e : TypeId} {size n : Nat} {v : Value} {xs : List Value} (h : w.ownsRow base e size v n xs) {row : Option Nat} (hg : w.grownBy w1 row) (hne : v.ownBlock = none ∨ v.ownBlock ≠ row) : w1.ownsRow base e size v n xs := h.kept hg hne
section
variable {P : Program} {ops : Array Oper} {rest : List Oper} {o : Oper} {a : Act} {Q : Exit → Act → World → Prop}
end
section
variable {P : Program}
end
section
variable {P : Program} {ops : Array Oper} {rest : List Oper} {o : Oper} {a : Act} {Q : Exit → Act → World → Prop}
end
def LeO {α : Type} (a b : Option α) : Prop := ∀ r,a = some r → b = some r
theorem LeO.refl {α : Type} (a : Option α) : LeO a a := fun _ h => h
theorem LeO.none {α : Type} (b : Option α) : LeO Option.none b := fun _ h => by cases h
theorem LeO.trans {α : Type} {a b c : Option α} (h : LeO a b) (k : LeO b c) : LeO a c := fun r hr => k r (h r hr)
theorem LeO.bind {α β : Type} {a a' : Option α} {f f' : α → Option β} (h : LeO a a') (k : ∀ x,LeO (f x) (f' x)) : LeO (a.bind f) (a'.bind f') := by
  intro r hr
  obtain ⟨x,hx,hf⟩ := Option.bind_eq_some_iff.1 hr
  exact Option.bind_eq_some_iff.2 ⟨x,h x hx,k x r hf⟩
theorem LeO.map {α β : Type} {a a' : Option α} (f : α → β) (h : LeO a a') : LeO (a.map f) (a'.map f) := by
  intro r hr
  obtain ⟨x,hx,hf⟩ := Option.map_eq_some_iff.1 hr
  exact Option.map_eq_some_iff.2 ⟨x,h x hx,hf⟩
def Reps {α : Type} (R : α → List Value → Prop) (size : Nat) (ps : List α) (cs : List Value) : Prop :=
  cs.length = ps.length * size ∧ ∀ j p,ps[j]? = some p → R p ((cs.drop (j * size)).take size)
theorem Reps.none {α : Type} (R : α → List Value → Prop) (size : Nat) : Reps R size [] [] := ⟨by simp,fun j p h => by simp at h⟩
theorem Reps.imp_ {α : Type} {R R' : α → List Value → Prop} {size : Nat} {ps : List α} {cs : List Value} (h : Reps R size ps cs) (hR : ∀ p c,R p c → R' p c) : Reps R' size ps cs := ⟨h.1,fun j p hj => hR _ _ (h.2 j p hj)⟩
def ReadsRow {α : Type} (R : α → List Value → Prop) (size : Nat) (w : World) (A : Option Addr) (n : Nat) (ps : List α) : Prop :=
  ps.length = n ∧ n ≤ 9223372036854775807 ∧ (0 < n → ∃ ad,A = some ad ∧ ∀ j p,ps[j]? = some p → ∃ c,c.length = size ∧ R p c ∧ ∀ i u,c[i]? = some u → w.cell? (ad.add (j * size + i)) = some u)
theorem ReadsRow.get_ {α : Type} {R : α → List Value → Prop} {size : Nat} {w : World} {A : Option Addr} {n : Nat} {ps : List α} (h : ReadsRow R size w A n ps) (d : α) (i : Int) (h0 : 0 ≤ i) (h1 : i < n) :
    ∃ ad c,A = some ad ∧ c.length = size ∧ R (ps.getD i.toNat d) c ∧ ∀ j u,c[j]? = some u → w.cell? (ad.add (i.toNat * size + j)) = some u := by
  obtain ⟨ad,e,hc⟩ := h.2.2 (by omega)
  have hl : i.toNat < ps.length := by have := h.1;omega
  obtain ⟨c,hs,hr,hcell⟩ := hc i.toNat _ (List.getElem?_eq_getElem hl)
  refine ⟨ad,c,e,hs,?_,hcell⟩
  rw [List.getD_eq_getElem?_getD,List.getElem?_eq_getElem hl]
  exact hr
theorem ReadsRow.imp_ {α : Type} {R R' : α → List Value → Prop} {size : Nat} {w w1 : World} {A : Option Addr} {n : Nat} {ps : List α} (h : ReadsRow R size w A n ps) (hb : Below w.heap.size w w1) (hR : ∀ p c,R p c → R' p c) : ReadsRow R' size w1 A n ps :=
  ⟨h.1,h.2.1,fun hn => by
    obtain ⟨ad,e,hc⟩ := h.2.2 hn
    refine ⟨ad,e,fun j p hj => ?_⟩
    obtain ⟨c,hs,hr,hcell⟩ := hc j p hj
    exact ⟨c,hs,hR _ _ hr,fun i u hu => pw_cell_below hb (hcell i u hu)⟩⟩
theorem own_reads_row {α : Type} {R : α → List Value → Prop} {w : World} {base n size : Nat} {e : TypeId} {v : Value} {ps : List α} {cs : List Value} (h : w.ownsRow base e size v n cs) (hR : Reps R size ps cs) (hn : ps.length = n) :
    ∃ A c,v = .slice A n c ∧ ReadsRow R size w A n ps := by
  rcases Nat.eq_zero_or_pos n with h0 | h0
  · rcases h.2 with ⟨rfl,rfl⟩ | ⟨g,cap,cur,rfl,_⟩
    · exact ⟨none,0,rfl,hn,by omega,fun hp => absurd hp (by omega)⟩
    · exact ⟨_,cap,rfl,hn,by omega,fun hp => absurd hp (by omega)⟩
  · obtain ⟨g,cap,rfl,_,_⟩ := h.form h0
    have hm : n ≤ 9223372036854775807 := by
      rcases h.2 with ⟨_,h1⟩ | ⟨g',cap',cur,he,_,_,h1,h2,_⟩
      · omega
      · simp only [maxLen] at h2
        omega
    refine ⟨_,cap,rfl,hn,hm,fun _ => ⟨_,rfl,fun j p hj => ⟨(cs.drop (j * size)).take size,?_,hR.2 j p hj,fun i u hu => ?_⟩⟩⟩
    · have hjl := (List.getElem?_eq_some_iff.1 hj).1
      have h1 : j * size + size ≤ cs.length := by rw [hR.1,← Nat.succ_mul];exact Nat.mul_le_mul_right _ hjl
      rw [List.length_take,List.length_drop]
      omega
    · refine h.cells (g := g) rfl _ u ?_
      rw [List.getElem?_take] at hu
      split at hu
      · rw [List.getElem?_drop] at hu
        exact hu
      · cases hu
theorem add_field (ad : Addr) (m j : Nat) (hj : 0 < j) : ad.add (m + j) = ⟨(ad.add m).block,(ad.add m).off + j,none⟩ := by
  unfold Addr.add
  by_cases hm : m = 0
  · subst hm
    simp [Nat.ne_of_gt hj]
  · simp [hm,Nat.add_assoc]
section
variable {P : Program} {ops : Array Oper} {rest : List Oper} {o : Oper} {a : Act} {Q : Exit → Act → World → Prop}
end
theorem blk_set {w : World} {g : Nat} {t : TypeId} {cs : Array Value} (h : w.heap[g]? = some (.cells cs t (0,0))) (i : Nat) (u : Value) : (w.setCell ⟨g,i,none⟩ u).heap[g]? = some (.cells (cs.setIfInBounds i u) t (0,0)) := by
  simp [World.setCell,Array.getElem?_modify,h]
theorem blk_lt {w : World} {g : Nat} {o : Obj} (h : w.heap[g]? = some o) : g < w.heap.size := (Array.getElem?_eq_some_iff.1 h).1
theorem blk_cell {w : World} {g : Nat} {t : TypeId} {cs : Array Value} (h : w.heap[g]? = some (.cells cs t (0,0))) (i : Nat) : w.cell? ⟨g,i,none⟩ = cs[i]? := cell_of_row w g i cs t (0,0) h
theorem blk_frozen {w : World} {g : Nat} {t : TypeId} {cs : Array Value} (h : w.heap[g]? = some (.cells cs t (0,0))) (i : Nat) : w.frozen? ⟨g,i,none⟩ = false := by simp [World.frozen?,h]
def KeepBut (w w' : World) (g : Nat) (row : Option Nat) : Prop := w.heap.size ≤ w'.heap.size ∧ ∀ i,i < w.heap.size → i ≠ g → some i ≠ row → w'.heap[i]? = w.heap[i]?
theorem KeepBut.refl (w : World) (g : Nat) (row : Option Nat) : KeepBut w w g row := ⟨Nat.le_refl _,fun _ _ _ _ => rfl⟩
theorem KeepBut.of_below {w w1 : World} (h : Below w.heap.size w w1) (g : Nat) (row : Option Nat) : KeepBut w w1 g row := ⟨h.size,fun i hi _ _ => h.block i hi⟩
theorem KeepBut.trans {w w1 w2 : World} {g : Nat} {row row1 : Option Nat} (h : KeepBut w w1 g row) (k : KeepBut w1 w2 g row1) (hr : row1 = row ∨ ∃ b,row1 = some b ∧ w.heap.size ≤ b) : KeepBut w w2 g row :=
  ⟨Nat.le_trans h.1 k.1,fun i hi hg hn => by
    refine (k.2 i (Nat.lt_of_lt_of_le hi h.1) hg ?_).trans (h.2 i hi hg hn)
    rcases hr with rfl | ⟨b,rfl,hb⟩
    · exact hn
    · intro e
      injection e with e
      omega⟩
theorem KeepBut.blk {w w1 : World} {g g' : Nat} {row : Option Nat} {o : Obj} (h : KeepBut w w1 g row) (hb : w.heap[g']? = some o) (hg : g' ≠ g) (hr : some g' ≠ row) : w1.heap[g']? = some o := (h.2 g' (blk_lt hb) hg hr).trans hb
theorem KeepBut.own {w w1 : World} {g : Nat} {row : Option Nat} {base : Nat} {e : TypeId} {size n : Nat} {v : Value} {xs : List Value} (h : KeepBut w w1 g row) (ho : w.ownsRow base e size v n xs) (hg : v.ownBlock ≠ some g) (hr : v.ownBlock = none ∨ v.ownBlock ≠ row) : w1.ownsRow base e size v n xs := by
  obtain ⟨h1,h2⟩ := ho
  refine ⟨h1,?_⟩
  rcases h2 with h2 | ⟨b,cap,cur,rfl,hb,hh,r⟩
  · exact .inl h2
  · refine .inr ⟨b,cap,cur,rfl,hb,h.blk hh ?_ ?_,r⟩
    · intro e
      exact hg (by rw [← e];rfl)
    · rcases hr with hr | hr
      · simp [Value.ownBlock] at hr
      · exact hr
def Ev {α : Type} (g : Nat → Option α) (r : α) : Prop := ∃ K,∀ k,K ≤ k → g k = some r
theorem Ev.bind {α β : Type} {g : Nat → Option α} {f : Nat → α → Option β} {a : α} {r : β} (h : Ev g a) (k : Ev (fun n => f n a) r) : Ev (fun n => (g n).bind (f n)) r := by
  obtain ⟨K,h⟩ := h
  obtain ⟨K',k⟩ := k
  refine ⟨max K K',fun n hn => ?_⟩
  have h1 := h n (by omega)
  have h2 := k n (by omega)
  simp only [h1,Option.bind_some]
  exact h2
theorem Ev.step {α : Type} {g f : Nat → Option α} {r : α} (h : ∀ k,g (k + 1) = f k) (k : Ev f r) : Ev g r := by
  obtain ⟨K,k⟩ := k
  refine ⟨K + 1,fun n hn => ?_⟩
  obtain ⟨m,rfl⟩ : ∃ m,n = m + 1 := ⟨n - 1,by omega⟩
  rw [h]
  exact k m (by omega)
theorem Ev.congr {α : Type} {g f : Nat → Option α} {r : α} (h : ∀ k,g k = f k) (k : Ev f r) : Ev g r := by
  obtain ⟨K,k⟩ := k
  exact ⟨K,fun n hn => (h n).trans (k n hn)⟩
section
variable {P : Program} {ops : Array Oper} {o : Oper} {a : Act} {Q : Exit → Act → World → Prop} {K : Act → World → Prop}
end
theorem own_weaken {w : World} {base base' : Nat} {e : TypeId} {size n : Nat} {v : Value} {xs : List Value} (h : w.ownsRow base e size v n xs) (hb : base' ≤ base) : w.ownsRow base' e size v n xs := by
  obtain ⟨h1,h2⟩ := h
  refine ⟨h1,?_⟩
  rcases h2 with h2 | ⟨g,cap,cur,rfl,hg,r⟩
  · exact .inl h2
  · exact .inr ⟨g,cap,cur,rfl,Nat.le_trans hb hg,r⟩
section
variable {α : Type} {enc : α → Value} {d : α}
def ReadsOf (enc : α → Value) (d : α) (w : World) (A : Option Addr) (n : Nat) (xs : List α) : Prop :=
  xs.length = n ∧ n ≤ 9223372036854775807 ∧ (0 < n → ∃ ad,A = some ad ∧ ∀ j,j < n → w.cell? (ad.add j) = some (enc (xs.getD j d)))
theorem ReadsOf.below {w w1 : World} {A : Option Addr} {n : Nat} {xs : List α} (h : ReadsOf enc d w A n xs) (hb : Below w.heap.size w w1) : ReadsOf enc d w1 A n xs :=
  ⟨h.1,h.2.1,fun hn => by
    obtain ⟨ad,e,hc⟩ := h.2.2 hn
    exact ⟨ad,e,fun j hj => pw_cell_below hb (hc j hj)⟩⟩
end
section
variable {α : Type} {P : Program} {ops : Array Oper} {rest : List Oper} {o : Oper} {a : Act} {Q : Exit → Act → World → Prop}
end
theorem blk_alloc {w : World} {g : Nat} {o : Obj} (h : w.heap[g]? = some o) (o' : Obj) : (w.alloc o').heap[g]? = some o := (Below.heap_alloc w o' g (blk_lt h)).trans h
theorem blk_drew {w : World} {g : Nat} {o : Obj} (h : w.heap[g]? = some o) : w.drew.heap[g]? = some o := h
theorem blk_drewN {w : World} {g : Nat} {o : Obj} (h : w.heap[g]? = some o) (n : Nat) : (w.drewN n).heap[g]? = some o := h
theorem blk_new (w : World) (o : Obj) : (w.alloc o).heap[w.heap.size]? = some o := heap_alloc_new w o
section
variable {P : Program}
end
theorem own_le {w : World} {base n m c size : Nat} {e : TypeId} {A : Option Addr} {xs : List Value} (h : w.ownsRow base e size (.slice A m c) n xs) : m ≤ c := by
  rcases h.2 with ⟨he,_⟩ | ⟨g,cap,cur,he,_,_,hnc,_⟩
  · injection he with _ h2 h3
    omega
  · injection he with _ h2 h3
    omega
def OwnRow {α : Type} (R : α → List Value → Prop) (e : TypeId) (size : Nat) (w : World) (base : Nat) (v : Value) (ps : List α) : Prop :=
  ∃ inner,w.ownsRow base e size v ps.length inner ∧ Reps R size ps inner
section
variable {α : Type} {R R' : α → List Value → Prop} {e : TypeId} {size : Nat} {w w1 : World} {base : Nat} {v : Value} {ps : List α}
theorem OwnRow.imp_ (h : OwnRow R e size w base v ps) (hR : ∀ p c,R p c → R' p c) : OwnRow R' e size w base v ps := by
  obtain ⟨inner,ho,hr⟩ := h
  exact ⟨inner,ho,hr.imp_ hR⟩
theorem OwnRow.below (h : OwnRow R e size w base v ps) (hb : Below w.heap.size w w1) : OwnRow R e size w1 base v ps := by
  obtain ⟨inner,ho,hr⟩ := h
  exact ⟨inner,pw_own_below ho hb,hr⟩
theorem OwnRow.other (h : OwnRow R e size w base v ps) {row : Option Nat} (hg : w.grownBy w1 row) (hne : v.ownBlock = none ∨ v.ownBlock ≠ row) : OwnRow R e size w1 base v ps := by
  obtain ⟨inner,ho,hr⟩ := h
  exact ⟨inner,own_other ho hg hne,hr⟩
theorem OwnRow.reads (h : OwnRow R e size w base v ps) : ∃ A c,v = .slice A ps.length c ∧ ps.length ≤ c ∧ ReadsRow R size w A ps.length ps := by
  obtain ⟨inner,ho,hr⟩ := h
  obtain ⟨A,c,rfl,hrow⟩ := own_reads_row ho hr rfl
  exact ⟨A,c,rfl,own_le ho,hrow⟩
end
section
variable {P : Program} {ops : Array Oper} {rest : List Oper} {o : Oper} {a : Act} {Q : Exit → Act → World → Prop} {α : Type} {R : α → List Value → Prop}
end
section
variable {P : Program} {ops : Array Oper} {o : Oper} {a : Act} {Q : Exit → Act → World → Prop} {K : Act → World → Prop} {α : Type} {R : α → List Value → Prop}
end
section
variable {α : Type} {P : Program}
end
section
variable {P : Program} {ops : Array Oper} {rest : List Oper} {o : Oper} {a : Act} {Q : Exit → Act → World → Prop}
end
structure Kd (α : Type) where
  sz : Nat
  E : List Nat
  K : World → α → List Value → Prop
  M : World → Nat → (Nat → Prop) → α → List Value → Prop
  K_len : ∀ {w x cs},K w x cs → cs.length = sz
  K_one : ∀ {w x cs},K w x cs → ∀ u ∈ cs,u.oneCell' = true
  K_below : ∀ {w w1 : World} {x cs},Below w.heap.size w w1 → K w x cs → K w1 x cs
  K_of_M : ∀ {w base ok x cs},M w base ok x cs → K w x cs
  M_mono : ∀ {w base ok ok' x cs},(∀ k,ok k → ok' k) → M w base ok x cs → M w base ok' x cs
  M_bound : ∀ {w : World} {base ok x cs},M w base ok x cs → M w base (fun k => ok k ∧ base ≤ k ∧ k < w.heap.size ∧ ∃ q,q ∈ E ∧ ∃ cells,w.heap[k]? = some (.cells cells q (0,0))) x cs
  M_move : ∀ {w w1 : World} {base ok x cs},(∀ k,ok k → w1.heap[k]? = w.heap[k]?) → M w base ok x cs → M w1 base ok x cs
  M_lower : ∀ {w base base' ok x cs},base' ≤ base → M w base ok x cs → M w base' ok x cs
theorem own_move {w w1 : World} {base : Nat} {e : TypeId} {size n : Nat} {v : Value} {xs : List Value} (h : w.ownsRow base e size v n xs) (hm : ∀ k,v.ownBlock = some k → w1.heap[k]? = w.heap[k]?) : w1.ownsRow base e size v n xs := by
  obtain ⟨h1,h2⟩ := h
  refine ⟨h1,?_⟩
  rcases h2 with h2 | ⟨g,cap,cur,rfl,hg,hh,r⟩
  · exact .inl h2
  · exact .inr ⟨g,cap,cur,rfl,hg,(hm g (by simp [Value.ownBlock])).trans hh,r⟩
theorem own_typed {w : World} {base : Nat} {e : TypeId} {size n : Nat} {v : Value} {xs : List Value} (h : w.ownsRow base e size v n xs) (k : Nat) (hk : v.ownBlock = some k) : ∃ cells,w.heap[k]? = some (.cells cells e (0,0)) := by
  rcases h.2 with ⟨rfl,_⟩ | ⟨g,cap,cur,rfl,hg,hh,r⟩
  · simp [Value.ownBlock] at hk
  · have : g = k := by simpa [Value.ownBlock] using hk
    subst this
    exact ⟨cur,hh⟩
namespace Kd
def C {α : Type} (d : Kd α) (w : World) (A : Option Addr) (n : Nat) (xs : List α) : Prop := ReadsRow (d.K w) d.sz w A n xs
def R {α : Type} (d : Kd α) (e : Nat) (w : World) (base : Nat) (ok : Nat → Prop) (v : Value) (xs : List α) : Prop :=
  (∀ k,v.ownBlock = some k → ok k) ∧ OwnRow (d.M w base (fun k => ok k ∧ some k ≠ v.ownBlock)) e d.sz w base v xs
section
variable {α : Type} {d : Kd α} {e : Nat} {w w1 : World} {base : Nat} {ok ok' : Nat → Prop} {v : Value} {xs : List α}
theorem C_below {A : Option Addr} {n : Nat} (h : d.C w A n xs) (hb : Below w.heap.size w w1) : d.C w1 A n xs := ReadsRow.imp_ h hb (fun _ _ hp => d.K_below hb hp)
theorem R_mono (h : d.R e w base ok v xs) (hok : ∀ k,ok k → ok' k) : d.R e w base ok' v xs := ⟨fun k hk => hok k (h.1 k hk),h.2.imp_ (fun _ _ hp => d.M_mono (fun k hk => ⟨hok k hk.1,hk.2⟩) hp)⟩
theorem R_bound (h : d.R e w base ok v xs) : d.R e w base (fun k => ok k ∧ base ≤ k ∧ k < w.heap.size ∧ ∃ q,q ∈ e :: d.E ∧ ∃ cells,w.heap[k]? = some (.cells cells q (0,0))) v xs := by
  obtain ⟨h0,inner,ho,hr⟩ := h
  refine ⟨fun k hk => ?_,inner,ho,hr.imp_ (fun _ _ hp => d.M_mono (fun k hk => ?_) (d.M_bound hp))⟩
  · obtain ⟨cells,hc⟩ := own_typed ho k hk
    exact ⟨h0 k hk,own_base ho k hk,own_lt ho k hk,e,List.mem_cons_self,cells,hc⟩
  · obtain ⟨⟨h1,h2⟩,h3,h4,q,hq,hc⟩ := hk
    exact ⟨⟨h1,h3,h4,q,List.mem_cons_of_mem _ hq,hc⟩,h2⟩
theorem R_move (h : d.R e w base ok v xs) (hm : ∀ k,ok k → w1.heap[k]? = w.heap[k]?) : d.R e w1 base ok v xs := by
  obtain ⟨h0,inner,ho,hr⟩ := h
  exact ⟨h0,inner,own_move ho (fun k hk => hm k (h0 k hk)),hr.imp_ (fun _ _ hp => d.M_move (fun k hk => hm k hk.1) hp)⟩
theorem R_lower {base' : Nat} (h : d.R e w base ok v xs) (hb : base' ≤ base) : d.R e w base' ok v xs := by
  obtain ⟨h0,inner,ho,hr⟩ := h
  exact ⟨h0,inner,own_weaken ho hb,hr.imp_ (fun _ _ hp => d.M_lower hb hp)⟩
theorem R_reads (h : d.R e w base ok v xs) : ∃ A c,v = .slice A xs.length c ∧ xs.length ≤ c ∧ d.C w A xs.length xs := by
  obtain ⟨A,c,he,hl,hr⟩ := OwnRow.reads h.2
  exact ⟨A,c,he,hl,hr.imp_ (Below.refl _ _) (fun _ _ hp => d.K_of_M hp)⟩
end
def scalar {α : Type} (enc : α → Value) (h1 : ∀ x,(enc x).oneCell' = true) : Kd α where
  sz := 1
  E := []
  K := fun _ x cs => cs = [enc x]
  M := fun _ _ _ x cs => cs = [enc x]
  K_len := fun h => by rw [h];rfl
  K_one := fun h u hu => by
    rw [h] at hu
    rw [List.mem_singleton.1 hu]
    exact h1 _
  K_below := fun _ h => h
  K_of_M := fun h => h
  M_mono := fun _ h => h
  M_bound := fun h => h
  M_move := fun _ h => h
  M_lower := fun _ h => h
def int (k : IntKind) : Kd Int := scalar (Value.int k) (fun _ => rfl)
def bool : Kd Bool := scalar Value.bool (fun _ => rfl)
def slice {α : Type} (e : Nat) (d : Kd α) : Kd (List α) where
  sz := 1
  E := e :: d.E
  K := fun w xs cs => ∃ A c,cs = [.slice A xs.length c] ∧ xs.length ≤ c ∧ d.C w A xs.length xs
  M := fun w base ok xs cs => ∃ v,cs = [v] ∧ d.R e w base ok v xs
  K_len := by
    rintro w x cs ⟨A,c,rfl,_⟩
    rfl
  K_one := by
    rintro w x cs ⟨A,c,rfl,_⟩ u hu
    rw [List.mem_singleton.1 hu]
    rfl
  K_below := by
    rintro w w1 x cs hb ⟨A,c,rfl,hl,hr⟩
    exact ⟨A,c,rfl,hl,C_below hr hb⟩
  K_of_M := by
    rintro w base ok x cs ⟨v,rfl,h⟩
    obtain ⟨A,c,rfl,hl,hr⟩ := R_reads h
    exact ⟨A,c,rfl,hl,hr⟩
  M_mono := by
    rintro w base ok ok' x cs hok ⟨v,rfl,h⟩
    exact ⟨v,rfl,R_mono h hok⟩
  M_bound := by
    rintro w base ok x cs ⟨v,rfl,h⟩
    exact ⟨v,rfl,R_bound h⟩
  M_move := by
    rintro w w1 base ok x cs hm ⟨v,rfl,h⟩
    exact ⟨v,rfl,R_move h hm⟩
  M_lower := by
    rintro w base base' ok x cs hb ⟨v,rfl,h⟩
    exact ⟨v,rfl,R_lower h hb⟩
def pair {α β : Type} (a : Kd α) (b : Kd β) : Kd (α × β) where
  sz := a.sz + b.sz
  E := a.E ++ b.E
  K := fun w x cs => ∃ c0 c1,cs = c0 ++ c1 ∧ a.K w x.1 c0 ∧ b.K w x.2 c1
  M := fun w base ok x cs => ∃ c0 c1,cs = c0 ++ c1 ∧ a.M w base ok x.1 c0 ∧ b.M w base ok x.2 c1
  K_len := by
    rintro w x cs ⟨c0,c1,rfl,h0,h1⟩
    rw [List.length_append,a.K_len h0,b.K_len h1]
  K_one := by
    rintro w x cs ⟨c0,c1,rfl,h0,h1⟩ u hu
    rcases List.mem_append.1 hu with hu | hu
    · exact a.K_one h0 u hu
    · exact b.K_one h1 u hu
  K_below := by
    rintro w w1 x cs hb ⟨c0,c1,rfl,h0,h1⟩
    exact ⟨c0,c1,rfl,a.K_below hb h0,b.K_below hb h1⟩
  K_of_M := by
    rintro w base ok x cs ⟨c0,c1,rfl,h0,h1⟩
    exact ⟨c0,c1,rfl,a.K_of_M h0,b.K_of_M h1⟩
  M_mono := by
    rintro w base ok ok' x cs hok ⟨c0,c1,rfl,h0,h1⟩
    exact ⟨c0,c1,rfl,a.M_mono hok h0,b.M_mono hok h1⟩
  M_bound := by
    rintro w base ok x cs ⟨c0,c1,rfl,h0,h1⟩
    refine ⟨c0,c1,rfl,a.M_mono ?_ (a.M_bound h0),b.M_mono ?_ (b.M_bound h1)⟩
    · rintro k ⟨h2,h3,h4,q,hq,hc⟩
      exact ⟨h2,h3,h4,q,List.mem_append_left _ hq,hc⟩
    · rintro k ⟨h2,h3,h4,q,hq,hc⟩
      exact ⟨h2,h3,h4,q,List.mem_append_right _ hq,hc⟩
  M_move := by
    rintro w w1 base ok x cs hm ⟨c0,c1,rfl,h0,h1⟩
    exact ⟨c0,c1,rfl,a.M_move hm h0,b.M_move hm h1⟩
  M_lower := by
    rintro w base base' ok x cs hb ⟨c0,c1,rfl,h0,h1⟩
    exact ⟨c0,c1,rfl,a.M_lower hb h0,b.M_lower hb h1⟩
def iso {α β : Type} (d : Kd α) (f : β → α) : Kd β where
  sz := d.sz
  E := d.E
  K := fun w x cs => d.K w (f x) cs
  M := fun w base ok x cs => d.M w base ok (f x) cs
  K_len := d.K_len
  K_one := d.K_one
  K_below := d.K_below
  K_of_M := d.K_of_M
  M_mono := d.M_mono
  M_bound := d.M_bound
  M_move := d.M_move
  M_lower := d.M_lower
def bot {α : Type} (sz : Nat) (E : List Nat) : Kd α where
  sz := sz
  E := E
  K := fun _ _ _ => False
  M := fun _ _ _ _ _ => False
  K_len := fun h => h.elim
  K_one := fun h => h.elim
  K_below := fun _ h => h
  K_of_M := fun h => h
  M_mono := fun _ h => h
  M_bound := fun h => h
  M_move := fun _ h => h
  M_lower := fun _ h => h
def upto {α : Type} (F : Kd α → Kd α) (sz : Nat) (E : List Nat) : Nat → Kd α
  | 0 => bot sz E
  | n + 1 => F (upto F sz E n)
theorem C_get {α : Type} {d : Kd α} {w : World} {A : Option Addr} {n : Nat} {xs : List α} (h : d.C w A n xs) (z : α) (i : Int) (h0 : 0 ≤ i) (h1 : i < n) :
    ∃ ad c,A = some ad ∧ c.length = d.sz ∧ d.K w (xs.getD i.toNat z) c ∧ ∀ j u,c[j]? = some u → w.cell? (ad.add (i.toNat * d.sz + j)) = some u := ReadsRow.get_ h z i h0 h1
section
variable {P : Program} {ops : Array Oper} {rest : List Oper} {o : Oper} {a : Act} {Q : Exit → Act → World → Prop} {α : Type}
end
section
variable {P : Program} {ops : Array Oper} {o : Oper} {a : Act} {Q : Exit → Act → World → Prop} {Kc : Act → World → Prop} {α : Type}
end
end Kd
namespace Kd
structure Mono {α β : Type} (F : Kd α → Kd β) : Prop where
  sz : ∀ d d' : Kd α,d.sz = d'.sz → (F d).sz = (F d').sz
  K : ∀ d d' : Kd α,d.sz = d'.sz → (∀ w x cs,d.K w x cs → d'.K w x cs) → ∀ w x cs,(F d).K w x cs → (F d').K w x cs
  M : ∀ d d' : Kd α,d.sz = d'.sz → (∀ w base ok x cs,d.M w base ok x cs → d'.M w base ok x cs) → ∀ w base ok x cs,(F d).M w base ok x cs → (F d').M w base ok x cs
section
variable {α : Type} {F : Kd α → Kd α} {sz : Nat} {E : List Nat} {hs : ∀ n,(upto F sz E n).sz = sz} {hE : ∀ n q,q ∈ (upto F sz E n).E → q ∈ E}
end
end Kd
namespace Kd
end Kd
namespace Kd
section
variable {α β : Type} {d : Kd α} {d' : Kd β} {e e' : Nat} {w w1 W : World} {base b b' : Nat} {ok ok' okv oku : Nat → Prop} {v u : Value} {xs : List α} {ys : List β}
theorem C_nil (d : Kd α) (w : World) : d.C w none ([] : List α).length [] := ⟨rfl,by simp,fun h => absurd h (Nat.lt_irrefl 0)⟩
end
section
variable {w W : World} {A : Option Addr} {n : Nat}
variable {α : Type} {enc : α → Value} {h1 : ∀ x,(enc x).oneCell' = true} {e base g cap : Nat} {ok : Nat → Prop} {xs : List α}
end
section
variable {P : Program} {ops : Array Oper} {rest : List Oper} {o : Oper} {a : Act} {Q : Exit → Act → World → Prop}
variable {α : Type}
end
end Kd
section
variable {P : Program}
end
def QRow (w : World) (base : Nat) (e : TypeId) (size : Nat) (v : Value) (n : Nat) (xs : List Value) : Prop :=
  xs.length = n * size ∧
  ((n = 0 ∧ ∃ A,v = .slice A 0 0 ∧ ∀ a,A = some a → base ≤ a.block ∧ ∃ cur,w.heap[a.block]? = some (.cells cur e (0,0))) ∨
   ∃ g off cap cur,v = .slice (some ⟨g,off * size,none⟩) n cap ∧ base ≤ g ∧ w.heap[g]? = some (.cells cur e (0,0)) ∧ n ≤ cap ∧ off + cap ≤ maxLen ∧ cur.size = (off + cap) * size ∧ (cur.toList.drop (off * size)).take (n * size) = xs)
section
variable {w w1 : World} {base n size : Nat} {e : TypeId} {v : Value} {xs : List Value}
end
section
variable {P : Program}
end
namespace Kd
def Q {α : Type} (d : Kd α) (e : Nat) (w : World) (base : Nat) (ok : Nat → Prop) (v : Value) (xs : List α) : Prop :=
  (∀ k,v.ownBlock = some k → ok k) ∧ ∃ inner,QRow w base e d.sz v xs.length inner ∧ Reps (d.M w base (fun k => ok k ∧ some k ≠ v.ownBlock)) d.sz xs inner
section
variable {α : Type} {d : Kd α} {e : Nat} {w w1 W : World} {base : Nat} {ok ok' : Nat → Prop} {v : Value} {xs : List α}
end
section
variable {P : Program} {ops : Array Oper} {rest : List Oper} {o : Oper} {a : Act} {Q' : Exit → Act → World → Prop} {Kc : Act → World → Prop} {α : Type}
end
end Kd
namespace Kd
section
variable {α : Type} {d : Kd α} {e e' : Nat} {w w1 W : World} {base : Nat} {ok : Nat → Prop} {u v : Value} {xs : List α}
end
end Kd
namespace Kd
section
variable {α : Type} {d : Kd α} {e base g n cap : Nat} {ok okp : Nat → Prop} {W : World} {xs : List α}
end
end Kd
namespace Kd
section
variable {α : Type} {F : Kd α → Kd α} {sz : Nat} {E : List Nat} {hs : ∀ n,(upto F sz E n).sz = sz} {hE : ∀ n q,q ∈ (upto F sz E n).E → q ∈ E}
end
end Kd
namespace Kd
section
variable {P : Program} {ops : Array Oper} {rest : List Oper} {o : Oper} {a : Act} {Q : Exit → Act → World → Prop} {α : Type}
end
end Kd
namespace Kd
section
variable {P : Program} {ops : Array Oper} {rest : List Oper} {o : Oper} {a : Act} {Q : Exit → Act → World → Prop} {α : Type}
end
end Kd
theorem add_add (a : Addr) (i j : Nat) : (a.add i).add j = a.add (i + j) := by
  unfold Addr.add
  by_cases h1 : i = 0 <;> by_cases h2 : j = 0 <;> simp [h1,h2,Nat.add_assoc]
namespace Kd
section
variable {α : Type} {k : Kd α} {w : World} {A : Option Addr} {xs : List α} {m c : Nat}
end
end Kd
section
variable {P : Program}
end
theorem ReadsInt.nil (W : World) (k : IntKind) : ReadsInt W k none ([] : List Int).length [] := ⟨rfl,by simp,fun h => absurd h (Nat.lt_irrefl 0)⟩
theorem ReadsInt.drewN {W : World} {k : IntKind} {A : Option Addr} {n : Nat} {xs : List Int} (h : ReadsInt W k A n xs) (m : Nat) : ReadsInt (W.drewN m) k A n xs := h
theorem ReadsOf.nil {α : Type} (enc : α → Value) (d : α) (W : World) : ReadsOf enc d W none ([] : List α).length [] := ⟨rfl,by simp,fun h => absurd h (Nat.lt_irrefl 0)⟩
theorem ReadsOf.drewN {α : Type} {enc : α → Value} {d : α} {W : World} {A : Option Addr} {n : Nat} {xs : List α} (h : ReadsOf enc d W A n xs) (m : Nat) : ReadsOf enc d (W.drewN m) A n xs := h
theorem blk_put {w : World} {g : Nat} {t : TypeId} {cs cs' : Array Value} (h : w.heap[g]? = some (.cells cs t (0,0))) (i : Nat) (u : Value) (e : cs.setIfInBounds i u = cs') : (w.setCell ⟨g,i,none⟩ u).heap[g]? = some (.cells cs' t (0,0)) := e ▸ blk_set h i u
theorem below_drew1 {base : Nat} {w W : World} (h : Below base w W) : Below base w W.drew := h.drew
namespace Kd
section
variable {α β : Type} {d : Kd α} {d' : Kd β} {e e' base base' n : Nat} {ok ok' : Nat → Prop} {w W w1 W1 : World} {v u : Value} {xs : List α} {ys : List β} {A : Option Addr} {c : Nat}
end
section
variable {α : Type} {enc : α → Value} {h1 : ∀ x,(enc x).oneCell' = true} {w W : World} {A : Option Addr} {n g : Nat} {xs : List α}
end
end Kd
namespace Kd
section
variable {α : Type} {d : Kd α} {e base g : Nat} {ok : Nat → Prop} {w w1 : World} {v : Value} {xs : List α} {o : Obj}
end
end Kd
section
variable {P : Program} {ops : Array Oper} {rest : List Oper} {o : Oper} {a : Act} {Q : Exit → Act → World → Prop}
end
namespace Kd
section
variable {α : Type} {enc : α → Value} {h1 : ∀ x,(enc x).oneCell' = true} {e base g n cap : Nat} {ok : Nat → Prop} {W : World} {xs : List α}
end
end Kd
section
variable {P : Program} {ops : Array Oper} {rest : List Oper} {o : Oper} {a : Act} {Q : Exit → Act → World → Prop}
end
namespace Kd
section
variable {α : Type} {enc : α → Value} {h1 : ∀ x,(enc x).oneCell' = true} {e base g n cap : Nat} {ok : Nat → Prop} {W : World} {xs : List α}
end
end Kd
section
variable {P : Program} {ops : Array Oper} {rest : List Oper} {o : Oper} {a : Act} {Q : Exit → Act → World → Prop} {W : World}
end
section
variable {P : Program} {ops : Array Oper} {o : Oper} {a : Act} {Q : Exit → Act → World → Prop} {Kc : Act → World → Prop}
namespace Kd
variable {α : Type}
end Kd
end
inductive Vals (P : Program) (tmps : Array Value) (w : World) : List ResultVar → List Value → Prop where
  | nil : Vals P tmps w [] []
  | tmp {u : Tmp} {rs : List ResultVar} {vs : List Value} (h : Vals P tmps w rs vs) : Vals P tmps w (.tmp u :: rs) (tmps.getD u undef :: vs)
  | cell {p : Tmp} {ty : TypeId} {rs : List ResultVar} {vs : List Value} (g : Nat) (t : TypeId) (cs : Array Value) (fr : Nat × Nat) (d : TypeDesc)
      (hp : tmps.getD p undef = .pointer (some ⟨g,0,none⟩)) (hg : w.heap[g]? = some (.cells cs t fr))
      (hu : P.underlying ty = some d) (hd : (match d with | .struct _ | .array _ _ => true | _ => false) = true) (hi : (P.info? ty).map (·.size) = some cs.size)
      (h : Vals P tmps w rs vs) : Vals P tmps w (.cell p ty :: rs) (.agg cs :: vs)
section
variable {P : Program} {tmps : Array Value} {w : World}
end
namespace Kd
section
variable {P : Program} {α : Type}
end
section
variable {P : Program} {ops : Array Oper} {rest : List Oper} {o : Oper} {a : Act} {Q : Exit → Act → World → Prop} {Kc : Act → World → Prop} {α : Type}
end
end Kd
end Go.Proofs.YtcenlehfbgnphaaW.PrintWords
end
section
namespace Go.Proofs.YtcenlehfbgnphaaW.PrintLast
section
variable {P : Program} {ops : Array Oper} {Q : Exit → Act → World → Prop} {md : Region.Mode} {S : World → Prop} {ds : List Nat}
def wpAnyLast (P : Program) (md : Region.Mode) (ops : Array Oper) (Q : Exit → Act → World → Prop) (S : World → Prop) (ds : List Nat) : Nat → Array Bool → Act → World → Prop
  | 0,listed,a,w => Region.ready md ops listed = [] ∧ Q .normal a w
  | fuel + 1,listed,a,w =>
    (Region.ready md ops listed = [] → Q .normal a w) ∧
    ∀ i ∈ Region.ready md ops listed,wpOp P ops Q i (fun a' w' => (i ∉ ds → S w → S w') ∧ wpAnyLast P md ops Q S ds fuel (listed.setIfInBounds i true) a' w') a w
theorem wpAny_of_last : ∀ (fuel : Nat) (listed : Array Bool) (a : Act) (w : World),wpAnyLast P md ops Q S ds fuel listed a w → wpAny P md ops Q fuel listed a w
  | 0,_,_,_,h => h
  | fuel + 1,_,_,_,h => ⟨h.1,fun i hi => wpOp_mono (fun a' w' h' => wpAny_of_last fuel _ a' w' h'.2) (h.2 i hi)⟩
theorem wpAnyLast_any {i : Nat} {oi : Oper} {v : Value} (hi : ops[i]? = some oi) (hsel : ∀ (j : Nat) (o : Oper) cs b,ops[j]? = some o → o.op ≠ .select cs b)
    (hQ : ∀ c a w,Q (.panic c) (a.put oi.dst v) w → Q (.panic c) a w) :
    ∀ (fuel : Nat) (listed : Array Bool) (a : Act) (w : World),
      (∀ j oj,ops[j]? = some oj → j ≠ i → listed.getD j true = false → (∀ e ∈ oj.after,Region.binds md e = true → e.on ≠ i) → oi.apart ops oj = true) →
      i ∈ Region.ready md ops listed → Yields P ops oi v a →
      wpAnyLast P md ops Q S ds fuel (listed.setIfInBounds i true) (a.put oi.dst v) w → wpAnyLast P md ops Q S ds (fuel + 1) listed a w := by
  intro fuel
  induction fuel with
  | zero =>
    intro listed a w _ hr hy H
    refine ⟨fun h => (by rw [h] at hr;cases hr),fun j hj => ?_⟩
    by_cases hji : j = i
    · subst hji;exact (hy.yieldsIf (S := fun _ => True)).wpOp hi trivial ⟨fun _ h => h,H⟩
    · have := ready_mono hj hji
      rw [H.1] at this
      cases this
  | succ fuel ih =>
    intro listed a w hfree hr hy H
    refine ⟨fun h => (by rw [h] at hr;cases hr),fun j hj => ?_⟩
    by_cases hji : j = i
    · subst hji;exact (hy.yieldsIf (S := fun _ => True)).wpOp hi trivial ⟨fun _ h => h,H⟩
    · have h1 := H.2 j (ready_mono hj hji)
      obtain ⟨hjun,oj,hoj,hall⟩ := mem_ready.1 hj
      have hiun := (mem_ready.1 hr).1
      have hnot : ∀ e ∈ oj.after,Region.binds md e = true → e.on ≠ i := fun e he hb heq => by
        have h1 := hall e he hb
        rw [heq] at h1
        rcases Nat.lt_or_ge i listed.size with h' | h'
        · simp [h'] at hiun h1;rw [hiun] at h1;cases h1
        · simp [Array.getElem?_eq_none h'] at h1
      have h2 := wpOp_put hoj (hfree j oj hoj hji hjun hnot) (fun cs b => hsel i oi cs b hi) (fun cs b => hsel j oj cs b hoj) hQ hy h1
      have hfree' : ∀ k ok,ops[k]? = some ok → k ≠ i → (listed.setIfInBounds j true).getD k true = false →
          (∀ e ∈ ok.after,Region.binds md e = true → e.on ≠ i) → oi.apart ops ok = true := fun k ok hk hki hun hno => by
        refine hfree k ok hk hki ?_ hno
        by_cases hjk : j = k
        · subst hjk;exact hjun
        · rw [getD_set_ne true hjk] at hun;exact hun
      refine wpOp_mono (fun a' w' h3 => ⟨h3.2.1,ih (listed.setIfInBounds j true) a' w' hfree' (ready_mono hr (Ne.symm hji)) h3.1 ?_⟩) h2
      rw [Array.setIfInBounds_comm _ _ hji]
      exact h3.2.2
theorem wpAnyLast_all {rs : List Nat} {fuel : Nat} {listed : Array Bool} {a : Act} {w : World} (hr : Region.ready md ops listed = rs) (hne : rs ≠ [])
    (h : ∀ i ∈ rs,wpOp P ops Q i (fun a' w' => (i ∉ ds → S w → S w') ∧ wpAnyLast P md ops Q S ds fuel (listed.setIfInBounds i true) a' w') a w) : wpAnyLast P md ops Q S ds (fuel + 1) listed a w :=
  ⟨fun h0 => absurd (hr ▸ h0) hne,hr ▸ h⟩
theorem wpAnyLast_done {listed : Array Bool} {a : Act} {w : World} (hr : Region.ready md ops listed = []) (h : Q .normal a w) :
    ∀ fuel,wpAnyLast P md ops Q S ds fuel listed a w
  | 0 => ⟨hr,h⟩
  | _ + 1 => ⟨fun _ => h,by rw [hr];simp⟩
theorem wp_region_last {id : Nat} {a : Act} {w : World} (hm : P.follows .mixedOrders = true)
    (h : wpAnyLast P .any ops Q S ds ops.size (Array.replicate ops.size false) a { w with drawn := w.drawn + 1 }) : (Code.region id ops true).wp P Q a w :=
  wp_region_any hm (wpAny_of_last _ _ _ _ h)
end
section
variable {P : Program} {ops : Array Oper} {Q : Exit → Act → World → Prop} {md : Region.Mode} {S : World → Prop} {ds : List Nat}
def AllReadyL (P : Program) (md : Region.Mode) (ops : Array Oper) (Q : Exit → Act → World → Prop) (S : World → Prop) (ds : List Nat) (fuel : Nat) (listed : Array Bool) (a : Act) (w : World) (rs : List Nat) : Prop :=
  ∀ i ∈ rs,wpOp P ops Q i (fun a' w' => (i ∉ ds → S w → S w') ∧ wpAnyLast P md ops Q S ds fuel (listed.setIfInBounds i true) a' w') a w
theorem AllReadyL.nil {fuel : Nat} {listed : Array Bool} {a : Act} {w : World} : AllReadyL P md ops Q S ds fuel listed a w [] := fun _ h => by cases h
theorem AllReadyL.cons {fuel : Nat} {listed : Array Bool} {a : Act} {w : World} {i : Nat} {o : Oper} {rs : List Nat} (ho : ops[i]? = some o) (hd : i ∉ ds)
    (h : ∀ K' : Act → World → Prop,Shut (∀ a w,S w → (S w → wpAnyLast P md ops Q S ds fuel (listed.setIfInBounds i true) a w) → K' a w) → if Region.wanted o (yielded ops a.tmps) = true then Oper.wp P o a w K' Q else K' (a.put o.dst undef) w)
    (hs : AllReadyL P md ops Q S ds fuel listed a w rs) : AllReadyL P md ops Q S ds fuel listed a w (i :: rs) := fun j hj => by
  rcases List.mem_cons.1 hj with rfl | hj
  · exact wpOp_step ho (fun K' hK => h K' (fun a w hS hW => hK a w ⟨fun _ _ => hS,hW hS⟩))
  · exact hs j hj
theorem wpAnyLast_ready {rs : List Nat} {fuel : Nat} {listed : Array Bool} {a : Act} {w : World} (hr : Region.ready md ops listed = rs) (hne : rs ≠ [])
    (h : AllReadyL P md ops Q S ds fuel listed a w rs) : wpAnyLast P md ops Q S ds (fuel + 1) listed a w := wpAnyLast_all hr hne h
theorem start_ {id n : Nat} {a : Act} {w : World} (l : Array Bool) (hm : P.follows .mixedOrders = true) (hn : ops.size = n) (hl : Array.replicate n false = l) (hS : S w.drew)
    (h : S w.drew → wpAnyLast P .any ops Q S ds n l a w.drew) : (Code.region id ops true).wp P Q a w := by
  subst hn
  subst hl
  exact wp_region_last hm (h hS)
def anyB (md : Region.Mode) (ops : Array Oper) (l l' : Array Bool) (i : Nat) : Bool :=
  Region.noSelect ops && Region.free md ops l i && (Region.ready md ops l).contains i && (l.setIfInBounds i true == l')
theorem pure_ {i : Nat} {N : Option Tmp} {oi : Oper} {v : Value} {fuel : Nat} {l : Array Bool} {a : Act} {w : World} (l' : Array Bool) (hi : ops[i]? = some oi) (hN : oi.dst = N) (hc : anyB md ops l l' i = true)
    (hQ : ∀ c a w,Q (.panic c) (a.put oi.dst v) w → Q (.panic c) a w) (hy : Yields P ops oi v a) {a' : Act} (ha : a.put N v = a')
    (h : wpAnyLast P md ops Q S ds fuel l' a' w) : wpAnyLast P md ops Q S ds (fuel + 1) l a w := by
  subst ha
  subst hN
  simp only [anyB,Bool.and_eq_true,beq_iff_eq] at hc
  obtain ⟨⟨⟨h1,h2⟩,h3⟩,h6⟩ := hc
  subst h6
  exact wpAnyLast_any hi (Region.noSelect_spec h1) hQ fuel l a w (Region.free_spec hi h2) (by simpa using h3) hy h
def readyB (md : Region.Mode) (ops : Array Oper) (l l' : Array Bool) (i : Nat) : Bool := (Region.ready md ops l == [i]) && (l.setIfInBounds i true == l')
theorem one_ {i : Nat} {N : Option Tmp} {oi : Oper} {fuel : Nat} {l : Array Bool} {a : Act} {w : World} (l' : Array Bool) (hi : ops[i]? = some oi) (hN : oi.dst = N) (hc : readyB md ops l l' i = true) (hd : i ∉ ds)
    (h : ∀ K : Act → World → Prop,Shut (∀ a' w',S w' → (S w' → wpAnyLast P md ops Q S ds fuel l' a' w') → K a' w') → if Region.wanted oi (yielded ops a.tmps) = true then Oper.wp P oi a w K Q else K (a.put N undef) w) :
    wpAnyLast P md ops Q S ds (fuel + 1) l a w := by
  subst hN
  simp only [readyB,Bool.and_eq_true,beq_iff_eq] at hc
  obtain ⟨h1,h2⟩ := hc
  subst h2
  exact wpAnyLast_ready h1 (by simp) (AllReadyL.cons hi hd (fun K hK => h K hK) AllReadyL.nil)
theorem done_ {l : Array Bool} {a : Act} {w : World} {n : Nat} (hr : (Region.ready md ops l == []) = true) (h : Q .normal a w) : wpAnyLast P md ops Q S ds n l a w := wpAnyLast_done (by simpa using hr) h n
theorem enters_ {f : FuncId} {fn : Func} (hf : P.funcs[f]? = some fn) (hname : (fn.name == "runtime.NumGoroutine") = false) (hb : fn.body.isSome = true) (args : Array Value) (w : World) : (callFunc f args).run P w = .ok (.enter f args) w := by
  have h1 : fn.name ≠ "runtime.NumGoroutine" := by simpa using hname
  obtain ⟨c,hc⟩ := Option.isSome_iff_exists.1 hb
  simp [callFunc,hf,h1,hc]
theorem goesL_ {rest : List Oper} {oi : Oper} {a : Act} {w : World} (N : Option Tmp) (hd : oi.dst = N) (hg : oi.guard = none) {f : FuncId} {fn : Func} {as0 : Array Operand} {ts : Array TypeId} (hf : P.funcs[f]? = some fn) (hname : (fn.name == "runtime.NumGoroutine") = false) (hb : fn.body.isSome = true) (args : Array Value)
    (hop : oi.op = .call { callee := .value (.func f),args := as0,argTypes := ts }) (hargs : as0.map a.eval = args)
    (h : Calls P f args w fun e w' => ∃ v,e = .returned v ∧ wpList P ops Q rest (a.put N v) w') : wpList P ops Q (oi :: rest) a w := by
  refine wpList_plain hg fun K hK => ?_
  have he := enters_ hf hname hb args w
  have hrun : (execOp a.eval oi).run P w = .ok (.enter f args) w := by
    unfold execOp
    simp [hop,resolve,Deferred.ofValue,invoke,Act.eval,hargs,he]
  unfold Oper.wp
  rw [hrun,Oper.upon_enter]
  refine h.mono fun e w'' hh => ?_
  obtain ⟨v,rfl,hk⟩ := hh
  subst hd
  exact hK _ _ hk
theorem skip_ {oi : Oper} {a : Act} {w w1 : World} {K : Act → World → Prop} (hw : Region.wanted oi (yielded ops a.tmps) = true) (hN : oi.dst = none) (hrun : (execOp a.eval oi).run P w = .ok .skip w1)
    (h : K a w1) : if Region.wanted oi (yielded ops a.tmps) = true then Oper.wp P oi a w K Q else K (a.put none undef) w := by
  rw [if_pos hw]
  unfold Oper.wp
  rw [hrun]
  show K (a.put oi.dst undef) w1
  rw [hN]
  exact h
theorem i64_w (n : Int) : IntKind.i64.wrap n = Go.RowKit.wrap64 n := by unfold Go.RowKit.wrap64;exact IntKind.wrap_i64 n
theorem i32_w (n : Int) : IntKind.i32.wrap n = Go.RowKit.wrap32 n := by unfold Go.RowKit.wrap32;exact IntKind.wrap_i32 n
end
end Go.Proofs.YtcenlehfbgnphaaW.PrintLast
end
section
namespace Go.Proofs.YtcenlehfbgnphaaW.PrintLast
open Go.Proofs.YtcenlehfbgnphaaW.PrintWords (Aside0)
section
variable {md : Region.Mode} {ops : Array Oper} {T : Bool × List (List Nat × List Nat)} {l l' li lj lk : Array Bool} {ds : List Nat} {i j k : Nat}
end
end Go.Proofs.YtcenlehfbgnphaaW.PrintLast
end
section
namespace Go.Proofs.YtcenlehfbgnphaaW.PrintLast
section
variable {P : Program} {ops : Array Oper} {Q : Exit → Act → World → Prop} {md : Region.Mode} {S : World → Prop} {ds : List Nat} {T : Bool × List (List Nat × List Nat)}
end
end Go.Proofs.YtcenlehfbgnphaaW.PrintLast
end
section
namespace Go.Proofs.YtcenlehfbgnphaaW.PrintWords
open Go.RowKit
namespace Kd
section
variable {α : Type} {d : Kd α} {e base g o n cap : Nat} {ok okp : Nat → Prop} {w W : World} {v : Value} {xs : List α}
end
section
variable {α : Type} {enc : α → Value} {h1 : ∀ x,(enc x).oneCell' = true} {e base g o n cap : Nat} {ok : Nat → Prop} {W : World} {xs : List α}
end
end Kd
end Go.Proofs.YtcenlehfbgnphaaW.PrintWords
end
section
namespace Go.Proofs.YtcenlehfbgnphaaW.PrintWords
open Go.RowKit
namespace Kd
def tag {α : Type} (f : Nat → Nat) (d : Kd α) : Kd (α × Nat) where
  sz := d.sz
  E := d.E
  K := fun w x cs => d.K w x.1 cs
  M := fun w base ok x cs => d.M w base (fun k => ok k ∧ f k = x.2) x.1 cs
  K_len := fun h => d.K_len h
  K_one := fun h => d.K_one h
  K_below := fun hb h => d.K_below hb h
  K_of_M := fun h => d.K_of_M h
  M_mono := fun hok h => d.M_mono (fun k hk => ⟨hok k hk.1,hk.2⟩) h
  M_bound := fun h => d.M_mono (fun _ hk => ⟨⟨hk.1.1,hk.2⟩,hk.1.2⟩) (d.M_bound h)
  M_move := fun hm h => d.M_move (fun k hk => hm k hk.1) h
  M_lower := fun hb h => d.M_lower hb h
def raw (sz : Nat) : Kd (List Value) where
  sz := sz
  E := []
  K := fun _ x cs => cs = x ∧ cs.length = sz ∧ ∀ u ∈ cs,u.oneCell' = true
  M := fun _ _ _ x cs => cs = x ∧ cs.length = sz ∧ ∀ u ∈ cs,u.oneCell' = true
  K_len := fun h => h.2.1
  K_one := fun h => h.2.2
  K_below := fun _ h => h
  K_of_M := fun h => h
  M_mono := fun _ h => h
  M_bound := fun h => h
  M_move := fun _ h => h
  M_lower := fun _ h => h
def S {α : Type} (d : Kd α) (e : Nat) (w : World) (base : Nat) (ok : Nat → Prop) (v : Value) (xs : List α) : Prop := ∃ f,(tag f d).R e w base ok v xs.zipIdx
section
variable {α β : Type} {d : Kd α} {d' : Kd β} {e e' : Nat} {w w1 W : World} {base b : Nat} {ok ok' okv oku : Nat → Prop} {u v : Value} {xs : List α} {ys : List β}
end
section
variable {α β : Type} {d : Kd α} {d' : Kd β} {e e' g : Nat} {w w1 W : World} {base b : Nat} {ok ok' okv oku : Nat → Prop} {u v : Value} {xs : List α} {ys : List β}
end
section
variable {P : Program} {ops : Array Oper} {rest : List Oper} {o : Oper} {a : Act} {Q : Exit → Act → World → Prop} {Kc : Act → World → Prop} {α : Type}
end
def gap {α : Type} (f : Nat → Nat) (d : Kd α) (i : Nat) (c : List Value) : Kd (α × Nat) where
  sz := d.sz
  E := d.E
  K := fun w x cs => (x.2 = i → cs = c ∧ cs.length = d.sz ∧ ∀ u ∈ cs,u.oneCell' = true) ∧ (x.2 ≠ i → d.K w x.1 cs)
  M := fun w base ok x cs => (x.2 = i → cs = c ∧ cs.length = d.sz ∧ ∀ u ∈ cs,u.oneCell' = true) ∧ (x.2 ≠ i → d.M w base (fun k => ok k ∧ f k = x.2) x.1 cs)
  K_len := fun {w x cs} h => by
    by_cases hx : x.2 = i
    · exact (h.1 hx).2.1
    · exact d.K_len (h.2 hx)
  K_one := fun {w x cs} h => by
    by_cases hx : x.2 = i
    · exact (h.1 hx).2.2
    · exact d.K_one (h.2 hx)
  K_below := fun hb h => ⟨h.1,fun hx => d.K_below hb (h.2 hx)⟩
  K_of_M := fun h => ⟨h.1,fun hx => d.K_of_M (h.2 hx)⟩
  M_mono := fun hok h => ⟨h.1,fun hx => d.M_mono (fun k hk => ⟨hok k hk.1,hk.2⟩) (h.2 hx)⟩
  M_bound := fun h => ⟨h.1,fun hx => d.M_mono (fun _ hk => ⟨⟨hk.1.1,hk.2⟩,hk.1.2⟩) (d.M_bound (h.2 hx))⟩
  M_move := fun hm h => ⟨h.1,fun hx => d.M_move (fun k hk => hm k hk.1) (h.2 hx)⟩
  M_lower := fun hb h => ⟨h.1,fun hx => d.M_lower hb (h.2 hx)⟩
def H {α : Type} (d : Kd α) (e : Nat) (w : World) (base : Nat) (ok : Nat → Prop) (v : Value) (xs : List α) (i : Int) (oki : Nat → Prop) (c : List Value) : Prop :=
  (∀ k,oki k → ok k) ∧ ∃ f,(gap f d i.toNat c).R e w base (fun k => ok k ∧ ¬ oki k) v xs.zipIdx
section
variable {α β : Type} {d : Kd α} {e e' g n cap : Nat} {w w1 W : World} {base : Nat} {ok ok' oki okp : Nat → Prop} {u v : Value} {xs : List α} {i : Int} {c : List Value}
end
section
variable {P : Program} {ops : Array Oper} {rest : List Oper} {o : Oper} {a : Act} {Q : Exit → Act → World → Prop} {α : Type}
end
end Kd
end Go.Proofs.YtcenlehfbgnphaaW.PrintWords
end
section
namespace Go.Proofs.YtcenlehfbgnphaaW.PrintWords
open Go.RowKit
namespace Kd
section
variable {α : Type} {n : Nat} {d : Kd α} {hs : 0 < d.sz} {w : World} {base : Nat} {ok : Nat → Prop} {xs : List α} {cs : List Value}
end
section
variable {α : Type} {n : Nat} {enc : α → Value} {h1 : ∀ x,(enc x).oneCell' = true} {hs : 0 < (scalar enc h1).sz} {w : World} {base : Nat} {ok : Nat → Prop} {xs : List α} {cs : List Value}
end
end Kd
end Go.Proofs.YtcenlehfbgnphaaW.PrintWords
end
section
namespace Go.Proofs.YtcenlehfbgnphaaW.PrintWords
open Go.RowKit
section
variable {P : Program}
end
namespace Kd
section
variable {P : Program} {ops : Array Oper} {rest : List Oper} {o : Oper} {a : Act} {Q : Exit → Act → World → Prop} {Kc : Act → World → Prop} {α : Type}
end
section
variable {α : Type} {d : Kd α} {e : Nat} {w : World} {base : Nat} {ok : Nat → Prop} {v : Value} {xs : List α}
end
section
variable {P : Program} {ops : Array Oper} {rest : List Oper} {o : Oper} {a : Act} {Q : Exit → Act → World → Prop} {Kc : Act → World → Prop} {α : Type}
end
end Kd
end Go.Proofs.YtcenlehfbgnphaaW.PrintWords
end
section
namespace Go.Proofs.YtcenlehfbgnphaaW.PrintWords
open Go.RowKit
namespace Kd
structure Heap {α : Type} (d : Kd α) : Prop where
  K : ∀ {w w1 : World} {x : α} {cs : List Value},(∀ k,k < w.heap.size → w1.heap[k]? = w.heap[k]?) → d.K w x cs → d.K w1 x cs
theorem cell_heap {w w1 : World} (hb : ∀ k,k < w.heap.size → w1.heap[k]? = w.heap[k]?) {a : Addr} {v : Value} (h : w.cell? a = some v) : w1.cell? a = some v := by
  have := hb a.block (World.block_lt_of_cell? w a h)
  simpa [World.cell?,this] using h
theorem Heap.C {α : Type} {d : Kd α} (hd : Heap d) {w w1 : World} {A : Option Addr} {n : Nat} {xs : List α} (hb : ∀ k,k < w.heap.size → w1.heap[k]? = w.heap[k]?) (h : d.C w A n xs) : d.C w1 A n xs :=
  ⟨h.1,h.2.1,fun hn => by
    obtain ⟨ad,e,hc⟩ := h.2.2 hn
    refine ⟨ad,e,fun j p hj => ?_⟩
    obtain ⟨c,hs,hr,hcell⟩ := hc j p hj
    exact ⟨c,hs,hd.K hb hr,fun i u hu => cell_heap hb (hcell i u hu)⟩⟩
section
variable {α : Type} {d : Kd α} {e base g n c : Nat} {ok : Nat → Prop} {w w0 W : World} {A : Option Addr} {xs : List α}
end
end Kd
end Go.Proofs.YtcenlehfbgnphaaW.PrintWords
end
section
namespace Go.Proofs.YtcenlehfbgnphaaW.PrintWords
open Go.RowKit
def Kept (w W : World) (S : Nat → Prop) : Prop := w.heap.size ≤ W.heap.size ∧ ∀ i,i < w.heap.size → ¬ S i → W.heap[i]? = w.heap[i]?
section
variable {w W W2 : World} {S S2 S' : Nat → Prop}
theorem Kept.refl (w : World) (S : Nat → Prop) : Kept w w S := ⟨Nat.le_refl _,fun _ _ _ => rfl⟩
theorem Kept.of_below (h : Below w.heap.size w W) (S : Nat → Prop) : Kept w W S := ⟨h.size,fun i hi _ => h.block i hi⟩
theorem Kept.mono (h : Kept w W S) (hs : ∀ k,S k → S' k) : Kept w W S' := ⟨h.1,fun i hi hn => h.2 i hi (fun hk => hn (hs i hk))⟩
theorem Kept.then_ (h : Kept w W S) (k : Kept W W2 S2) (hs : ∀ k,S2 k → S k ∨ w.heap.size ≤ k) : Kept w W2 S :=
  ⟨Nat.le_trans h.1 k.1,fun i hi hn => (k.2 i (Nat.lt_of_lt_of_le hi h.1) (fun h2 => (hs i h2).elim hn (fun h3 => by omega))).trans (h.2 i hi hn)⟩
theorem Kept.below (h : Kept w W S) (hb : Below W.heap.size W W2) : Kept w W2 S := h.then_ (Kept.of_below hb (fun _ => False)) (fun _ hk => hk.elim)
theorem Kept.alloc (h : Kept w W S) (o : Obj) : Kept w (W.alloc o) S := h.below (below_alloc (Below.refl _ _) o)
theorem Kept.drew (h : Kept w W S) : Kept w W.drew S := h
theorem Kept.drewN (h : Kept w W S) (m : Nat) : Kept w (W.drewN m) S := h
theorem Kept.setCell (h : Kept w W S) {p : Addr} (hp : S p.block ∨ w.heap.size ≤ p.block) (u : Value) : Kept w (W.setCell p u) S :=
  h.then_ (S2 := fun k => k = p.block) ⟨by simp [World.setCell],fun i _ hn => Below.heap_setCell W p u i hn⟩ (fun k hk => by rw [hk];exact hp)
end
namespace Kd
section
variable {α : Type} {d : Kd α} {e base n c : Nat} {ok oki S S2 : Nat → Prop} {w w0 W W1 W2 : World} {v : Value} {A : Option Addr} {xs : List α} {i : Int} {cs : List Value}
end
end Kd
end Go.Proofs.YtcenlehfbgnphaaW.PrintWords
end
section
namespace Go.Proofs.YtcenlehfbgnphaaW.PrintWords
open Go.RowKit
def Foot (P : World → Prop) (W : World) (ok : Nat → Prop) : Prop := ∀ W' : World,(∀ k,ok k → k < W.heap.size → W'.heap[k]? = W.heap[k]?) → P W'
theorem heap_lt {W W1 : World} {k : Nat} (h : W1.heap[k]? = W.heap[k]?) (hlt : k < W.heap.size) : k < W1.heap.size := by
  rw [Array.getElem?_eq_getElem hlt] at h
  exact (Array.getElem?_eq_some_iff.1 h).1
namespace Foot
variable {P Q : World → Prop} {W W1 : World} {ok ok' : Nat → Prop}
theorem mono (h : Foot P W ok) (hok : ∀ k,ok k → ok' k) : Foot P W ok' := fun W' hW => h W' (fun k hk hlt => hW k (hok k hk) hlt)
theorem step (h : Foot P W ok) (hm : ∀ k,ok k → k < W.heap.size → W1.heap[k]? = W.heap[k]?) : Foot P W1 ok := fun W' hW => h W' (fun k hk hlt => (hW k hk (heap_lt (hm k hk hlt) hlt)).trans (hm k hk hlt))
end Foot
namespace Kd
def F {α : Type} (d : Kd α) (W : World) (ok : Nat → Prop) (A : Option Addr) (n : Nat) (xs : List α) : Prop := Foot (fun W => d.C W A n xs) W ok
def FK {α : Type} (d : Kd α) (W : World) (ok : Nat → Prop) (x : α) (c : List Value) : Prop := Foot (fun W => d.K W x c) W ok
section
variable {α β : Type} {d : Kd α} {e base n n' cc g N : Nat} {ok ok' okp S : Nat → Prop} {w w0 w1 W W1 : World} {A A' : Option Addr} {u v v1 : Value} {xs : List α} {xs' : List β} {d' : Kd β} {x : α} {c : List Value}
end
end Kd
end Go.Proofs.YtcenlehfbgnphaaW.PrintWords
end
section
namespace Go.Proofs.YtcenlehfbgnphaaW.PrintWords
open Go.RowKit
namespace Kd
section
variable {α : Type} {d : Kd α} {e base n cc g : Nat} {ok ok' okp S : Nat → Prop} {w w1 W W1 : World} {A : Option Addr} {u v v1 : Value} {xs : List α} {x : α} {c : List Value}
def N {α : Type} (d : Kd α) (e : Nat) (w : World) (base : Nat) (ok : Nat → Prop) (v : Value) (xs : List α) : Prop :=
  (∀ k,v.ownBlock = some k → ok k) ∧ ∃ rows : List (List Value),rows.length = xs.length ∧ (raw d.sz).R e w base (fun k => some k = v.ownBlock) v rows ∧ ∀ (j : Nat) (x : α) (c : List Value),xs[j]? = some x → rows[j]? = some c → FK d w (fun k => ok k ∧ some k ≠ v.ownBlock) x c
end
end Kd
end Go.Proofs.YtcenlehfbgnphaaW.PrintWords
end
section
namespace Go.Proofs.YtcenlehfbgnphaaW.PrintWords
open Go.RowKit
namespace Kd
section
variable {α : Type} {d : Kd α} {W : World} {g n : Nat} {S ok : Nat → Prop} {A : Option Addr} {ad : Addr} {xs : List α}
end
end Kd
end Go.Proofs.YtcenlehfbgnphaaW.PrintWords
end
section
namespace Go.Proofs.YtcenlehfbgnphaaW.PrintWords
open Go.RowKit
section
variable {w w' u : World} {m B g : Nat} {o : Obj} {row : Option Nat} {S : Nat → Prop} {a : Addr} {v : Value}
end
namespace Kd
section
variable {α : Type} {d : Kd α} {e base n m : Nat} {ok : Nat → Prop} {w w' : World} {v : Value} {A : Option Addr} {xs : List α}
end
end Kd
end Go.Proofs.YtcenlehfbgnphaaW.PrintWords
end
section
namespace Go.Proofs.YtcenlehfbgnphaaW.PrintWords
open Go.RowKit
section
variable {P : Program} {d : Nat} {xs ys : Array Value} {f : Field} {fs : List Field} {a b : Value} {r s : Bool} {w : World}
end
end Go.Proofs.YtcenlehfbgnphaaW.PrintWords
end
section
namespace Go.Proofs.YtcenlehfbgnphaaW.PrintWords
theorem Reps.front {α : Type} {R : α → List Value → Prop} {size : Nat} {ps : List α} {cs c all : List Value} {p : α} (hp : R p c) (hc : c.length = size) (h : Reps R size ps cs) (ha : c ++ cs = all) : Reps R size (p :: ps) all := by
  subst ha
  refine ⟨by rw [List.length_append,hc,h.1,List.length_cons,Nat.succ_mul,Nat.add_comm],fun j q hq => ?_⟩
  cases j with
  | zero =>
    simp only [List.getElem?_cons_zero,Option.some.injEq] at hq
    subst hq
    rw [Nat.zero_mul,List.drop_zero,List.take_append_of_le_length (by omega),List.take_of_length_le (by omega)]
    exact hp
  | succ j =>
    simp only [List.getElem?_cons_succ] at hq
    have h1 := h.2 j q hq
    rw [Nat.succ_mul,List.drop_append,List.drop_of_length_le (by rw [hc];exact Nat.le_add_left _ _),List.nil_append,hc,Nat.add_sub_cancel]
    exact h1
theorem Reps.c2 {α : Type} {R : α → List Value → Prop} {ps : List α} {cs : List Value} {p : α} {va vb : Value} (hp : R p [va,vb]) (h : Reps R 2 ps cs) : Reps R 2 (p :: ps) (va :: vb :: cs) := Reps.front hp rfl h rfl
theorem Reps.c3 {α : Type} {R : α → List Value → Prop} {ps : List α} {cs : List Value} {p : α} {va vb vc : Value} (hp : R p [va,vb,vc]) (h : Reps R 3 ps cs) : Reps R 3 (p :: ps) (va :: vb :: vc :: cs) := Reps.front hp rfl h rfl
end Go.Proofs.YtcenlehfbgnphaaW.PrintWords
end
section
namespace Go.Proofs.YtcenlehfbgnphaaW.PrintLast
section
variable {P : Program} {ops : Array Oper} {Q : Exit → Act → World → Prop} {md : Region.Mode} {T : Bool × List (List Nat × List Nat)} {B : List Nat} {O : List Nat} {b : Nat → Bool} {i j n : Nat}
end
end Go.Proofs.YtcenlehfbgnphaaW.PrintLast
end
section
namespace Go.Proofs.YtcenlehfbgnphaaW.PrintWords
open Go.RowKit
end Go.Proofs.YtcenlehfbgnphaaW.PrintWords
namespace Go.Proofs.YtcenlehfbgnphaaW.PrintLast
section
variable {ops : Array Oper} {a : Act} {o og : Oper} {g : Nat} {t : Tmp} {u : Bool}
end
end Go.Proofs.YtcenlehfbgnphaaW.PrintLast
end
section
namespace Go.Proofs.YtcenlehfbgnphaaW.PrintWords
open Go.RowKit
section
variable {P : Program} {ops : Array Oper} {rest : List Oper} {o : Oper} {a : Act} {Q : Exit → Act → World → Prop} {W : World}
end
end Go.Proofs.YtcenlehfbgnphaaW.PrintWords
end
section
namespace Go.Proofs.YtcenlehfbgnphaaW.PrintWords
open Go.RowKit
namespace Kd
section
variable {α : Type} {d : Kd α} {e base n cap g : Nat} {ok ok' okp : Nat → Prop} {w w1 W : World} {v v1 : Value} {xs ys : List α}
end
section
variable {P : Program} {ops : Array Oper} {rest : List Oper} {o : Oper} {a : Act} {Q : Exit → Act → World → Prop} {Kc : Act → World → Prop} {α : Type}
end
end Kd
end Go.Proofs.YtcenlehfbgnphaaW.PrintWords
end
section
namespace Go.Proofs.YtcenlehfbgnphaaW.PrintMore
open Go.RowKit Go.Proofs.YtcenlehfbgnphaaW.PrintWords
namespace Kd
open Go.Proofs.YtcenlehfbgnphaaW.PrintWords.Kd
end Kd
namespace Kd
open Go.Proofs.YtcenlehfbgnphaaW.PrintWords.Kd
section
variable {α : Type} {d : Kd α} {e base g N : Nat} {ok : Nat → Prop} {W w1 : World} {u v : Value} {xs : List α}
end
end Kd
theorem max2_int (k k' : IntKind) (x y : Int) : Builtin.max2 (.int k x) (.int k' y) = pure (.int k (if x < y then y else x)) := by simp only [Builtin.max2,gt_iff_lt]
theorem min2_int (k k' : IntKind) (x y : Int) : Builtin.min2 (.int k x) (.int k' y) = pure (.int k (if y < x then y else x)) := by simp only [Builtin.min2]
theorem max_two (ats : Array TypeId) (ty : TypeId) (a b : Value) : Builtin.max_ ats ty #[a,b] = (Builtin.max2 a b >>= fun s => pure s) := by simp only [Builtin.max_,List.foldlM_cons,List.foldlM_nil]
theorem min_two (ats : Array TypeId) (ty : TypeId) (a b : Value) : Builtin.min_ ats ty #[a,b] = (Builtin.min2 a b >>= fun s => pure s) := by simp only [Builtin.min_,List.foldlM_cons,List.foldlM_nil]
theorem max_three (ats : Array TypeId) (ty : TypeId) (a b c : Value) : Builtin.max_ ats ty #[a,b,c] = (Builtin.max2 a b >>= fun s => Builtin.max2 s c >>= fun s => pure s) := by simp only [Builtin.max_,List.foldlM_cons,List.foldlM_nil]
theorem min_three (ats : Array TypeId) (ty : TypeId) (a b c : Value) : Builtin.min_ ats ty #[a,b,c] = (Builtin.min2 a b >>= fun s => Builtin.min2 s c >>= fun s => pure s) := by simp only [Builtin.min_,List.foldlM_cons,List.foldlM_nil]
theorem max_four (ats : Array TypeId) (ty : TypeId) (a b c d : Value) : Builtin.max_ ats ty #[a,b,c,d] = (Builtin.max2 a b >>= fun s => Builtin.max2 s c >>= fun s => Builtin.max2 s d >>= fun s => pure s) := by simp only [Builtin.max_,List.foldlM_cons,List.foldlM_nil]
theorem min_four (ats : Array TypeId) (ty : TypeId) (a b c d : Value) : Builtin.min_ ats ty #[a,b,c,d] = (Builtin.min2 a b >>= fun s => Builtin.min2 s c >>= fun s => Builtin.min2 s d >>= fun s => pure s) := by simp only [Builtin.min_,List.foldlM_cons,List.foldlM_nil]
end Go.Proofs.YtcenlehfbgnphaaW.PrintMore
namespace Go.Proofs.YtcenlehfbgnphaaW.PrintWords
open Go.RowKit
section
variable {P : Program} {ops : Array Oper} {rest : List Oper} {o : Oper} {a : Act} {Q : Exit → Act → World → Prop} {W : World}
theorem gate_callee {f : FuncId} {as0 : Array Operand} {ts : Array TypeId} (_ho : o.op = .call { callee := .value (.func f),args := as0,argTypes := ts }) (h : wpList P ops Q (o :: rest) a W) : wpList P ops Q (o :: rest) a W := h
end
namespace Kd
section
variable {α : Type} {d : Kd α} {e base : Nat} {ok : Nat → Prop} {W w1 : World} {v : Value} {xs : List α}
end
section
variable {α : Type} {d : Kd α} {e base g n cap : Nat} {ok oki okp : Nat → Prop} {W : World} {xs : List α} {i : Int} {c : List Value}
end
section
variable {α : Type} {d : Kd α} {e base b b' g N : Nat} {ok ok1 : Nat → Prop} {W W2 w1 : World} {u v : Value} {xs ys : List α} {S : Nat → Prop}
end
end Kd
end Go.Proofs.YtcenlehfbgnphaaW.PrintWords
namespace Go.Proofs.YtcenlehfbgnphaaW.PrintWords
open Go.RowKit
namespace Kd
section
variable {α β : Type} {d : Kd α} {e base base' n m c g N' lo hi : Nat} {ok ok' S : Nat → Prop} {w W w1 : World} {A : Option Addr} {ad : Addr} {u v v1 : Value} {xs : List α}
end
end Kd
end Go.Proofs.YtcenlehfbgnphaaW.PrintWords
end
section
namespace Go.Proofs.Ytcenlehfbgnphaa.Y
open Go.RowKit Go.Proofs.YtcenlehfbgnphaaW.PrintWords Go.Proofs.YtcenlehfbgnphaaW.PrintLast Go.Proofs.YtcenlehfbgnphaaW.PrintMore
attribute [local go_sem] max2_int min2_int max_two min_two max_three min_three max_four min_four
set_option linter.unusedVariables false
set_option linter.unusedSimpArgs false
structure S31 where
  f0 : Int
  f1 : Int
def z31 : S31 := ⟨(0 : Int),(0 : Int)⟩
def k31 : Kd S31 := Kd.iso (Kd.pair (Kd.int .i64) (Kd.int .i64)) (fun x : S31 => (x.f0,x.f1))
theorem k31_open {w : World} {x : S31} {cs : List Value} (h : k31.K w x cs) : cs = [.int .i64 x.f0,.int .i64 x.f1] := by
  obtain ⟨_,_,rfl,rfl,rfl⟩ := h
  exact rfl
def rd_T31 (xs : List S31) (i : Int) : S31 := xs.getD i.toNat z31
theorem at_T31 {w : World} {A : Option Addr} {n : Nat} {xs : List S31} (h : Kd.C k31 w A n xs) (i : Int) (h0 : 0 ≤ i) (h1 : i < n) : ∃ ad ,A = some ad ∧ w.cell? (ad.add (i.toNat * 2)) = some (.int .i64 (rd_T31 xs i).f0) ∧ w.cell? ⟨(ad.add (i.toNat * 2)).block,(ad.add (i.toNat * 2)).off + 1,none⟩ = some (.int .i64 (rd_T31 xs i).f1) := by
  obtain ⟨ad,c,e,_,hK,hc0⟩ := Kd.C_get h z31 i h0 h1
  have hc : ∀ j u,c[j]? = some u → w.cell? (ad.add (i.toNat * 2 + j)) = some u := hc0
  obtain rfl := k31_open hK
  exact ⟨ad,e,hc 0 _ rfl,by rw [← add_field _ _ 1 (by omega)];exact hc 1 _ rfl⟩
end Go.Proofs.Ytcenlehfbgnphaa.Y
end
section
namespace Go.Proofs.Ytcenlehfbgnphaa.Z
open Go.RowKit Go.Proofs.YtcenlehfbgnphaaW.PrintWords Go.Proofs.YtcenlehfbgnphaaW.PrintLast Go.Proofs.YtcenlehfbgnphaaW.PrintMore
attribute [local go_sem] max2_int min2_int max_two min_two max_three min_three max_four min_four
set_option linter.unusedVariables false
set_option linter.unusedSimpArgs false
structure S45 where
  f0 : ByteArray
  f1 : ByteArray
  f2 : Int
  f3 : Int
end Go.Proofs.Ytcenlehfbgnphaa.Z
end
section
namespace Go.Proofs.Ytcenlehfbgnphaa.Z
open Go.RowKit Go.Proofs.YtcenlehfbgnphaaW.PrintWords Go.Proofs.YtcenlehfbgnphaaW.PrintLast Go.Proofs.YtcenlehfbgnphaaW.PrintMore
attribute [local go_sem] max2_int min2_int max_two min_two max_three min_three max_four min_four
set_option linter.unusedVariables false
set_option linter.unusedSimpArgs false
def safe_fits.f (a0 : Int) (a1 : Bool) : Option (Int × Int) := if a1 = true then (some (a0,0)) else (some (0,10))
set_option maxHeartbeats 8000000 in
set_option maxRecDepth 100000 in
theorem safe_fits.calls (a0 : Int) (a1 : Bool) (r1 : Int) (r2 : Int) (w : World) (h : safe_fits.f a0 a1 = some (r1,r2)) :
    Calls Try.prog 62 #[.int .i64 a0,.bool a1] w fun e w' => e = .returned (.tuple #[.int .i64 r1,.int .i64 r2]) ∧ Drawn0 w w' := by
  have H : (if a1 = true then (some (a0,0)) else (some (0,10))) = some (r1,r2) := h
  clear h
  by_cases c3 : a1 = true
  · subst c3
    have H1 : (some (a0,0)) = some (r1,r2) := by rw [if_pos rfl] at H;exact H
    clear H
    have H := H1
    clear H1
    simp only [Option.some.injEq,Prod.mk.injEq] at H
    obtain ⟨rfl,rfl⟩ := H
    go_enter Try.func62,Try.ntmps62
    go_wp2
    go_ret2
    exact ⟨by first | rfl | (simp;done) | (simp [*];done),by repeat (first | exact Drawn0.refl _ | apply Drawn0.step)⟩
  · replace c3 := Bool.eq_false_iff.mpr c3
    subst c3
    have H1 : (some (0,10)) = some (r1,r2) := by rw [if_neg (show ¬ (false = true) by decide)] at H;exact H
    clear H
    have H := H1
    clear H1
    simp only [Option.some.injEq,Prod.mk.injEq] at H
    obtain ⟨rfl,rfl⟩ := H
    go_enter Try.func62,Try.ntmps62
    go_wp2
    go_ret2
    exact ⟨by first | rfl | (simp;done) | (simp [*];done),by repeat (first | exact Drawn0.refl _ | apply Drawn0.step)⟩
end Go.Proofs.Ytcenlehfbgnphaa.Z
end
section
namespace Go.Proofs.Ytcenlehfbgnphaa.Z
set_option linter.unusedVariables false
set_option linter.unusedSimpArgs false
open Go.RowKit Go.Proofs.YtcenlehfbgnphaaW.PrintWords Go.Proofs.YtcenlehfbgnphaaW.PrintLast Go.Proofs.YtcenlehfbgnphaaW.PrintMore
def sumCells (x0 x1 x2 : Int) : Array Value := #[.int .i64 x0,.int .i64 x1,.int .i64 x2]
set_option maxHeartbeats 4000000 in
set_option maxRecDepth 100000 in
theorem sum_put' (g : Nat) (x0 x1 x2 n t L M X : Int) (w : World) (h : w.heap[g]? = some (.cells (sumCells x0 x1 x2) 26 (0,0))) (t0 : -1073741824 ≤ t) (t1 : t ≤ 1073741824)
    (hL : wrap64 (x2 + wrap64 (bits BinOp.and IntKind.i64 n 4294967295 * t)) = L) (hM : wrap64 (wrap64 (x1 + wrap64 (n / 4294967296 * t)) + L / 4294967296) = M) (hX : wrap64 (x0 + M / 4294967296) = X) :
    Calls Try.prog 15 #[.pointer (some ⟨g,0,none⟩),.int .i64 n,.int .i64 t] w fun e w' => e = .returned (.int .i64 0) ∧ w'.heap[g]? = some (.cells (sumCells X (bits BinOp.and IntKind.i64 M 4294967295) (bits BinOp.and IntKind.i64 L 4294967295)) 26 (0,0)) ∧ Below g w w' := by
  have z0 := blk_frozen h 0
  have z1 := blk_frozen h 1
  have z2 := blk_frozen h 2
  have c0 := blk_cell h 0
  have c1 := blk_cell h 1
  have c2 := blk_cell h 2
  simp only [sumCells,List.getElem?_toArray,List.getElem?_cons_zero,List.getElem?_cons_succ] at c0 c1 c2
  have H := Aside0.mk h
  have HL := Aside0.mk hL
  have HM := Aside0.mk hM
  have HX := Aside0.mk hX
  clear h hL hM hX
  go_enter Try.func15,Try.ntmps15
  go_wp2
  rw [HL.out,HM.out]
  go_region
  rw [HX.out]
  have H1 : (w.setCell ⟨g,0,none⟩ (.int .i64 X)).heap[g]? = some (.cells #[.int .i64 X,.int .i64 x1,.int .i64 x2] 26 (0,0)) := blk_put H.out 0 _ rfl
  have B1 := (Below.refl g w).setCell (p := ⟨g,0,none⟩) (Nat.le_refl g) (.int .i64 X)
  generalize w.setCell ⟨g,0,none⟩ (.int .i64 X) = W0 at H1 B1 ⊢
  have H1' := blk_drew H1
  have B1' := below_drew B1
  generalize W0.drew = W1 at H1' B1' ⊢
  clear H1 B1 H
  have H2 := blk_drew H1'
  have B2 := below_drew B1'
  go_wp2
  refine start_ (n := 14) (S := fun w' => True) (ds := []) #[false,false,false,false,false,false,false,false,false,false,false,false,false,false] (by kernel_rfl) rfl rfl trivial (fun hHeld => ?_)
  refine pure_ (i := 0) (N := some 53) (v := ?_) (a' := ?_) #[true,false,false,false,false,false,false,false,false,false,false,false,false,false] rfl rfl (by kernel_rfl) (fun _ _ _ h => h) (Or.inl ⟨by rfl,?_⟩) ?_ ?_
  rotate_left
  · intro w'
    go_simp
    with_reducible rfl
  rotate_left
  · simp only [Act.put,zA,zB,zC,i64_w,i32_w]
    rfl
  refine pure_ (i := 1) (N := some 54) (v := ?_) (a' := ?_) #[true,true,false,false,false,false,false,false,false,false,false,false,false,false] rfl rfl (by kernel_rfl) (fun _ _ _ h => h) (Or.inl ⟨by rfl,?_⟩) ?_ ?_
  rotate_left
  · intro w'
    go_simp
    with_reducible rfl
  rotate_left
  · simp only [Act.put,zA,zB,zC,i64_w,i32_w]
    rfl
  refine pure_ (i := 2) (N := some 55) (v := ?_) (a' := ?_) #[true,true,true,false,false,false,false,false,false,false,false,false,false,false] rfl rfl (by kernel_rfl) (fun _ _ _ h => h) (Or.inl ⟨by rfl,?_⟩) ?_ ?_
  rotate_left
  · intro w'
    go_simp
    with_reducible rfl
  rotate_left
  · simp only [Act.put,zA,zB,zC,i64_w,i32_w]
    rfl
  refine pure_ (i := 3) (N := some 56) (v := ?_) (a' := ?_) #[true,true,true,true,false,false,false,false,false,false,false,false,false,false] rfl rfl (by kernel_rfl) (fun _ _ _ h => h) (Or.inl ⟨by rfl,?_⟩) ?_ ?_
  rotate_left
  · intro w'
    go_simp
    with_reducible rfl
  rotate_left
  · simp only [Act.put,zA,zB,zC,i64_w,i32_w]
    rfl
  refine pure_ (i := 4) (N := some 57) (v := ?_) (a' := ?_) #[true,true,true,true,true,false,false,false,false,false,false,false,false,false] rfl rfl (by kernel_rfl) (fun _ _ _ h => h) (Or.inl ⟨by rfl,?_⟩) ?_ ?_
  rotate_left
  · intro w'
    go_simp
    with_reducible rfl
  rotate_left
  · simp only [Act.put,zA,zB,zC,i64_w,i32_w]
    rfl
  refine pure_ (i := 5) (N := some 58) (v := ?_) (a' := ?_) #[true,true,true,true,true,true,false,false,false,false,false,false,false,false] rfl rfl (by kernel_rfl) (fun _ _ _ h => h) (Or.inl ⟨by rfl,?_⟩) ?_ ?_
  rotate_left
  · intro w'
    go_simp
    with_reducible rfl
  rotate_left
  · simp only [Act.put,zA,zB,zC,i64_w,i32_w]
    rfl
  refine pure_ (i := 6) (N := some 59) (v := ?_) (a' := ?_) #[true,true,true,true,true,true,true,false,false,false,false,false,false,false] rfl rfl (by kernel_rfl) (fun _ _ _ h => h) (Or.inl ⟨by rfl,?_⟩) ?_ ?_
  rotate_left
  · intro w'
    go_simp
    with_reducible rfl
  rotate_left
  · simp only [Act.put,zA,zB,zC,i64_w,i32_w]
    rfl
  refine pure_ (i := 7) (N := some 60) (v := ?_) (a' := ?_) #[true,true,true,true,true,true,true,true,false,false,false,false,false,false] rfl rfl (by kernel_rfl) (fun _ _ _ h => h) (Or.inl ⟨by rfl,?_⟩) ?_ ?_
  rotate_left
  · intro w'
    go_simp
    with_reducible rfl
  rotate_left
  · simp only [Act.put,zA,zB,zC,i64_w,i32_w]
    rfl
  refine pure_ (i := 8) (N := some 61) (v := ?_) (a' := ?_) #[true,true,true,true,true,true,true,true,true,false,false,false,false,false] rfl rfl (by kernel_rfl) (fun _ _ _ h => h) (Or.inl ⟨by rfl,?_⟩) ?_ ?_
  rotate_left
  · intro w'
    go_simp
    with_reducible rfl
  rotate_left
  · simp only [Act.put,zA,zB,zC,i64_w,i32_w]
    rfl
  refine pure_ (i := 10) (N := some 62) (v := ?_) (a' := ?_) #[true,true,true,true,true,true,true,true,true,false,true,false,false,false] rfl rfl (by kernel_rfl) (fun _ _ _ h => h) (Or.inl ⟨by rfl,?_⟩) ?_ ?_
  rotate_left
  · intro w'
    go_simp
    with_reducible rfl
  rotate_left
  · simp only [Act.put,zA,zB,zC,i64_w,i32_w]
    rfl
  refine pure_ (i := 11) (N := some 63) (v := ?_) (a' := ?_) #[true,true,true,true,true,true,true,true,true,false,true,true,false,false] rfl rfl (by kernel_rfl) (fun _ _ _ h => h) (Or.inl ⟨by rfl,?_⟩) ?_ ?_
  rotate_left
  · intro w'
    go_simp
    with_reducible rfl
  rotate_left
  · simp only [Act.put,zA,zB,zC,i64_w,i32_w]
    rfl
  refine one_ (i := 9) (N := none) #[true,true,true,true,true,true,true,true,true,true,true,true,false,false] rfl rfl (by kernel_rfl) (by decide) (fun K hK => ?_)
  refine skip_ (w1 := (W1.drew).setCell ⟨g,1,none⟩ (.int .i64 (bits BinOp.and IntKind.i64 M 4294967295))) (by rfl) rfl ?_ ?_
  · have z := blk_frozen H2 1
    have c := blk_cell H2 1
    simp only [List.getElem?_toArray,List.getElem?_cons_zero,List.getElem?_cons_succ] at c
    go_simp
    try with_reducible rfl
  refine hK.out _ _ trivial (fun hHeld => ?_)
  clear hK K
  have H3 : ((W1.drew).setCell ⟨g,1,none⟩ (.int .i64 (bits BinOp.and IntKind.i64 M 4294967295))).heap[g]? = some (.cells #[.int .i64 X,.int .i64 (bits BinOp.and IntKind.i64 M 4294967295),.int .i64 x2] 26 (0,0)) := blk_put H2 1 _ rfl
  have B3 := B2.setCell (p := ⟨g,1,none⟩) (Nat.le_refl g) (.int .i64 (bits BinOp.and IntKind.i64 M 4294967295))
  generalize (W1.drew).setCell ⟨g,1,none⟩ (.int .i64 (bits BinOp.and IntKind.i64 M 4294967295)) = W2 at H3 B3 ⊢
  refine pure_ (i := 12) (N := some 64) (v := ?_) (a' := ?_) #[true,true,true,true,true,true,true,true,true,true,true,true,true,false] rfl rfl (by kernel_rfl) (fun _ _ _ h => h) (Or.inl ⟨by rfl,?_⟩) ?_ ?_
  rotate_left
  · intro w'
    go_simp
    with_reducible rfl
  rotate_left
  · simp only [Act.put,zA,zB,zC,i64_w,i32_w]
    rfl
  refine one_ (i := 13) (N := none) #[true,true,true,true,true,true,true,true,true,true,true,true,true,true] rfl rfl (by kernel_rfl) (by decide) (fun K hK => ?_)
  refine skip_ (w1 := (W2).setCell ⟨g,2,none⟩ (.int .i64 (bits BinOp.and IntKind.i64 L 4294967295))) (by rfl) rfl ?_ ?_
  · have z := blk_frozen H3 2
    have c := blk_cell H3 2
    simp only [List.getElem?_toArray,List.getElem?_cons_zero,List.getElem?_cons_succ] at c
    go_simp
    try with_reducible rfl
  refine hK.out _ _ trivial (fun hHeld => ?_)
  clear hK K
  refine done_ (by kernel_rfl) ?_
  go_wp2
  go_ret
  exact ⟨rfl,blk_put H3 2 _ rfl,B3.setCell (Nat.le_refl g) _⟩
set_option maxHeartbeats 2000000 in
set_option maxRecDepth 100000 in
theorem sum_value1 (g : Nat) (w : World) (h : w.heap[g]? = some (.cells (sumCells 1 0 0) 26 (0,0))) :
    Calls Try.prog 18 #[.pointer (some ⟨g,0,none⟩)] w fun e w' => e = .returned (.tuple #[.int .i64 0,.int .i64 10]) ∧ Drawn0 w w' := by
  have c0 := blk_cell h 0
  have c1 := blk_cell h 1
  have c2 := blk_cell h 2
  simp only [sumCells,List.getElem?_toArray,List.getElem?_cons_zero,List.getElem?_cons_succ] at c0 c1 c2
  go_enter Try.func18,Try.ntmps18
  go_wp2
  go_quiet (fail)
  go_wp2
  go_ret2
  exact ⟨by rfl,⟨⟨_,rfl⟩⟩⟩
set_option maxHeartbeats 2000000 in
set_option maxRecDepth 100000 in
theorem sum_value2 (g : Nat) (w : World) (h : w.heap[g]? = some (.cells (sumCells 0 1073741824 0) 26 (0,0))) :
    Calls Try.prog 18 #[.pointer (some ⟨g,0,none⟩)] w fun e w' => e = .returned (.tuple #[.int .i64 4611686018427387904,.int .i64 0]) ∧ Drawn0 w w' := by
  have c0 := blk_cell h 0
  have c1 := blk_cell h 1
  have c2 := blk_cell h 2
  simp only [sumCells,List.getElem?_toArray,List.getElem?_cons_zero,List.getElem?_cons_succ] at c0 c1 c2
  go_enter Try.func18,Try.ntmps18
  go_wp2
  go_quiet (fail)
  go_wp2
  go_ret2
  exact ⟨by rfl,⟨⟨_,rfl⟩⟩⟩
theorem sum_eq0 (w : World) : (Op.equalIn 10000 24 (Value.agg #[Value.int IntKind.i64 0,Value.int IntKind.i64 1073741824,Value.int IntKind.i64 0]) (Value.agg #[Value.int IntKind.i64 0,Value.int IntKind.i64 0,Value.int IntKind.i64 0])).run Try.prog w = .ok false w := by kernel_rfl
set_option maxHeartbeats 2000000 in
set_option maxRecDepth 100000 in
theorem sum_sign (g : Nat) (w : World) (h : w.heap[g]? = some (.cells (sumCells 0 1073741824 0) 26 (0,0))) :
    Calls Try.prog 20 #[.pointer (some ⟨g,0,none⟩)] w fun e w' => e = .returned (.int .i64 1) ∧ Drawn0 w w' := by
  have c0 := blk_cell h 0
  have c1 := blk_cell h 1
  have c2 := blk_cell h 2
  simp only [sumCells,List.getElem?_toArray,List.getElem?_cons_zero,List.getElem?_cons_succ] at c0 c1 c2
  have heq : ∀ w : World,(Op.equalIn 10000 24 (Value.agg #[Value.int IntKind.i64 0,Value.int IntKind.i64 1073741824,Value.int IntKind.i64 0]) (Value.agg #[Value.int IntKind.i64 0,Value.int IntKind.i64 0,Value.int IntKind.i64 0])).run Try.prog w = .ok false w := sum_eq0
  go_enter Try.func20,Try.ntmps20
  go_wp2
  go_ret
  exact ⟨rfl,Drawn0.refl _⟩
end Go.Proofs.Ytcenlehfbgnphaa.Z
end
section
namespace Go.Proofs.Ytcenlehfbgnphaa.Z
open Go.RowKit Go.Proofs.YtcenlehfbgnphaaW.PrintWords Go.Proofs.YtcenlehfbgnphaaW.PrintLast Go.Proofs.YtcenlehfbgnphaaW.PrintMore
attribute [local go_sem] max2_int min2_int max_two min_two max_three min_three max_four min_four
set_option linter.unusedVariables false
set_option linter.unusedSimpArgs false
def safe_Add.f (a0 : Int) (a1 : Int) : Option (Int × Int) := (safe_fits.f (wrap64 (a0 + a1)) (decide ((Go.bits .and .i64 (Go.bits .xor .i64 a0 (wrap64 (a0 + a1))) (Go.bits .xor .i64 a1 (wrap64 (a0 + a1)))) ≥ 0))).bind fun bt101 => (some (bt101.1,bt101.2))
set_option maxHeartbeats 8000000 in
set_option maxRecDepth 100000 in
theorem safe_Add.calls (a0 : Int) (a1 : Int) (r1 : Int) (r2 : Int) (w : World) (h : safe_Add.f a0 a1 = some (r1,r2)) :
    Calls Try.prog 23 #[.int .i64 a0,.int .i64 a1] w fun e w' => e = .returned (.tuple #[.int .i64 r1,.int .i64 r2]) ∧ Drawn0 w w' := by
  have H : ((safe_fits.f (wrap64 (a0 + a1)) (decide ((Go.bits .and .i64 (Go.bits .xor .i64 a0 (wrap64 (a0 + a1))) (Go.bits .xor .i64 a1 (wrap64 (a0 + a1)))) ≥ 0))).bind fun bt101 => (some (bt101.1,bt101.2))) = some (r1,r2) := h
  clear h
  replace H := Option.bind_eq_some_iff.mp H
  obtain ⟨⟨t101,t102⟩,A30,H⟩ := H
  replace H : (some (t101,t102)) = some (r1,r2) := H
  have A3 := Aside0.mk A30
  clear A30
  simp only [Option.some.injEq,Prod.mk.injEq] at H
  obtain ⟨rfl,rfl⟩ := H
  go_enter Try.func23,Try.ntmps23
  go_wp2_with (first | ((with_reducible refine gate_callee (f := 62) rfl ?_);refine goesL_ (some 19) rfl rfl Try.func62 (by kernel_rfl) rfl #[.int .i64 (wrap64 (a0 + a1)),.bool (decide ((Go.bits .and .i64 (Go.bits .xor .i64 a0 (wrap64 (a0 + a1))) (Go.bits .xor .i64 a1 (wrap64 (a0 + a1)))) ≥ 0))] rfl (by (try simp only [List.map_toArray,List.map_cons,List.map_nil]);first | done | rfl | (simp only [List.length_drop,List.length_take];rfl)) ?_;(with_reducible refine (safe_fits.calls (wrap64 (a0 + a1)) (decide ((Go.bits .and .i64 (Go.bits .xor .i64 a0 (wrap64 (a0 + a1))) (Go.bits .xor .i64 a1 (wrap64 (a0 + a1)))) ≥ 0)) t101 t102 _ A3.out).mono ?_);rintro e w' ⟨rfl,⟨nd,rfl⟩⟩;refine ⟨_,rfl,?_⟩))
  go_ret2
  exact ⟨by first | rfl | (simp;done) | (simp [*];done),by repeat (first | exact Drawn0.refl _ | apply Drawn0.step)⟩
end Go.Proofs.Ytcenlehfbgnphaa.Z
end
section
namespace Go.Proofs.Ytcenlehfbgnphaa.Z
open Go.RowKit Go.Proofs.YtcenlehfbgnphaaW.PrintWords Go.Proofs.YtcenlehfbgnphaaW.PrintLast Go.Proofs.YtcenlehfbgnphaaW.PrintMore
attribute [local go_sem] max2_int min2_int max_two min_two max_three min_three max_four min_four
set_option linter.unusedVariables false
set_option linter.unusedSimpArgs false
def safe_Sub.f (a0 : Int) (a1 : Int) : Option (Int × Int) := (safe_fits.f (wrap64 (a0 - a1)) (decide ((Go.bits .and .i64 (Go.bits .xor .i64 a0 a1) (Go.bits .xor .i64 a0 (wrap64 (a0 - a1)))) ≥ 0))).bind fun bt153 => (some (bt153.1,bt153.2))
set_option maxHeartbeats 8000000 in
set_option maxRecDepth 100000 in
theorem safe_Sub.calls (a0 : Int) (a1 : Int) (r1 : Int) (r2 : Int) (w : World) (h : safe_Sub.f a0 a1 = some (r1,r2)) :
    Calls Try.prog 25 #[.int .i64 a0,.int .i64 a1] w fun e w' => e = .returned (.tuple #[.int .i64 r1,.int .i64 r2]) ∧ Drawn0 w w' := by
  have H : ((safe_fits.f (wrap64 (a0 - a1)) (decide ((Go.bits .and .i64 (Go.bits .xor .i64 a0 a1) (Go.bits .xor .i64 a0 (wrap64 (a0 - a1)))) ≥ 0))).bind fun bt153 => (some (bt153.1,bt153.2))) = some (r1,r2) := h
  clear h
  replace H := Option.bind_eq_some_iff.mp H
  obtain ⟨⟨t153,t154⟩,A30,H⟩ := H
  replace H : (some (t153,t154)) = some (r1,r2) := H
  have A3 := Aside0.mk A30
  clear A30
  simp only [Option.some.injEq,Prod.mk.injEq] at H
  obtain ⟨rfl,rfl⟩ := H
  go_enter Try.func25,Try.ntmps25
  go_wp2_with (first | ((with_reducible refine gate_callee (f := 62) rfl ?_);refine goesL_ (some 19) rfl rfl Try.func62 (by kernel_rfl) rfl #[.int .i64 (wrap64 (a0 - a1)),.bool (decide ((Go.bits .and .i64 (Go.bits .xor .i64 a0 a1) (Go.bits .xor .i64 a0 (wrap64 (a0 - a1)))) ≥ 0))] rfl (by (try simp only [List.map_toArray,List.map_cons,List.map_nil]);first | done | rfl | (simp only [List.length_drop,List.length_take];rfl)) ?_;(with_reducible refine (safe_fits.calls (wrap64 (a0 - a1)) (decide ((Go.bits .and .i64 (Go.bits .xor .i64 a0 a1) (Go.bits .xor .i64 a0 (wrap64 (a0 - a1)))) ≥ 0)) t153 t154 _ A3.out).mono ?_);rintro e w' ⟨rfl,⟨nd,rfl⟩⟩;refine ⟨_,rfl,?_⟩))
  go_ret2
  exact ⟨by first | rfl | (simp;done) | (simp [*];done),by repeat (first | exact Drawn0.refl _ | apply Drawn0.step)⟩
end Go.Proofs.Ytcenlehfbgnphaa.Z
end
section
namespace Go.Proofs.Ytcenlehfbgnphaa.Z
open Go.RowKit Go.Proofs.YtcenlehfbgnphaaW.PrintWords Go.Proofs.YtcenlehfbgnphaaW.PrintLast Go.Proofs.YtcenlehfbgnphaaW.PrintMore
def In64 (x : Int) : Prop := -9223372036854775808 ≤ x ∧ x ≤ 9223372036854775807
theorem wrap_toInt (x : BitVec 64) : IntKind.i64.wrap (x.toNat : Int) = x.toInt := by
  rw [Go.IntKind.wrap_i64,BitVec.toInt_eq_toNat_bmod,Int.bmod_def]
  have := x.isLt
  split <;> omega
theorem and_i64 (a b : Int) : Go.bits .and .i64 a b = (BitVec.ofInt 64 a &&& BitVec.ofInt 64 b).toInt := wrap_toInt _
def fitF (n : Int) : Int × Int := if -9223372036854775808 ≤ n ∧ n ≤ 9223372036854775807 then (n,0) else (0,10)
end Go.Proofs.Ytcenlehfbgnphaa.Z
end
section
namespace Go.Proofs.Ytcenlehfbgnphaa.Z
set_option linter.unusedVariables false
set_option linter.unusedSimpArgs false
open Go.RowKit Go.Proofs.YtcenlehfbgnphaaW.PrintWords Go.Proofs.YtcenlehfbgnphaaW.PrintLast Go.Proofs.YtcenlehfbgnphaaW.PrintMore
theorem only_refl (a : World) (g : Nat) : a.grownBy a (some g) := ⟨rfl,rfl,rfl,Nat.le_refl _,fun _ _ _ => rfl⟩
theorem only_drewN {a w : World} {row : Option Nat} (h : a.grownBy w row) (n : Nat) : a.grownBy (w.drewN n) row := ⟨h.os,h.tape,h.output,h.size,h.block⟩
theorem only_drew {a w : World} {row : Option Nat} (h : a.grownBy w row) : a.grownBy w.drew row := ⟨h.os,h.tape,h.output,h.size,h.block⟩
theorem only_setCell {a w : World} {g : Nat} {p : Addr} (h : a.grownBy w (some g)) (hp : p.block = g ∨ a.heap.size ≤ p.block) (u : Value) : a.grownBy (w.setCell p u) (some g) :=
  ⟨h.os,h.tape,h.output,by simpa [World.setCell] using h.size,fun i hi hne => (Below.heap_setCell w p u i (by
    rintro rfl
    rcases hp with hp | hp
    · exact hne (by rw [hp])
    · omega)).trans (h.block i hi hne)⟩
theorem only_below {a w : World} {g B : Nat} (h : a.grownBy w (some g)) (hB : B ≤ g) (hg : g < a.heap.size) : Below B a w :=
  ⟨h.os,h.tape,h.output,h.size,fun i hi => h.block i (by omega) (by intro e;injection e with e;omega)⟩
theorem only_other {a w : World} {g k : Nat} {o : Obj} (h : a.grownBy w (some g)) (hk : a.heap[k]? = some o) (hne : k ≠ g) : w.heap[k]? = some o := by
  have hl : k < a.heap.size := by
    rcases Nat.lt_or_ge k a.heap.size with c | c
    · exact c
    · rw [Array.getElem?_eq_none c] at hk;exact absurd hk (by simp)
  rw [h.block k hl (by intro e;injection e with e;exact hne e)];exact hk
set_option maxHeartbeats 4000000 in
set_option maxRecDepth 100000 in
theorem sum_putg (g : Nat) (x0 x1 x2 n t L M X : Int) (w : World) (h : w.heap[g]? = some (.cells (sumCells x0 x1 x2) 26 (0,0))) (t0 : -1073741824 ≤ t) (t1 : t ≤ 1073741824)
    (hL : wrap64 (x2 + wrap64 (bits BinOp.and IntKind.i64 n 4294967295 * t)) = L) (hM : wrap64 (wrap64 (x1 + wrap64 (n / 4294967296 * t)) + L / 4294967296) = M) (hX : wrap64 (x0 + M / 4294967296) = X) :
    Calls Try.prog 15 #[.pointer (some ⟨g,0,none⟩),.int .i64 n,.int .i64 t] w fun e w' => e = .returned (.int .i64 0) ∧ w'.heap[g]? = some (.cells (sumCells X (bits BinOp.and IntKind.i64 M 4294967295) (bits BinOp.and IntKind.i64 L 4294967295)) 26 (0,0)) ∧ w.grownBy w' (some g) := by
  have z0 := blk_frozen h 0
  have z1 := blk_frozen h 1
  have z2 := blk_frozen h 2
  have c0 := blk_cell h 0
  have c1 := blk_cell h 1
  have c2 := blk_cell h 2
  simp only [sumCells,List.getElem?_toArray,List.getElem?_cons_zero,List.getElem?_cons_succ] at c0 c1 c2
  have H := Aside0.mk h
  have HL := Aside0.mk hL
  have HM := Aside0.mk hM
  have HX := Aside0.mk hX
  clear h hL hM hX
  go_enter Try.func15,Try.ntmps15
  go_wp2
  rw [HL.out,HM.out]
  go_region
  rw [HX.out]
  have H1 : (w.setCell ⟨g,0,none⟩ (.int .i64 X)).heap[g]? = some (.cells #[.int .i64 X,.int .i64 x1,.int .i64 x2] 26 (0,0)) := blk_put H.out 0 _ rfl
  have B1 := only_setCell (p := ⟨g,0,none⟩) (only_refl w g) (Or.inl rfl) (.int .i64 X)
  generalize w.setCell ⟨g,0,none⟩ (.int .i64 X) = W0 at H1 B1 ⊢
  have H1' := blk_drew H1
  have B1' := only_drew B1
  generalize W0.drew = W1 at H1' B1' ⊢
  clear H1 B1 H
  have H2 := blk_drew H1'
  have B2 := only_drew B1'
  go_wp2
  refine start_ (n := 14) (S := fun w' => True) (ds := []) #[false,false,false,false,false,false,false,false,false,false,false,false,false,false] (by kernel_rfl) rfl rfl trivial (fun hHeld => ?_)
  refine pure_ (i := 0) (N := some 53) (v := ?_) (a' := ?_) #[true,false,false,false,false,false,false,false,false,false,false,false,false,false] rfl rfl (by kernel_rfl) (fun _ _ _ h => h) (Or.inl ⟨by rfl,?_⟩) ?_ ?_
  rotate_left
  · intro w'
    go_simp
    with_reducible rfl
  rotate_left
  · simp only [Act.put,zA,zB,zC,i64_w,i32_w]
    rfl
  refine pure_ (i := 1) (N := some 54) (v := ?_) (a' := ?_) #[true,true,false,false,false,false,false,false,false,false,false,false,false,false] rfl rfl (by kernel_rfl) (fun _ _ _ h => h) (Or.inl ⟨by rfl,?_⟩) ?_ ?_
  rotate_left
  · intro w'
    go_simp
    with_reducible rfl
  rotate_left
  · simp only [Act.put,zA,zB,zC,i64_w,i32_w]
    rfl
  refine pure_ (i := 2) (N := some 55) (v := ?_) (a' := ?_) #[true,true,true,false,false,false,false,false,false,false,false,false,false,false] rfl rfl (by kernel_rfl) (fun _ _ _ h => h) (Or.inl ⟨by rfl,?_⟩) ?_ ?_
  rotate_left
  · intro w'
    go_simp
    with_reducible rfl
  rotate_left
  · simp only [Act.put,zA,zB,zC,i64_w,i32_w]
    rfl
  refine pure_ (i := 3) (N := some 56) (v := ?_) (a' := ?_) #[true,true,true,true,false,false,false,false,false,false,false,false,false,false] rfl rfl (by kernel_rfl) (fun _ _ _ h => h) (Or.inl ⟨by rfl,?_⟩) ?_ ?_
  rotate_left
  · intro w'
    go_simp
    with_reducible rfl
  rotate_left
  · simp only [Act.put,zA,zB,zC,i64_w,i32_w]
    rfl
  refine pure_ (i := 4) (N := some 57) (v := ?_) (a' := ?_) #[true,true,true,true,true,false,false,false,false,false,false,false,false,false] rfl rfl (by kernel_rfl) (fun _ _ _ h => h) (Or.inl ⟨by rfl,?_⟩) ?_ ?_
  rotate_left
  · intro w'
    go_simp
    with_reducible rfl
  rotate_left
  · simp only [Act.put,zA,zB,zC,i64_w,i32_w]
    rfl
  refine pure_ (i := 5) (N := some 58) (v := ?_) (a' := ?_) #[true,true,true,true,true,true,false,false,false,false,false,false,false,false] rfl rfl (by kernel_rfl) (fun _ _ _ h => h) (Or.inl ⟨by rfl,?_⟩) ?_ ?_
  rotate_left
  · intro w'
    go_simp
    with_reducible rfl
  rotate_left
  · simp only [Act.put,zA,zB,zC,i64_w,i32_w]
    rfl
  refine pure_ (i := 6) (N := some 59) (v := ?_) (a' := ?_) #[true,true,true,true,true,true,true,false,false,false,false,false,false,false] rfl rfl (by kernel_rfl) (fun _ _ _ h => h) (Or.inl ⟨by rfl,?_⟩) ?_ ?_
  rotate_left
  · intro w'
    go_simp
    with_reducible rfl
  rotate_left
  · simp only [Act.put,zA,zB,zC,i64_w,i32_w]
    rfl
  refine pure_ (i := 7) (N := some 60) (v := ?_) (a' := ?_) #[true,true,true,true,true,true,true,true,false,false,false,false,false,false] rfl rfl (by kernel_rfl) (fun _ _ _ h => h) (Or.inl ⟨by rfl,?_⟩) ?_ ?_
  rotate_left
  · intro w'
    go_simp
    with_reducible rfl
  rotate_left
  · simp only [Act.put,zA,zB,zC,i64_w,i32_w]
    rfl
  refine pure_ (i := 8) (N := some 61) (v := ?_) (a' := ?_) #[true,true,true,true,true,true,true,true,true,false,false,false,false,false] rfl rfl (by kernel_rfl) (fun _ _ _ h => h) (Or.inl ⟨by rfl,?_⟩) ?_ ?_
  rotate_left
  · intro w'
    go_simp
    with_reducible rfl
  rotate_left
  · simp only [Act.put,zA,zB,zC,i64_w,i32_w]
    rfl
  refine pure_ (i := 10) (N := some 62) (v := ?_) (a' := ?_) #[true,true,true,true,true,true,true,true,true,false,true,false,false,false] rfl rfl (by kernel_rfl) (fun _ _ _ h => h) (Or.inl ⟨by rfl,?_⟩) ?_ ?_
  rotate_left
  · intro w'
    go_simp
    with_reducible rfl
  rotate_left
  · simp only [Act.put,zA,zB,zC,i64_w,i32_w]
    rfl
  refine pure_ (i := 11) (N := some 63) (v := ?_) (a' := ?_) #[true,true,true,true,true,true,true,true,true,false,true,true,false,false] rfl rfl (by kernel_rfl) (fun _ _ _ h => h) (Or.inl ⟨by rfl,?_⟩) ?_ ?_
  rotate_left
  · intro w'
    go_simp
    with_reducible rfl
  rotate_left
  · simp only [Act.put,zA,zB,zC,i64_w,i32_w]
    rfl
  refine one_ (i := 9) (N := none) #[true,true,true,true,true,true,true,true,true,true,true,true,false,false] rfl rfl (by kernel_rfl) (by decide) (fun K hK => ?_)
  refine skip_ (w1 := (W1.drew).setCell ⟨g,1,none⟩ (.int .i64 (bits BinOp.and IntKind.i64 M 4294967295))) (by rfl) rfl ?_ ?_
  · have z := blk_frozen H2 1
    have c := blk_cell H2 1
    simp only [List.getElem?_toArray,List.getElem?_cons_zero,List.getElem?_cons_succ] at c
    go_simp
    try with_reducible rfl
  refine hK.out _ _ trivial (fun hHeld => ?_)
  clear hK K
  have H3 : ((W1.drew).setCell ⟨g,1,none⟩ (.int .i64 (bits BinOp.and IntKind.i64 M 4294967295))).heap[g]? = some (.cells #[.int .i64 X,.int .i64 (bits BinOp.and IntKind.i64 M 4294967295),.int .i64 x2] 26 (0,0)) := blk_put H2 1 _ rfl
  have B3 := only_setCell (p := ⟨g,1,none⟩) B2 (Or.inl rfl) (.int .i64 (bits BinOp.and IntKind.i64 M 4294967295))
  generalize (W1.drew).setCell ⟨g,1,none⟩ (.int .i64 (bits BinOp.and IntKind.i64 M 4294967295)) = W2 at H3 B3 ⊢
  refine pure_ (i := 12) (N := some 64) (v := ?_) (a' := ?_) #[true,true,true,true,true,true,true,true,true,true,true,true,true,false] rfl rfl (by kernel_rfl) (fun _ _ _ h => h) (Or.inl ⟨by rfl,?_⟩) ?_ ?_
  rotate_left
  · intro w'
    go_simp
    with_reducible rfl
  rotate_left
  · simp only [Act.put,zA,zB,zC,i64_w,i32_w]
    rfl
  refine one_ (i := 13) (N := none) #[true,true,true,true,true,true,true,true,true,true,true,true,true,true] rfl rfl (by kernel_rfl) (by decide) (fun K hK => ?_)
  refine skip_ (w1 := (W2).setCell ⟨g,2,none⟩ (.int .i64 (bits BinOp.and IntKind.i64 L 4294967295))) (by rfl) rfl ?_ ?_
  · have z := blk_frozen H3 2
    have c := blk_cell H3 2
    simp only [List.getElem?_toArray,List.getElem?_cons_zero,List.getElem?_cons_succ] at c
    go_simp
    try with_reducible rfl
  refine hK.out _ _ trivial (fun hHeld => ?_)
  clear hK K
  refine done_ (by kernel_rfl) ?_
  go_wp2
  go_ret
  exact ⟨rfl,blk_put H3 2 _ rfl,only_setCell B3 (Or.inl rfl) _⟩
end Go.Proofs.Ytcenlehfbgnphaa.Z
end
section
namespace Go.Proofs.Ytcenlehfbgnphaa.Z
set_option linter.unusedVariables false
set_option linter.unusedSimpArgs false
open Go.RowKit Go.Proofs.YtcenlehfbgnphaaW.PrintWords Go.Proofs.YtcenlehfbgnphaaW.PrintLast Go.Proofs.YtcenlehfbgnphaaW.PrintMore
def orV (x1 x2 : Int) : Int := bits BinOp.or IntKind.i64 (wrap64 (x1 * 4294967296)) x2
theorem toNat_ofInt64 (a : Int) : ((BitVec.ofInt 64 a).toNat : Int) = a % 18446744073709551616 := by
  rw [BitVec.toNat_ofInt]
  have : 0 ≤ a % ((2 ^ 64 : Nat) : Int) := Int.emod_nonneg _ (by decide)
  rw [Int.toNat_of_nonneg this]
  rfl
theorem toInt_small (x : BitVec 64) (h : x.toNat < 9223372036854775808) : x.toInt = (x.toNat : Int) := by
  rw [BitVec.toInt_eq_toNat_bmod,Int.bmod_def]
  split <;> omega
theorem and_low64 (n : Int) : bits BinOp.and IntKind.i64 n 4294967295 = n % 4294967296 := by
  rw [and_i64]
  have e : (BitVec.ofInt 64 n &&& BitVec.ofInt 64 4294967295).toNat = (BitVec.ofInt 64 n).toNat % 4294967296 := by
    rw [BitVec.toNat_and,show (BitVec.ofInt 64 4294967295).toNat = 2 ^ 32 - 1 by decide +kernel,Nat.and_two_pow_sub_one_eq_mod]
  have h := toNat_ofInt64 n
  rw [toInt_small _ (by rw [e];omega),e]
  omega
theorem or_low (x1 x2 : Int) (h0 : 0 ≤ x1) (h1 : x1 < 4294967296) (g0 : 0 ≤ x2) (g1 : x2 < 4294967296) : orV x1 x2 = wrap64 (x1 * 4294967296 + x2) := by
  unfold orV
  have ho : ∀ a b : Int,bits BinOp.or IntKind.i64 a b = (BitVec.ofInt 64 a ||| BitVec.ofInt 64 b).toInt := fun a b => wrap_toInt _
  rw [ho]
  have ha : (BitVec.ofInt 64 (wrap64 (x1 * 4294967296))).toNat = 2 ^ 32 * x1.toNat := by
    have h := toNat_ofInt64 (wrap64 (x1 * 4294967296))
    have : wrap64 (x1 * 4294967296) % 18446744073709551616 = x1 * 4294967296 := by unfold wrap64;omega
    omega
  have hb : (BitVec.ofInt 64 x2).toNat = x2.toNat := by
    have h := toNat_ofInt64 x2
    omega
  have e : (BitVec.ofInt 64 (wrap64 (x1 * 4294967296)) ||| BitVec.ofInt 64 x2).toNat = 2 ^ 32 * x1.toNat + x2.toNat := by
    rw [BitVec.toNat_or,ha,hb,Nat.two_pow_add_eq_or_of_lt (by omega)]
  rw [BitVec.toInt_eq_toNat_bmod,e,Int.bmod_def]
  unfold wrap64
  split <;> omega
structure SumAt (w : World) (g : Nat) (S : Int) : Prop where
  out : ∃ x0 x1 x2,w.heap[g]? = some (.cells (sumCells x0 x1 x2) 26 (0,0)) ∧ 0 ≤ x1 ∧ x1 < 4294967296 ∧ 0 ≤ x2 ∧ x2 < 4294967296 ∧ S = x0 * 18446744073709551616 + x1 * 4294967296 + x2
structure SumOk (S : Int) : Prop where
  lo : -1267650600228229401496703205376 ≤ S
  hi : S ≤ 1267650600228229401496703205376
theorem SumAt.new (w : World) : SumAt (w.alloc (Obj.cells (sumCells 0 0 0) 26 (0,0))) w.heap.size 0 := ⟨0,0,0,blk_new w _,by omega,by omega,by omega,by omega,by omega⟩
theorem SumAt.drawn {w w' : World} {g : Nat} {S : Int} (h : SumAt w g S) (d : Drawn0 w w') : SumAt w' g S := by
  obtain ⟨n,rfl⟩ := d.out
  obtain ⟨x0,x1,x2,hh,r⟩ := h.out
  exact ⟨x0,x1,x2,blk_drewN hh n,r⟩
theorem SumAt.other {w w' : World} {g k : Nat} {S : Int} (h : SumAt w k S) (d : w.grownBy w' (some g)) (hne : k ≠ g) : SumAt w' k S := by
  obtain ⟨x0,x1,x2,hh,r⟩ := h.out
  exact ⟨x0,x1,x2,only_other d hh hne,r⟩
theorem SumAt.lt {w : World} {g : Nat} {S : Int} (h : SumAt w g S) : g < w.heap.size := by
  obtain ⟨x0,x1,x2,hh,r⟩ := h.out
  rcases Nat.lt_or_ge g w.heap.size with c | c
  · exact c
  · rw [Array.getElem?_eq_none c] at hh;exact absurd hh (by simp)
theorem prod_bd {a t A : Int} (a0 : -A ≤ a) (a1 : a ≤ A) (t0 : -1073741824 ≤ t) (t1 : t ≤ 1073741824) : -(A * 1073741824) ≤ a * t ∧ a * t ≤ A * 1073741824 := by
  have hA : 0 ≤ A := by omega
  have h1 : (a.natAbs : Int) * (t.natAbs : Int) ≤ A * 1073741824 := Int.mul_le_mul (by omega) (by omega) (by omega) hA
  have h2 : ((a * t).natAbs : Int) = (a.natAbs : Int) * (t.natAbs : Int) := by rw [Int.natAbs_mul];rfl
  omega
theorem putM_parts (x0 x1 x2 P Q : Int) (a0 : 0 ≤ x1) (a1 : x1 < 4294967296) (b0 : 0 ≤ x2) (b1 : x2 < 4294967296) (p0 : -4611686018427387904 ≤ P) (p1 : P ≤ 4611686018427387904) (q0 : -2305843009213693952 ≤ Q) (q1 : Q ≤ 2305843009213693952) (c0 : -1000000000000000000 ≤ x0) (c1 : x0 ≤ 1000000000000000000) :
    wrap64 (x2 + wrap64 P) = x2 + P ∧ wrap64 (wrap64 (x1 + wrap64 Q) + (x2 + P) / 4294967296) = x1 + Q + (x2 + P) / 4294967296 ∧ wrap64 (x0 + (x1 + Q + (x2 + P) / 4294967296) / 4294967296) = x0 + (x1 + Q + (x2 + P) / 4294967296) / 4294967296 := by
  refine ⟨?_,?_,?_⟩ <;> unfold wrap64 <;> omega
theorem sum_put (g : Nat) (S n t : Int) (w : World) (h : SumAt w g S) (hs : SumOk S) (hn : In64 n) (t0 : -1073741824 ≤ t) (t1 : t ≤ 1073741824) :
    Calls Try.prog 15 #[.pointer (some ⟨g,0,none⟩),.int .i64 n,.int .i64 t] w fun e w' => e = .returned (.int .i64 0) ∧ SumAt w' g (S + n * t) ∧ w.grownBy w' (some g) := by
  obtain ⟨x0,x1,x2,hh,a0,a1,b0,b1,hS⟩ := h.out
  obtain ⟨n0,n1⟩ := hn
  obtain ⟨s0,s1⟩ := hs
  obtain ⟨p0,p1⟩ := prod_bd (a := n % 4294967296) (A := 4294967296) (by omega) (by omega) t0 t1
  obtain ⟨q0,q1⟩ := prod_bd (a := n / 4294967296) (A := 2147483648) (by omega) (by omega) t0 t1
  have hnt : n * t = n / 4294967296 * t * 4294967296 + n % 4294967296 * t := by
    have e : n = n / 4294967296 * 4294967296 + n % 4294967296 := by omega
    generalize n / 4294967296 = u at *
    generalize n % 4294967296 = v at *
    rw [e,Int.add_mul,Int.mul_right_comm]
  obtain ⟨hL,hM,hX⟩ := putM_parts x0 x1 x2 (n % 4294967296 * t) (n / 4294967296 * t) a0 a1 b0 b1 (by omega) (by omega) (by omega) (by omega) (by omega) (by omega)
  have hL' : wrap64 (x2 + wrap64 (bits BinOp.and IntKind.i64 n 4294967295 * t)) = x2 + n % 4294967296 * t := by rw [and_low64];exact hL
  refine (sum_putg g x0 x1 x2 n t _ _ _ w hh t0 t1 hL' hM hX).mono ?_
  rintro e w' ⟨rfl,hc,hg⟩
  refine ⟨rfl,⟨⟨_,_,_,hc,?_⟩⟩,hg⟩
  rw [and_low64,and_low64,hnt,hS]
  clear hL hL' hM hX hc hg
  generalize n % 4294967296 * t = P at *
  generalize n / 4294967296 * t = Q at *
  omega
end Go.Proofs.Ytcenlehfbgnphaa.Z
end
section
namespace Go.Proofs.Ytcenlehfbgnphaa.Z
set_option linter.unusedVariables false
set_option linter.unusedSimpArgs false
open Go.RowKit Go.Proofs.YtcenlehfbgnphaaW.PrintWords Go.Proofs.YtcenlehfbgnphaaW.PrintLast Go.Proofs.YtcenlehfbgnphaaW.PrintMore
set_option maxHeartbeats 2000000 in
set_option maxRecDepth 100000 in
theorem sum_value_a (g : Nat) (x1 x2 : Int) (w : World) (h : w.heap[g]? = some (.cells (sumCells 0 x1 x2) 26 (0,0))) (h1 : decide (x1 < 2147483648) = true) :
    Calls Try.prog 18 #[.pointer (some ⟨g,0,none⟩)] w fun e w' => e = .returned (.tuple #[.int .i64 (orV x1 x2),.int .i64 0]) ∧ Drawn0 w w' := by
  have c0 := blk_cell h 0
  have c1 := blk_cell h 1
  have c2 := blk_cell h 2
  simp only [sumCells,List.getElem?_toArray,List.getElem?_cons_zero,List.getElem?_cons_succ] at c0 c1 c2
  clear h
  go_enter Try.func18,Try.ntmps18
  go_wp2
  go_quiet (fail)
  go_wp2
  go_ret2
  exact ⟨by rfl,⟨⟨_,rfl⟩⟩⟩
set_option maxHeartbeats 2000000 in
set_option maxRecDepth 100000 in
theorem sum_value_b (g : Nat) (x1 x2 : Int) (w : World) (h : w.heap[g]? = some (.cells (sumCells 0 x1 x2) 26 (0,0))) (h1 : decide (x1 < 2147483648) = false) :
    Calls Try.prog 18 #[.pointer (some ⟨g,0,none⟩)] w fun e w' => e = .returned (.tuple #[.int .i64 0,.int .i64 10]) ∧ Drawn0 w w' := by
  have c0 := blk_cell h 0
  have c1 := blk_cell h 1
  have c2 := blk_cell h 2
  simp only [sumCells,List.getElem?_toArray,List.getElem?_cons_zero,List.getElem?_cons_succ] at c0 c1 c2
  clear h
  go_enter Try.func18,Try.ntmps18
  go_wp2
  go_quiet (fail)
  go_wp2
  go_ret2
  exact ⟨by rfl,⟨⟨_,rfl⟩⟩⟩
set_option maxHeartbeats 2000000 in
set_option maxRecDepth 100000 in
theorem sum_value_c (g : Nat) (x1 x2 : Int) (w : World) (h : w.heap[g]? = some (.cells (sumCells (-1) x1 x2) 26 (0,0))) (h1 : decide (2147483648 ≤ x1) = true) :
    Calls Try.prog 18 #[.pointer (some ⟨g,0,none⟩)] w fun e w' => e = .returned (.tuple #[.int .i64 (orV x1 x2),.int .i64 0]) ∧ Drawn0 w w' := by
  have c0 := blk_cell h 0
  have c1 := blk_cell h 1
  have c2 := blk_cell h 2
  simp only [sumCells,List.getElem?_toArray,List.getElem?_cons_zero,List.getElem?_cons_succ] at c0 c1 c2
  clear h
  go_enter Try.func18,Try.ntmps18
  go_wp2
  go_quiet (fail)
  go_wp2
  go_ret2
  exact ⟨by rfl,⟨⟨_,rfl⟩⟩⟩
set_option maxHeartbeats 2000000 in
set_option maxRecDepth 100000 in
theorem sum_value_d (g : Nat) (x1 x2 : Int) (w : World) (h : w.heap[g]? = some (.cells (sumCells (-1) x1 x2) 26 (0,0))) (h1 : decide (2147483648 ≤ x1) = false) :
    Calls Try.prog 18 #[.pointer (some ⟨g,0,none⟩)] w fun e w' => e = .returned (.tuple #[.int .i64 0,.int .i64 10]) ∧ Drawn0 w w' := by
  have c0 := blk_cell h 0
  have c1 := blk_cell h 1
  have c2 := blk_cell h 2
  simp only [sumCells,List.getElem?_toArray,List.getElem?_cons_zero,List.getElem?_cons_succ] at c0 c1 c2
  clear h
  go_enter Try.func18,Try.ntmps18
  go_wp2
  go_quiet (fail)
  go_wp2
  go_ret2
  exact ⟨by rfl,⟨⟨_,rfl⟩⟩⟩
set_option maxHeartbeats 2000000 in
set_option maxRecDepth 100000 in
theorem sum_value_e (g : Nat) (x0 x1 x2 : Int) (w : World) (h : w.heap[g]? = some (.cells (sumCells x0 x1 x2) 26 (0,0))) (h0 : (x0 == 0) = false) (h2 : (x0 == -1) = false) :
    Calls Try.prog 18 #[.pointer (some ⟨g,0,none⟩)] w fun e w' => e = .returned (.tuple #[.int .i64 0,.int .i64 10]) ∧ Drawn0 w w' := by
  have c0 := blk_cell h 0
  have c1 := blk_cell h 1
  have c2 := blk_cell h 2
  simp only [sumCells,List.getElem?_toArray,List.getElem?_cons_zero,List.getElem?_cons_succ] at c0 c1 c2
  clear h
  go_enter Try.func18,Try.ntmps18
  go_wp2
  go_quiet (fail)
  go_wp2
  go_ret2
  exact ⟨by rfl,⟨⟨_,rfl⟩⟩⟩
set_option maxRecDepth 100000 in
theorem sum_eqd (d : Nat) (x0 x1 x2 : Int) (w : World) : (Op.equalIn (d + 1 + 1) 24 (Value.agg #[Value.int IntKind.i64 x0,Value.int IntKind.i64 x1,Value.int IntKind.i64 x2]) (Value.agg #[Value.int IntKind.i64 0,Value.int IntKind.i64 0,Value.int IntKind.i64 0])).run Try.prog w = .ok (x0 == 0 && (x1 == 0 && x2 == 0)) w := by
  have hu : Try.prog.underlying 24 = some (.array 3 2) := by kernel_rfl
  obtain ⟨i,hi⟩ : ∃ i,Try.prog.info? 2 = some i := by
    have : (Try.prog.info? 2).isSome = true := by kernel_rfl
    exact Option.isSome_iff_exists.1 this
  have hc : Try.prog.cellsOf 2 = 1 := by kernel_rfl
  have h2 : Try.prog.underlying 2 = some (.int .i64) := by kernel_rfl
  have p0 (a b c : Value) : (part 2 #[a,b,c] 0).run Try.prog w = .ok a w := by kernel_rfl
  have p1 (a b c : Value) : (part 2 #[a,b,c] 1).run Try.prog w = .ok b w := by kernel_rfl
  have p2 (a b c : Value) : (part 2 #[a,b,c] 2).run Try.prog w = .ok c w := by kernel_rfl
  have hr : List.range 3 = [0,1,2] := rfl
  rw [run_equalIn_array w (d + 1) _ _ hu hi,hc,hr]
  simp only [Op.eqItems,Sem.run_bind,Nat.zero_mul,Nat.one_mul,Nat.mul_one,p0,p1,p2,Result.andThen_ok,run_equalIn_int w d 2 .i64 .i64 _ _ h2,Sem.run_ite]
  cases x0 == 0 <;> cases x1 == 0 <;> cases x2 == 0 <;> simp [Sem.run_bind,p1,p2,run_equalIn_int w d 2 .i64 .i64 _ _ h2,Sem.run_pure]
set_option maxRecDepth 100000 in
theorem sum_eqs (x0 x1 x2 : Int) (w : World) : (Op.equalIn 10000 24 (Value.agg #[Value.int IntKind.i64 x0,Value.int IntKind.i64 x1,Value.int IntKind.i64 x2]) (Value.agg #[Value.int IntKind.i64 0,Value.int IntKind.i64 0,Value.int IntKind.i64 0])).run Try.prog w = .ok (x0 == 0 && (x1 == 0 && x2 == 0)) w := sum_eqd 9998 x0 x1 x2 w
set_option maxHeartbeats 2000000 in
set_option maxRecDepth 100000 in
theorem sum_sign_z (g : Nat) (w : World) (h : w.heap[g]? = some (.cells (sumCells 0 0 0) 26 (0,0))) :
    Calls Try.prog 20 #[.pointer (some ⟨g,0,none⟩)] w fun e w' => e = .returned (.int .i64 0) ∧ Drawn0 w w' := by
  have c0 := blk_cell h 0
  have c1 := blk_cell h 1
  have c2 := blk_cell h 2
  simp only [sumCells,List.getElem?_toArray,List.getElem?_cons_zero,List.getElem?_cons_succ] at c0 c1 c2
  have heq : ∀ w : World,(Op.equalIn 10000 24 (Value.agg #[Value.int IntKind.i64 0,Value.int IntKind.i64 0,Value.int IntKind.i64 0]) (Value.agg #[Value.int IntKind.i64 0,Value.int IntKind.i64 0,Value.int IntKind.i64 0])).run Try.prog w = .ok true w := sum_eqs 0 0 0
  clear h
  go_enter Try.func20,Try.ntmps20
  go_wp2
  go_ret
  exact ⟨rfl,Drawn0.refl _⟩
set_option maxHeartbeats 2000000 in
set_option maxRecDepth 100000 in
theorem sum_sign_n (g : Nat) (x0 x1 x2 : Int) (w : World) (h : w.heap[g]? = some (.cells (sumCells x0 x1 x2) 26 (0,0))) (hz : (x0 == 0 && (x1 == 0 && x2 == 0)) = false) (hn : decide (x0 < 0) = true) :
    Calls Try.prog 20 #[.pointer (some ⟨g,0,none⟩)] w fun e w' => e = .returned (.int .i64 (-1)) ∧ Drawn0 w w' := by
  have c0 := blk_cell h 0
  have c1 := blk_cell h 1
  have c2 := blk_cell h 2
  simp only [sumCells,List.getElem?_toArray,List.getElem?_cons_zero,List.getElem?_cons_succ] at c0 c1 c2
  have heq : ∀ w : World,(Op.equalIn 10000 24 (Value.agg #[Value.int IntKind.i64 x0,Value.int IntKind.i64 x1,Value.int IntKind.i64 x2]) (Value.agg #[Value.int IntKind.i64 0,Value.int IntKind.i64 0,Value.int IntKind.i64 0])).run Try.prog w = .ok false w := fun w => by rw [sum_eqs,hz]
  clear h hz
  go_enter Try.func20,Try.ntmps20
  go_wp2
  go_ret
  exact ⟨rfl,Drawn0.refl _⟩
set_option maxHeartbeats 2000000 in
set_option maxRecDepth 100000 in
theorem sum_sign_p (g : Nat) (x0 x1 x2 : Int) (w : World) (h : w.heap[g]? = some (.cells (sumCells x0 x1 x2) 26 (0,0))) (hz : (x0 == 0 && (x1 == 0 && x2 == 0)) = false) (hn : decide (x0 < 0) = false) :
    Calls Try.prog 20 #[.pointer (some ⟨g,0,none⟩)] w fun e w' => e = .returned (.int .i64 1) ∧ Drawn0 w w' := by
  have c0 := blk_cell h 0
  have c1 := blk_cell h 1
  have c2 := blk_cell h 2
  simp only [sumCells,List.getElem?_toArray,List.getElem?_cons_zero,List.getElem?_cons_succ] at c0 c1 c2
  have heq : ∀ w : World,(Op.equalIn 10000 24 (Value.agg #[Value.int IntKind.i64 x0,Value.int IntKind.i64 x1,Value.int IntKind.i64 x2]) (Value.agg #[Value.int IntKind.i64 0,Value.int IntKind.i64 0,Value.int IntKind.i64 0])).run Try.prog w = .ok false w := fun w => by rw [sum_eqs,hz]
  clear h hz
  go_enter Try.func20,Try.ntmps20
  go_wp2
  go_ret
  exact ⟨rfl,Drawn0.refl _⟩
theorem sum_value (g : Nat) (S : Int) (w : World) (h : SumAt w g S) : Calls Try.prog 18 #[.pointer (some ⟨g,0,none⟩)] w fun e w' => e = .returned (.tuple #[.int .i64 (fitF S).1,.int .i64 (fitF S).2]) ∧ Drawn0 w w' := by
  obtain ⟨x0,x1,x2,hh,a0,a1,b0,b1,hS⟩ := h.out
  have ho := or_low x1 x2 a0 a1 b0 b1
  by_cases z : x0 = 0
  · subst z
    by_cases c : x1 < 2147483648
    · have e : fitF S = (orV x1 x2,0) := by
        unfold fitF
        rw [if_pos (by omega),ho]
        congr 1
        unfold wrap64
        omega
      rw [e]
      exact sum_value_a g x1 x2 w hh (decide_eq_true c)
    · have e : fitF S = (0,10) := by
        unfold fitF
        rw [if_neg (by omega)]
      rw [e]
      exact sum_value_b g x1 x2 w hh (decide_eq_false c)
  · by_cases z1 : x0 = -1
    · subst z1
      by_cases c : 2147483648 ≤ x1
      · have e : fitF S = (orV x1 x2,0) := by
          unfold fitF
          rw [if_pos (by omega),ho]
          congr 1
          unfold wrap64
          omega
        rw [e]
        exact sum_value_c g x1 x2 w hh (decide_eq_true c)
      · have e : fitF S = (0,10) := by
          unfold fitF
          rw [if_neg (by omega)]
        rw [e]
        exact sum_value_d g x1 x2 w hh (decide_eq_false c)
    · have e : fitF S = (0,10) := by
        unfold fitF
        rw [if_neg (by omega)]
      rw [e]
      exact sum_value_e g x0 x1 x2 w hh (by simpa using z) (by simpa using z1)
def sgnF (S : Int) : Int := if S < 0 then -1 else if S = 0 then 0 else 1
theorem sum_sgn (g : Nat) (S : Int) (w : World) (h : SumAt w g S) : Calls Try.prog 20 #[.pointer (some ⟨g,0,none⟩)] w fun e w' => e = .returned (.int .i64 (sgnF S)) ∧ Drawn0 w w' := by
  obtain ⟨x0,x1,x2,hh,a0,a1,b0,b1,hS⟩ := h.out
  unfold sgnF
  by_cases z : S = 0
  · obtain rfl : x0 = 0 := by omega
    obtain rfl : x1 = 0 := by omega
    obtain rfl : x2 = 0 := by omega
    rw [if_neg (by omega),if_pos z]
    exact sum_sign_z g w hh
  · have hz : (x0 == 0 && (x1 == 0 && x2 == 0)) = false := by
      rw [Bool.eq_false_iff]
      intro hc
      simp only [Bool.and_eq_true,beq_iff_eq] at hc
      omega
    by_cases n : x0 < 0
    · rw [if_pos (by omega)]
      exact sum_sign_n g x0 x1 x2 w hh hz (decide_eq_true n)
    · rw [if_neg (by omega),if_neg z]
      exact sum_sign_p g x0 x1 x2 w hh hz (decide_eq_false n)
set_option maxHeartbeats 2000000 in
set_option maxRecDepth 100000 in
theorem sum_put_lo (g : Nat) (n t : Int) (w : World) (ht : decide (t < -1073741824) = true) : Calls Try.prog 15 #[.pointer (some ⟨g,0,none⟩),.int .i64 n,.int .i64 t] w fun e w' => e = .returned (.int .i64 2) ∧ Drawn0 w w' := by
  go_enter Try.func15,Try.ntmps15
  go_wp2
  go_ret
  exact ⟨rfl,Drawn0.refl _⟩
set_option maxHeartbeats 2000000 in
set_option maxRecDepth 100000 in
theorem sum_put_hi (g : Nat) (n t : Int) (w : World) (hl : decide (t < -1073741824) = false) (ht : decide (1073741824 < t) = true) : Calls Try.prog 15 #[.pointer (some ⟨g,0,none⟩),.int .i64 n,.int .i64 t] w fun e w' => e = .returned (.int .i64 2) ∧ Drawn0 w w' := by
  go_enter Try.func15,Try.ntmps15
  go_wp2
  go_ret
  exact ⟨rfl,Drawn0.refl _⟩
def timesOk (t : Int) : Bool := decide (-1073741824 ≤ t ∧ t ≤ 1073741824)
theorem sum_put_any (g : Nat) (S n t : Int) (w : World) (h : SumAt w g S) (hs : SumOk S) (hn : In64 n) :
    Calls Try.prog 15 #[.pointer (some ⟨g,0,none⟩),.int .i64 n,.int .i64 t] w fun e w' => e = .returned (.int .i64 (if timesOk t then 0 else 2)) ∧ SumAt w' g (if timesOk t then S + n * t else S) ∧ w.grownBy w' (some g) := by
  unfold timesOk
  by_cases c : -1073741824 ≤ t ∧ t ≤ 1073741824
  · simp only [decide_eq_true c,if_true]
    exact sum_put g S n t w h hs hn c.1 c.2
  · simp only [decide_eq_false c,Bool.false_eq_true,if_false]
    have hd : ∀ w',Drawn0 w w' → SumAt w' g S ∧ w.grownBy w' (some g) := fun w' d => ⟨h.drawn d,by obtain ⟨k,rfl⟩ := d.out;exact only_drewN (only_refl w g) k⟩
    by_cases l : t < -1073741824
    · exact (sum_put_lo g n t w (decide_eq_true l)).mono fun e w' ⟨he,d⟩ => ⟨he,hd w' d⟩
    · exact (sum_put_hi g n t w (decide_eq_false l) (decide_eq_true (by omega))).mono fun e w' ⟨he,d⟩ => ⟨he,hd w' d⟩
end Go.Proofs.Ytcenlehfbgnphaa.Z
end
section
namespace Go.Proofs.Ytcenlehfbgnphaa.Y
set_option linter.unusedVariables false
set_option linter.unusedSimpArgs false
open Go.RowKit Go.Proofs.YtcenlehfbgnphaaW.PrintWords Go.Proofs.YtcenlehfbgnphaaW.PrintLast Go.Proofs.YtcenlehfbgnphaaW.PrintMore
open Go.Proofs.Ytcenlehfbgnphaa.Z
def vP (x : S31) : Int := if timesOk x.f1 then x.f0 * x.f1 else 0
def NumP (x : S31) : Prop := In64 x.f0 ∧ In64 x.f1
theorem rdp_get (l : List S31) (j : Nat) (h : j < l.length) : rd_T31 l (j : Int) = l[j] := by
  unfold rd_T31
  rw [Int.toNat_natCast,List.getD_eq_getElem?_getD,List.getElem?_eq_getElem h]
  rfl
def preP (l : List S31) : Nat → Int
  | 0 => 0
  | k + 1 => preP l k + vP (rd_T31 l (k : Int))
def sufP (l : List S31) (n : Nat) : Nat → Int
  | 0 => 0
  | k + 1 => sufP l n k + vP (rd_T31 l ((n - 1 - k : Nat) : Int))
theorem pre_shift (l : List S31) (n : Nat) : ∀ k,k ≤ n → sufP l n k + preP l (n - k) = preP l n := by
  intro k
  induction k with
  | zero => intro _;simp [sufP]
  | succ k ih =>
    intro h
    have := ih (by omega)
    rw [← this,sufP,show n - k = (n - (k + 1)) + 1 by omega,preP,show n - 1 - k = n - (k + 1) by omega]
    omega
theorem suf_all (l : List S31) (n : Nat) : sufP l n n = preP l n := by
  have := pre_shift l n n (Nat.le_refl _)
  rw [Nat.sub_self] at this
  simpa [preP] using this
def big93 : Int := 9903520314283042199192993792
theorem v_bd {x : S31} (h : In64 x.f0) : -big93 ≤ vP x ∧ vP x ≤ big93 := by
  unfold vP big93
  by_cases c : timesOk x.f1 = true
  · rw [if_pos c]
    have ht : -1073741824 ≤ x.f1 ∧ x.f1 ≤ 1073741824 := of_decide_eq_true c
    obtain ⟨h0,h1⟩ := h
    obtain ⟨p0,p1⟩ := prod_bd (A := 9223372036854775808) (by omega) (by omega) ht.1 ht.2
    omega
  · rw [if_neg c];omega
theorem num_rd {l : List S31} (h : ∀ x ∈ l,NumP x) {k : Nat} (hk : k < l.length) : NumP (rd_T31 l (k : Int)) := by
  rw [rdp_get l k hk];exact h _ (List.getElem_mem hk)
theorem pre_bd {l : List S31} (h : ∀ x ∈ l,NumP x) : ∀ k,k ≤ l.length → -(k * big93) ≤ preP l k ∧ preP l k ≤ k * big93 := by
  intro k
  induction k with
  | zero => intro _;simp [preP]
  | succ k ih =>
    intro hk
    obtain ⟨i0,i1⟩ := ih (by omega)
    obtain ⟨v0,v1⟩ := v_bd (num_rd h (show k < l.length by omega)).1
    rw [preP]
    unfold big93 at *
    omega
theorem suf_bd {l : List S31} (h : ∀ x ∈ l,NumP x) {n : Nat} (hn : n ≤ l.length) : ∀ k,k ≤ n → -(k * big93) ≤ sufP l n k ∧ sufP l n k ≤ k * big93 := by
  intro k
  induction k with
  | zero => intro _;simp [sufP]
  | succ k ih =>
    intro hk
    obtain ⟨i0,i1⟩ := ih (by omega)
    obtain ⟨v0,v1⟩ := v_bd (num_rd h (show n - 1 - k < l.length by omega)).1
    rw [sufP]
    unfold big93 at *
    omega
theorem ok_of {S : Int} {k : Nat} (hk : k ≤ 128) (h : -(k * big93) ≤ S ∧ S ≤ k * big93) : SumOk S := by
  unfold big93 at h
  exact ⟨by omega,by omega⟩
theorem put_v (S : Int) (x : S31) : (if timesOk x.f1 then S + x.f0 * x.f1 else S) = S + vP x := by
  unfold vP
  split <;> omega
theorem back_v {l : List S31} {n k : Nat} : preP l n - preP l (k + 1) = preP l n - preP l k - vP (rd_T31 l (k : Int)) := by
  rw [preP];omega
theorem neg_v (S : Int) (x : S31) (h : timesOk x.f1 = true) : S + x.f0 * (-x.f1) = S - vP x := by
  unfold vP
  rw [if_pos h,Int.mul_neg]
  omega
theorem neg_v0 (S : Int) (x : S31) (h : timesOk x.f1 = false) : S = S - vP x := by
  unfold vP
  rw [if_neg (by rw [h];exact Bool.false_ne_true)]
  omega
theorem back_bd {l : List S31} (h : ∀ x ∈ l,NumP x) {n k : Nat} (hn : n ≤ l.length) (hk : k ≤ n) (h100 : n ≤ 100) : SumOk (preP l n - preP l k) := by
  have hs := pre_shift l n (n - k) (by omega)
  rw [show n - (n - k) = k by omega] at hs
  have := suf_bd h hn (n - k) (by omega)
  rw [show preP l n - preP l k = sufP l n (n - k) by omega]
  exact ok_of (k := n - k) (by omega) this
def numPB (x : S31) : Bool := decide (-9223372036854775808 ≤ x.f0) && decide (x.f0 ≤ 9223372036854775807) && decide (-9223372036854775808 ≤ x.f1) && decide (x.f1 ≤ 9223372036854775807)
theorem num_all {l : List S31} (h : l.all numPB = true) : ∀ x ∈ l,NumP x := by
  intro x hx
  have := List.all_eq_true.1 h x hx
  unfold numPB at this
  simp only [Bool.and_eq_true,decide_eq_true_eq] at this
  unfold NumP In64
  omega
theorem all_num {l : List S31} (h : ∀ x ∈ l,NumP x) : l.all numPB = true := by
  rw [List.all_eq_true]
  intro x hx
  have := h x hx
  unfold numPB
  unfold NumP In64 at this
  simp only [Bool.and_eq_true,decide_eq_true_eq]
  omega
theorem in64_wf {a : Int} (h : (Lit.int .i64 a).wf = true) : In64 a := by
  simp [Lit.wf,IntKind.min,IntKind.max,IntKind.signed,IntKind.bits] at h
  unfold In64
  omega
end Go.Proofs.Ytcenlehfbgnphaa.Y
end
section
namespace Go.Proofs.Ytcenlehfbgnphaa.Z
set_option linter.unusedVariables false
set_option linter.unusedSimpArgs false
open Go.RowKit Go.Proofs.YtcenlehfbgnphaaW.PrintWords Go.Proofs.YtcenlehfbgnphaaW.PrintLast Go.Proofs.YtcenlehfbgnphaaW.PrintMore
theorem sum_put1 (g : Nat) (w : World) (h : w.heap[g]? = some (.cells (sumCells 0 0 0) 26 (0,0))) : Calls Try.prog 15 #[.pointer (some ⟨g,0,none⟩),.int .i64 4611686018427387904,.int .i64 4] w fun e w' => e = .returned (.int .i64 0) ∧ w'.heap[g]? = some (.cells (sumCells 1 0 0) 26 (0,0)) ∧ Below g w w' := by
  have := sum_put' g 0 0 0 4611686018427387904 4 0 4294967296 1 w h (by decide) (by decide) (by decide +kernel) (by decide +kernel) (by decide +kernel)
  rw [show bits BinOp.and IntKind.i64 4294967296 4294967295 = 0 by decide +kernel,show bits BinOp.and IntKind.i64 0 4294967295 = 0 by decide +kernel] at this
  exact this
theorem sum_put2 (g : Nat) (w : World) (h : w.heap[g]? = some (.cells (sumCells 1 0 0) 26 (0,0))) : Calls Try.prog 15 #[.pointer (some ⟨g,0,none⟩),.int .i64 4611686018427387904,.int .i64 (-3)] w fun e w' => e = .returned (.int .i64 0) ∧ w'.heap[g]? = some (.cells (sumCells 0 1073741824 0) 26 (0,0)) ∧ Below g w w' := by
  have := sum_put' g 1 0 0 4611686018427387904 (-3) 0 (-3221225472) 0 w h (by decide) (by decide) (by decide +kernel) (by decide +kernel) (by decide +kernel)
  rw [show bits BinOp.and IntKind.i64 (-3221225472) 4294967295 = 1073741824 by decide +kernel,show bits BinOp.and IntKind.i64 0 4294967295 = 0 by decide +kernel] at this
  exact this
theorem drawn_keeps {g : Nat} {o : Obj} {w w' : World} (h : w.heap[g]? = some o) (d : Drawn0 w w') : w'.heap[g]? = some o ∧ Below g w w' := by
  obtain ⟨n,rfl⟩ := d.out
  exact ⟨blk_drewN h n,pw_below_drewN (Below.refl g w) n⟩
theorem below_chain {B g : Nat} {w w1 w2 : World} (h : Below B w w1) (hg : B ≤ g) (k : Below g w1 w2) : Below B w w2 :=
  h.trans ⟨k.os,k.tape,k.output,k.size,fun i hi => k.block i (Nat.lt_of_lt_of_le hi hg)⟩
set_option maxHeartbeats 4000000 in
set_option maxRecDepth 100000 in
theorem safe_known (w : World) : Calls Try.prog 22 #[] w fun e w' => e = .returned (.bool true) ∧ Below w.heap.size w w' := by
  obtain ⟨g,hg⟩ : ∃ g,w.heap.size = g := ⟨_,rfl⟩
  have h0 := blk_new w (Obj.cells (sumCells 0 0 0) 26 (0,0))
  have b0 : Below w.heap.size w (w.alloc (Obj.cells (sumCells 0 0 0) 26 (0,0))) := below_alloc (Below.refl _ _) _
  have H0 := Aside0.mk h0
  have B0 := Aside0.mk b0
  clear h0 b0
  go_enter Try.func22,Try.ntmps22
  go_wp2_with (fail)
  change Calls Try.prog 15 _ (w.alloc (Obj.cells (sumCells 0 0 0) 26 (0,0))) _
  generalize w.alloc (Obj.cells (sumCells 0 0 0) 26 (0,0)) = w0 at H0 B0 ⊢
  have HG := Aside0.mk (Nat.le_of_eq hg)
  rw [hg] at H0
  clear hg
  refine (sum_put1 g w0 H0.out).mono ?_
  rintro e w1 ⟨rfl,h1,b1⟩
  have H1 := Aside0.mk h1
  have B1 := Aside0.mk (below_chain B0.out HG.out b1)
  clear h1 b1 H0 B0
  go_wp2_with (fail)
  refine (sum_value1 g w1 H1.out).mono ?_
  rintro e w2 ⟨rfl,d⟩
  have d' := drawn_keeps H1.out d
  have H2 := Aside0.mk d'.1
  have B2 := Aside0.mk (below_chain B1.out HG.out d'.2)
  clear d d' H1 B1
  go_wp2_with (fail)
  refine (sum_put2 g w2 H2.out).mono ?_
  rintro e w3 ⟨rfl,h3,b3⟩
  have H3 := Aside0.mk h3
  have B3 := Aside0.mk (below_chain B2.out HG.out b3)
  clear h3 b3 H2 B2
  go_wp2_with (fail)
  refine (sum_value2 g w3 H3.out).mono ?_
  rintro e w4 ⟨rfl,d⟩
  have d' := drawn_keeps H3.out d
  have H4 := Aside0.mk d'.1
  have B4 := Aside0.mk (below_chain B3.out HG.out d'.2)
  clear d d' H3 B3
  go_wp2_with (fail)
  refine (sum_sign g w4 H4.out).mono ?_
  rintro e w5 ⟨rfl,d⟩
  have d' := drawn_keeps H4.out d
  have B5 := Aside0.mk (below_chain B4.out HG.out d'.2)
  clear d d' H4 B4
  go_wp2_with (fail)
  go_ret
  exact ⟨rfl,B5.out⟩
end Go.Proofs.Ytcenlehfbgnphaa.Z
end
section
namespace Go.Proofs.Ytcenlehfbgnphaa.Z
open Go.RowKit Go.Proofs.YtcenlehfbgnphaaW.PrintWords Go.Proofs.YtcenlehfbgnphaaW.PrintLast Go.Proofs.YtcenlehfbgnphaaW.PrintMore
def verdererlaw03_known.f : Option Bool := some true
theorem verdererlaw03_known.calls (r : Bool) (w : World) (h : verdererlaw03_known.f = some r) :
    Calls Try.prog 22 #[] w fun e w' => e = .returned (.bool r) ∧ Below w.heap.size w w' := by
  obtain rfl : true = r := Option.some.inj h
  exact safe_known w
end Go.Proofs.Ytcenlehfbgnphaa.Z
end
section
namespace Go.Proofs.Ytcenlehfbgnphaa.Y
set_option linter.unusedVariables false
set_option linter.unusedSimpArgs false
open Go.RowKit Go.Proofs.YtcenlehfbgnphaaW.PrintWords Go.Proofs.YtcenlehfbgnphaaW.PrintLast Go.Proofs.YtcenlehfbgnphaaW.PrintMore
open Go.Proofs.Ytcenlehfbgnphaa.Z
theorem drawn_below {B : Nat} {w w' : World} (d : Drawn0 w w') : Below B w w' := by
  obtain ⟨n,rfl⟩ := d.out
  exact ⟨rfl,rfl,rfl,Nat.le_refl _,fun _ _ => rfl⟩
theorem le_chain {B : Nat} {w w' : World} (h : Below B w w') (e : w.heap.size = B) : B ≤ w'.heap.size := by have := h.size;omega
def nOf (l : List S31) : Nat := min l.length 100
set_option maxHeartbeats 4000000 in
set_option maxRecDepth 100000 in
theorem safe_order (A0 : Option Addr) (c0 : Nat) (l : List S31) (w : World) (hr : Kd.C k31 w A0 l.length l) (hc : l.length ≤ c0) (hn : ∀ x ∈ l,NumP x) (hl : l.length ≤ 9223372036854775807) :
    Calls Try.prog 4 #[.slice A0 l.length c0] w fun e w' => e = .returned (.bool true) ∧ Below w.heap.size w w' := by
  obtain ⟨B,hB⟩ : ∃ B,w.heap.size = B := ⟨_,rfl⟩
  have e0 : SumAt ((w.alloc (.cells (sumCells 0 0 0) 26)).alloc (.cells (sumCells 0 0 0) 26)) B 0 := by
    rw [← hB];exact ⟨0,0,0,blk_alloc (blk_new w _) _,by omega,by omega,by omega,by omega,by omega⟩
  have e1 : SumAt ((w.alloc (.cells (sumCells 0 0 0) 26)).alloc (.cells (sumCells 0 0 0) 26)) (B + 1) 0 := by
    have := SumAt.new (w.alloc (.cells (sumCells 0 0 0) 26))
    rw [show (w.alloc (Obj.cells (sumCells 0 0 0) 26)).heap.size = B + 1 by rw [← hB];simp] at this
    exact this
  have eB : Below B w ((w.alloc (.cells (sumCells 0 0 0) 26)).alloc (.cells (sumCells 0 0 0) 26)) := by
    rw [← hB];exact below_alloc (below_alloc (Below.refl _ _) _) _
  have HR := Aside0.mk hr
  have HC := Aside0.mk hc
  have HN := Aside0.mk hn
  have E0 := Aside0.mk e0
  have E1 := Aside0.mk e1
  have EB := Aside0.mk eB
  have HB0 := Aside0.mk hB
  clear hr hc hn e0 e1 eB
  go_enter Try.func4,Try.ntmps4
  go_wp2_with (fail)
  clear hB
  change Code.wp _ _ _ _ ((w.alloc (.cells (sumCells 0 0 0) 26)).alloc (.cells (sumCells 0 0 0) 26))
  generalize (w.alloc (.cells (sumCells 0 0 0) 26)).alloc (.cells (sumCells 0 0 0) 26) = w0 at *
  go_loopw [5] (fun i wr => ∃ k : Nat,i = .int .i64 (k : Int) ∧ k ≤ nOf l ∧ Aside0 (SumAt wr B (preP l k)) ∧ Aside0 (SumAt wr (B + 1) (sufP l (nOf l) k)) ∧ Aside0 (Below B w wr)) (fun i _ => nOf l - (intOf i).toNat)
  case atStart => exact ⟨0,rfl,Nat.zero_le _,E0,E1,EB⟩
  case round =>
    clear E0 E1 EB
    obtain ⟨k,rfl,hk,E0,E1,EB⟩ := hrel
    by_cases hlt : k < nOf l
    · have q0 : k < l.length := by unfold nOf at hlt;omega
      have q1 : k < 100 := by unfold nOf at hlt;omega
      have b0 : decide ((k : Int) < (l.length : Int)) = true := decide_eq_true (by omega)
      have b1 : decide ((k : Int) < 100) = true := decide_eq_true (by omega)
      obtain ⟨ad,e,x0,x1⟩ := at_T31 HR.out (k : Int) (by omega) (by omega)
      cases e
      have EBw : Below w.heap.size w wr := by rw [HB0.out];exact EB.out
      replace x0 := (EBw.cell (World.block_lt_of_cell? w _ x0)).trans x0
      replace x1 := (EBw.cell (World.block_lt_of_cell? w _ x1)).trans x1
      simp only [Int.toNat_natCast] at x0 x1
      clear EBw
      go_wp2_with (fail)
      go_still_tail 11,(by kernel_rfl)
      change wpList _ _ _ _ _ wr.drew
      have D0 := Aside0.mk (E0.out.drawn ⟨⟨1,rfl⟩⟩)
      have D1 := Aside0.mk (E1.out.drawn ⟨⟨1,rfl⟩⟩)
      have DB := Aside0.mk (below_drew1 EB.out)
      have y0 : wr.drew.cell? _ = some _ := x0
      have y1 : wr.drew.cell? _ = some _ := x1
      change Aside0 (SumAt wr.drew B _) at D0
      change Aside0 (SumAt wr.drew (B + 1) _) at D1
      clear x0 x1 E0 E1 EB
      generalize wr.drew = w1 at *
      go_wp2_with (fail)
      refine (sum_put_any B (preP l k) (rd_T31 l (k : Int)).f0 (rd_T31 l (k : Int)).f1 w1 D0.out (ok_of (k := k) (by omega) (pre_bd HN.out k (by omega))) (num_rd HN.out q0).1).mono ?_
      rintro e w2 ⟨rfl,hs,hg⟩
      rw [put_v] at hs
      have F0 := Aside0.mk (show SumAt w2 B (preP l (k + 1)) from hs)
      have F1 := Aside0.mk (D1.out.other hg (by omega))
      have FB := Aside0.mk (DB.out.trans (only_below (B := B) hg (Nat.le_refl B) D0.out.lt))
      clear hs hg D0 D1 DB y0 y1
      generalize (if timesOk (rd_T31 l (k : Int)).f1 = true then (0 : Int) else 2) = z1
      by_cases hm : (100 : Int) < (l.length : Int)
      · go_wp2_with (fail)
        have hnO : nOf l = 100 := by unfold nOf;omega
        obtain ⟨j,hj⟩ : ∃ j : Nat,(99 - (k : Int)) = (j : Int) := ⟨nOf l - 1 - k,by omega⟩
        have hj2 : j = nOf l - 1 - k := by omega
        rw [hj]
        have HJ := Aside0.mk hj2
        have q2 : j < l.length := by unfold nOf at *;omega
        clear hj hj2 hnO
        obtain ⟨ad2,e,x0,x1⟩ := at_T31 HR.out (j : Int) (by omega) (by omega)
        obtain rfl : ad = ad2 := (by injection e)
        have EBw : Below w.heap.size w w2 := by rw [HB0.out];exact FB.out
        replace x0 := (EBw.cell (World.block_lt_of_cell? w _ x0)).trans x0
        replace x1 := (EBw.cell (World.block_lt_of_cell? w _ x1)).trans x1
        simp only [Int.toNat_natCast] at x0 x1
        clear EBw
        go_still_tail 11,(by kernel_rfl)
        change wpList _ _ _ _ _ w2.drew
        have D0 := Aside0.mk (F0.out.drawn ⟨⟨1,rfl⟩⟩)
        have D1 := Aside0.mk (F1.out.drawn ⟨⟨1,rfl⟩⟩)
        have DB := Aside0.mk (below_drew1 FB.out)
        have y0 : w2.drew.cell? _ = some _ := x0
        have y1 : w2.drew.cell? _ = some _ := x1
        change Aside0 (SumAt w2.drew B _) at D0
        change Aside0 (SumAt w2.drew (B + 1) _) at D1
        clear x0 x1 F0 F1 FB
        generalize w2.drew = w3 at *
        go_wp2_with (fail)
        refine (sum_put_any (B + 1) (sufP l (nOf l) k) (rd_T31 l (j : Int)).f0 (rd_T31 l (j : Int)).f1 w3 D1.out (ok_of (k := k) (by omega) (suf_bd HN.out (by unfold nOf;omega) k (by omega))) (num_rd HN.out q2).1).mono ?_
        rintro e w4 ⟨rfl,hs,hg⟩
        rw [put_v,HJ.out] at hs
        have F1 := Aside0.mk (show SumAt w4 (B + 1) (sufP l (nOf l) (k + 1)) from hs)
        have F0 := Aside0.mk (D0.out.other hg (by omega))
        have FB := Aside0.mk (DB.out.trans (only_below (B := B) hg (by omega) D1.out.lt))
        clear hs hg D0 D1 DB y0 y1
        generalize (if timesOk (rd_T31 l (j : Int)).f1 = true then (0 : Int) else 2) = z2
        go_wp2_with (fail)
        go_roundw
        case rel => exact ⟨k + 1,by go_num,by omega,F0,F1,FB⟩
        case measure => simp [intOf];omega
      · have hm' : (l.length : Int) ≤ 100 := by omega
        go_wp2_with (fail)
        have hnO : nOf l = l.length := by unfold nOf;omega
        obtain ⟨j,hj⟩ : ∃ j : Nat,((l.length : Int) - 1 - (k : Int)) = (j : Int) := ⟨nOf l - 1 - k,by omega⟩
        have hj2 : j = nOf l - 1 - k := by omega
        rw [hj]
        have HJ := Aside0.mk hj2
        have q2 : j < l.length := by unfold nOf at *;omega
        clear hj hj2 hnO
        obtain ⟨ad2,e,x0,x1⟩ := at_T31 HR.out (j : Int) (by omega) (by omega)
        obtain rfl : ad = ad2 := (by injection e)
        have EBw : Below w.heap.size w w2 := by rw [HB0.out];exact FB.out
        replace x0 := (EBw.cell (World.block_lt_of_cell? w _ x0)).trans x0
        replace x1 := (EBw.cell (World.block_lt_of_cell? w _ x1)).trans x1
        simp only [Int.toNat_natCast] at x0 x1
        clear EBw
        go_still_tail 11,(by kernel_rfl)
        change wpList _ _ _ _ _ w2.drew
        have D0 := Aside0.mk (F0.out.drawn ⟨⟨1,rfl⟩⟩)
        have D1 := Aside0.mk (F1.out.drawn ⟨⟨1,rfl⟩⟩)
        have DB := Aside0.mk (below_drew1 FB.out)
        have y0 : w2.drew.cell? _ = some _ := x0
        have y1 : w2.drew.cell? _ = some _ := x1
        change Aside0 (SumAt w2.drew B _) at D0
        change Aside0 (SumAt w2.drew (B + 1) _) at D1
        clear x0 x1 F0 F1 FB
        generalize w2.drew = w3 at *
        go_wp2_with (fail)
        refine (sum_put_any (B + 1) (sufP l (nOf l) k) (rd_T31 l (j : Int)).f0 (rd_T31 l (j : Int)).f1 w3 D1.out (ok_of (k := k) (by omega) (suf_bd HN.out (by unfold nOf;omega) k (by omega))) (num_rd HN.out q2).1).mono ?_
        rintro e w4 ⟨rfl,hs,hg⟩
        rw [put_v,HJ.out] at hs
        have F1 := Aside0.mk (show SumAt w4 (B + 1) (sufP l (nOf l) (k + 1)) from hs)
        have F0 := Aside0.mk (D0.out.other hg (by omega))
        have FB := Aside0.mk (DB.out.trans (only_below (B := B) hg (by omega) D1.out.lt))
        clear hs hg D0 D1 DB y0 y1
        generalize (if timesOk (rd_T31 l (j : Int)).f1 = true then (0 : Int) else 2) = z2
        go_wp2_with (fail)
        go_roundw
        case rel => exact ⟨k + 1,by go_num,by omega,F0,F1,FB⟩
        case measure => simp [intOf];omega
    · have hkn : k = nOf l := by omega
      subst hkn
      have EP := E1.out
      rw [suf_all] at EP
      clear E1
      have E1 := Aside0.mk EP
      clear EP
      by_cases hm : (100 : Int) < (l.length : Int)
      · have hnO : nOf l = 100 := by unfold nOf;omega
        have b0 : decide (nOf l < l.length) = true := decide_eq_true (by omega)
        have b1 : decide (((nOf l : Nat) : Int) < 100) = false := decide_eq_false (by omega)
        have b2 : nOf l < l.length := by omega
        have b3 : 100 ≤ nOf l := by omega
        clear hm hnO
        go_wp2_with (fail)
        refine (sum_value B _ wr E0.out).mono ?_
        rintro e w1 ⟨rfl,d⟩
        have F0 := Aside0.mk (E0.out.drawn d)
        have F1 := Aside0.mk (E1.out.drawn d)
        have FB := Aside0.mk (EB.out.trans (drawn_below d))
        clear d E0 E1 EB
        have HP := Aside0.mk (Eq.refl (preP l (nOf l)))
        go_wp2_with (fail)
        refine (sum_value (B + 1) _ w1 F1.out).mono ?_
        rintro e w2 ⟨rfl,d⟩
        have E0 := Aside0.mk (F0.out.drawn d)
        have E1 := Aside0.mk (F1.out.drawn d)
        have EB := Aside0.mk (FB.out.trans (drawn_below d))
        clear d F0 F1 FB
        generalize (fitF (preP l (nOf l))).1 = v1
        generalize (fitF (preP l (nOf l))).2 = v2
        go_wp2_with (fail)
        refine (sum_sgn B _ w2 E0.out).mono ?_
        rintro e w3 ⟨rfl,d⟩
        have F0 := Aside0.mk (E0.out.drawn d)
        have F1 := Aside0.mk (E1.out.drawn d)
        have FB := Aside0.mk (EB.out.trans (drawn_below d))
        clear d E0 E1 EB
        go_wp2_with (fail)
        refine (sum_sgn (B + 1) _ w3 F1.out).mono ?_
        rintro e w4 ⟨rfl,d⟩
        have E0 := Aside0.mk (F0.out.drawn d)
        have EB := Aside0.mk (FB.out.trans (drawn_below d))
        clear d F0 F1 FB
        generalize sgnF (preP l (nOf l)) = v3
        go_wp2_with (fail)
        go_loopw [11] (fun i wr => ∃ k : Nat,i = .int .i64 (k : Int) ∧ k ≤ nOf l ∧ Aside0 (SumAt wr B (preP l (nOf l) - preP l k)) ∧ Aside0 (Below B w wr)) (fun i _ => nOf l - (intOf i).toNat)
        case atStart => exact ⟨0,rfl,Nat.zero_le _,⟨by rw [preP,Int.sub_zero];exact E0.out⟩,EB⟩
        case round =>
          clear E0 EB
          obtain ⟨k,rfl,hk,E0,EB⟩ := hrel
          by_cases hlt : k < nOf l
          · have q0 : k < l.length := by unfold nOf at hlt;omega
            have q1 : k < 100 := by unfold nOf at hlt;omega
            have q3 : nOf l ≤ l.length := by unfold nOf;omega
            have q4 : nOf l ≤ 100 := by unfold nOf;omega
            have b0 : decide ((k : Int) < (l.length : Int)) = true := decide_eq_true (by omega)
            have b1 : decide ((k : Int) < 100) = true := decide_eq_true (by omega)
            obtain ⟨ad,e,x0,x1⟩ := at_T31 HR.out (k : Int) (by omega) (by omega)
            cases e
            have EBw : Below w.heap.size w wr := by rw [HB0.out];exact EB.out
            replace x0 := (EBw.cell (World.block_lt_of_cell? w _ x0)).trans x0
            replace x1 := (EBw.cell (World.block_lt_of_cell? w _ x1)).trans x1
            simp only [Int.toNat_natCast] at x0 x1
            clear EBw
            by_cases ht0 : -1073741824 ≤ (rd_T31 l (k : Int)).f1
            · by_cases ht1 : (rd_T31 l (k : Int)).f1 ≤ 1073741824
              · have d0 : decide (-1073741824 ≤ (rd_T31 l (k : Int)).f1) = true := decide_eq_true ht0
                have d1 : decide ((rd_T31 l (k : Int)).f1 ≤ 1073741824) = true := decide_eq_true ht1
                have HT := Aside0.mk (show timesOk (rd_T31 l (k : Int)).f1 = true from decide_eq_true ⟨ht0,ht1⟩)
                go_wp2_with (fail)
                go_still_tail 12,(by kernel_rfl)
                change wpList _ _ _ _ _ wr.drew
                have D0 := Aside0.mk (E0.out.drawn ⟨⟨1,rfl⟩⟩)
                have DB := Aside0.mk (below_drew1 EB.out)
                have y0 : wr.drew.cell? _ = some _ := x0
                have y1 : wr.drew.cell? _ = some _ := x1
                change Aside0 (SumAt wr.drew B _) at D0
                clear x0 x1 E0 EB
                generalize wr.drew = w5 at *
                go_wp2_with (fail)
                refine (sum_put B _ (rd_T31 l (k : Int)).f0 (-(rd_T31 l (k : Int)).f1) w5 D0.out (back_bd HN.out q3 (by omega) q4) (num_rd HN.out q0).1 (by omega) (by omega)).mono ?_
                rintro e w6 ⟨rfl,hs,hg⟩
                rw [neg_v _ _ HT.out,← back_v] at hs
                have F0 := Aside0.mk hs
                have FB := Aside0.mk (DB.out.trans (only_below (B := B) hg (Nat.le_refl B) D0.out.lt))
                clear hs hg D0 DB y0 y1
                go_wp2_with (fail)
                go_roundw
                case rel => exact ⟨k + 1,by go_num,by omega,F0,FB⟩
                case measure => simp [intOf];omega
              · have d0 : decide (-1073741824 ≤ (rd_T31 l (k : Int)).f1) = true := decide_eq_true ht0
                have d1 : decide ((rd_T31 l (k : Int)).f1 ≤ 1073741824) = false := decide_eq_false ht1
                have F0 := Aside0.mk (show SumAt wr B (preP l (nOf l) - preP l (k + 1)) by rw [back_v,← neg_v0 _ _ (decide_eq_false (fun h => ht1 h.2))];exact E0.out)
                clear E0
                go_wp2_with (fail)
                go_roundw
                case rel => exact ⟨k + 1,by go_num,by omega,F0,EB⟩
                case measure => simp [intOf];omega
            · have d0 : decide (-1073741824 ≤ (rd_T31 l (k : Int)).f1) = false := decide_eq_false ht0
              have F0 := Aside0.mk (show SumAt wr B (preP l (nOf l) - preP l (k + 1)) by rw [back_v,← neg_v0 _ _ (decide_eq_false (fun h => ht0 h.1))];exact E0.out)
              clear E0
              go_wp2_with (fail)
              go_roundw
              case rel => exact ⟨k + 1,by go_num,by omega,F0,EB⟩
              case measure => simp [intOf];omega
          · have hkn : k = nOf l := by omega
            subst hkn
            have EZ := Aside0.mk (show SumAt wr B 0 by rw [← Int.sub_self (preP l (nOf l))];exact E0.out)
            clear E0
            go_wp2_with (fail)
            refine (sum_value B 0 wr EZ.out).mono ?_
            rintro e w7 ⟨rfl,d⟩
            have F0 := Aside0.mk (EZ.out.drawn d)
            have FB := Aside0.mk (EB.out.trans (drawn_below d))
            clear d EZ EB
            rw [show fitF 0 = (0,0) from rfl]
            go_wp2_with (fail)
            refine (sum_sgn B 0 w7 F0.out).mono ?_
            rintro e w8 ⟨rfl,d⟩
            have EB := Aside0.mk (FB.out.trans (drawn_below d))
            clear d F0 FB
            rw [show sgnF 0 = 0 from rfl]
            go_wp2_with (fail)
            refine (safe_known w8).mono ?_
            rintro e w9 ⟨rfl,hb⟩
            have FB := Aside0.mk (EB.out.trans (hb.mono (le_chain EB.out HB0.out)))
            clear hb EB
            go_wp2_with (fail)
            go_ret
            exact ⟨rfl,by rw [HB0.out];exact FB.out⟩
      · have hnO : nOf l = l.length := by unfold nOf;omega
        have b0 : decide (nOf l < l.length) = false := decide_eq_false (by omega)
        have b2 : l.length ≤ nOf l := by omega
        clear hm hnO
        go_wp2_with (fail)
        refine (sum_value B _ wr E0.out).mono ?_
        rintro e w1 ⟨rfl,d⟩
        have F0 := Aside0.mk (E0.out.drawn d)
        have F1 := Aside0.mk (E1.out.drawn d)
        have FB := Aside0.mk (EB.out.trans (drawn_below d))
        clear d E0 E1 EB
        have HP := Aside0.mk (Eq.refl (preP l (nOf l)))
        go_wp2_with (fail)
        refine (sum_value (B + 1) _ w1 F1.out).mono ?_
        rintro e w2 ⟨rfl,d⟩
        have E0 := Aside0.mk (F0.out.drawn d)
        have E1 := Aside0.mk (F1.out.drawn d)
        have EB := Aside0.mk (FB.out.trans (drawn_below d))
        clear d F0 F1 FB
        generalize (fitF (preP l (nOf l))).1 = v1
        generalize (fitF (preP l (nOf l))).2 = v2
        go_wp2_with (fail)
        refine (sum_sgn B _ w2 E0.out).mono ?_
        rintro e w3 ⟨rfl,d⟩
        have F0 := Aside0.mk (E0.out.drawn d)
        have F1 := Aside0.mk (E1.out.drawn d)
        have FB := Aside0.mk (EB.out.trans (drawn_below d))
        clear d E0 E1 EB
        go_wp2_with (fail)
        refine (sum_sgn (B + 1) _ w3 F1.out).mono ?_
        rintro e w4 ⟨rfl,d⟩
        have E0 := Aside0.mk (F0.out.drawn d)
        have EB := Aside0.mk (FB.out.trans (drawn_below d))
        clear d F0 F1 FB
        generalize sgnF (preP l (nOf l)) = v3
        go_wp2_with (fail)
        go_loopw [11] (fun i wr => ∃ k : Nat,i = .int .i64 (k : Int) ∧ k ≤ nOf l ∧ Aside0 (SumAt wr B (preP l (nOf l) - preP l k)) ∧ Aside0 (Below B w wr)) (fun i _ => nOf l - (intOf i).toNat)
        case atStart => exact ⟨0,rfl,Nat.zero_le _,⟨by rw [preP,Int.sub_zero];exact E0.out⟩,EB⟩
        case round =>
          clear E0 EB
          obtain ⟨k,rfl,hk,E0,EB⟩ := hrel
          by_cases hlt : k < nOf l
          · have q0 : k < l.length := by unfold nOf at hlt;omega
            have q1 : k < 100 := by unfold nOf at hlt;omega
            have q3 : nOf l ≤ l.length := by unfold nOf;omega
            have q4 : nOf l ≤ 100 := by unfold nOf;omega
            have b0 : decide ((k : Int) < (l.length : Int)) = true := decide_eq_true (by omega)
            have b1 : decide ((k : Int) < 100) = true := decide_eq_true (by omega)
            obtain ⟨ad,e,x0,x1⟩ := at_T31 HR.out (k : Int) (by omega) (by omega)
            cases e
            have EBw : Below w.heap.size w wr := by rw [HB0.out];exact EB.out
            replace x0 := (EBw.cell (World.block_lt_of_cell? w _ x0)).trans x0
            replace x1 := (EBw.cell (World.block_lt_of_cell? w _ x1)).trans x1
            simp only [Int.toNat_natCast] at x0 x1
            clear EBw
            by_cases ht0 : -1073741824 ≤ (rd_T31 l (k : Int)).f1
            · by_cases ht1 : (rd_T31 l (k : Int)).f1 ≤ 1073741824
              · have d0 : decide (-1073741824 ≤ (rd_T31 l (k : Int)).f1) = true := decide_eq_true ht0
                have d1 : decide ((rd_T31 l (k : Int)).f1 ≤ 1073741824) = true := decide_eq_true ht1
                have HT := Aside0.mk (show timesOk (rd_T31 l (k : Int)).f1 = true from decide_eq_true ⟨ht0,ht1⟩)
                go_wp2_with (fail)
                go_still_tail 12,(by kernel_rfl)
                change wpList _ _ _ _ _ wr.drew
                have D0 := Aside0.mk (E0.out.drawn ⟨⟨1,rfl⟩⟩)
                have DB := Aside0.mk (below_drew1 EB.out)
                have y0 : wr.drew.cell? _ = some _ := x0
                have y1 : wr.drew.cell? _ = some _ := x1
                change Aside0 (SumAt wr.drew B _) at D0
                clear x0 x1 E0 EB
                generalize wr.drew = w5 at *
                go_wp2_with (fail)
                refine (sum_put B _ (rd_T31 l (k : Int)).f0 (-(rd_T31 l (k : Int)).f1) w5 D0.out (back_bd HN.out q3 (by omega) q4) (num_rd HN.out q0).1 (by omega) (by omega)).mono ?_
                rintro e w6 ⟨rfl,hs,hg⟩
                rw [neg_v _ _ HT.out,← back_v] at hs
                have F0 := Aside0.mk hs
                have FB := Aside0.mk (DB.out.trans (only_below (B := B) hg (Nat.le_refl B) D0.out.lt))
                clear hs hg D0 DB y0 y1
                go_wp2_with (fail)
                go_roundw
                case rel => exact ⟨k + 1,by go_num,by omega,F0,FB⟩
                case measure => simp [intOf];omega
              · have d0 : decide (-1073741824 ≤ (rd_T31 l (k : Int)).f1) = true := decide_eq_true ht0
                have d1 : decide ((rd_T31 l (k : Int)).f1 ≤ 1073741824) = false := decide_eq_false ht1
                have F0 := Aside0.mk (show SumAt wr B (preP l (nOf l) - preP l (k + 1)) by rw [back_v,← neg_v0 _ _ (decide_eq_false (fun h => ht1 h.2))];exact E0.out)
                clear E0
                go_wp2_with (fail)
                go_roundw
                case rel => exact ⟨k + 1,by go_num,by omega,F0,EB⟩
                case measure => simp [intOf];omega
            · have d0 : decide (-1073741824 ≤ (rd_T31 l (k : Int)).f1) = false := decide_eq_false ht0
              have F0 := Aside0.mk (show SumAt wr B (preP l (nOf l) - preP l (k + 1)) by rw [back_v,← neg_v0 _ _ (decide_eq_false (fun h => ht0 h.1))];exact E0.out)
              clear E0
              go_wp2_with (fail)
              go_roundw
              case rel => exact ⟨k + 1,by go_num,by omega,F0,EB⟩
              case measure => simp [intOf];omega
          · have hkn : k = nOf l := by omega
            subst hkn
            have EZ := Aside0.mk (show SumAt wr B 0 by rw [← Int.sub_self (preP l (nOf l))];exact E0.out)
            clear E0
            go_wp2_with (fail)
            refine (sum_value B 0 wr EZ.out).mono ?_
            rintro e w7 ⟨rfl,d⟩
            have F0 := Aside0.mk (EZ.out.drawn d)
            have FB := Aside0.mk (EB.out.trans (drawn_below d))
            clear d EZ EB
            rw [show fitF 0 = (0,0) from rfl]
            go_wp2_with (fail)
            refine (sum_sgn B 0 w7 F0.out).mono ?_
            rintro e w8 ⟨rfl,d⟩
            have EB := Aside0.mk (FB.out.trans (drawn_below d))
            clear d F0 FB
            rw [show sgnF 0 = 0 from rfl]
            go_wp2_with (fail)
            refine (safe_known w8).mono ?_
            rintro e w9 ⟨rfl,hb⟩
            have FB := Aside0.mk (EB.out.trans (hb.mono (le_chain EB.out HB0.out)))
            clear hb EB
            go_wp2_with (fail)
            go_ret
            exact ⟨rfl,by rw [HB0.out];exact FB.out⟩
def verdererlaw03_SafeOrder.f (l0 : List (S31)) : Option (Bool) := if decide (l0.length ≤ 9223372036854775807) && l0.all numPB then some true else none
theorem verdererlaw03_SafeOrder.calls (A0 : Option Addr) (c0 : Nat) (l0 : List (S31)) (r : Bool) (w : World) (hr0 : Kd.C k31 w A0 l0.length l0) (hc0 : l0.length ≤ c0) (h : verdererlaw03_SafeOrder.f l0 = some r) :
    Calls Try.prog 4 #[.slice A0 l0.length c0] w fun e w' => e = .returned (.bool r) ∧ Below w.heap.size w w' := by
  unfold verdererlaw03_SafeOrder.f at h
  split at h
  · rename_i hc
    rw [Bool.and_eq_true,decide_eq_true_eq] at hc
    obtain rfl := Option.some.inj h
    exact safe_order A0 c0 l0 w hr0 hc0 (num_all hc.2) hc.1
  · exact absurd h (by simp)
end Go.Proofs.Ytcenlehfbgnphaa.Y
end
section
namespace Go.Proofs.YtcenlehfbgnphaaW.PrintWords
open Go.RowKit Go.ChangeShapes Go.WideShapes
section
variable {P : Program} {α β : Type}
def OfTrod (P : Program) (t : TypeId) (d : Kd α) (G : α → Prop) : Prop :=
  ∀ (H : Type) (enc : TypeId × Value → H) (w : World) (base : Nat) (spare : Nat → Bool) (held : Bool) (fuel : Nat) (cs : List Value) (x : DataW H × List MemPlace),DataW.trod enc P w base spare held fuel t cs = some x → ∃ s,d.K w s cs ∧ G s
theorem ofTrod_int {t : TypeId} {k : IntKind} (ht : P.underlying t = some (.int k)) : OfTrod P t (Kd.int k) (fun n => (Lit.int k n).wf = true) := by
  intro H enc w base spare held fuel cs x h
  obtain ⟨n,rfl,_,hw⟩ := DataW.trod_int ht h
  exact ⟨n,rfl,hw⟩
theorem list_of_all {n : Nat} {Q : Nat → α → Prop} (h : ∀ i,i < n → ∃ x,Q i x) : ∃ xs : List α,xs.length = n ∧ ∀ i x,xs[i]? = some x → Q i x := by
  induction n with
  | zero => exact ⟨[],rfl,fun i x hx => by simp at hx⟩
  | succ n ih =>
    obtain ⟨xs,hl,hx⟩ := ih (fun i hi => h i (by omega))
    obtain ⟨y,hy⟩ := h n (by omega)
    refine ⟨xs ++ [y],by simp [hl],fun i x hi => ?_⟩
    rcases Nat.lt_trichotomy i xs.length with hlt | rfl | hgt
    · rw [List.getElem?_append_left hlt] at hi
      exact hx i x hi
    · rw [List.getElem?_append_right (Nat.le_refl _)] at hi
      simp at hi
      subst hi
      rw [hl]
      exact hy
    · rw [List.getElem?_append_right (by omega),List.getElem?_eq_none (by simp;omega)] at hi
      cases hi
theorem ofTrod_slice {t e : TypeId} {d : Kd α} {G : α → Prop} (ht : P.underlying t = some (.slice e)) (hc : P.cellsOf e = d.sz) (h : OfTrod P e d G) :
    OfTrod P t (Kd.slice e d) (fun l => l.length ≤ maxLen ∧ ∀ x ∈ l,G x) := by
  intro H enc w base spare held fuel cs x hx
  rcases Go.Deep.open_slice ht hx with ⟨rfl,_⟩ | ⟨a,len,cap,m,n,D,Pl,rfl,_,hl,hm,hmm,_,hel⟩
  · exact ⟨[],⟨none,0,rfl,Nat.le_refl _,Kd.C_nil d w⟩,by simp,fun x hx => by simp at hx⟩
  · have hlm : len ≤ m := by rw [hmm];split <;> omega
    obtain ⟨xs,hxl,hxs⟩ := list_of_all (n := len) (Q := fun i s => ∃ cs',w.cells? base (a.add (i * P.cellsOf e)) (P.cellsOf e) = some cs' ∧ d.K w s cs' ∧ G s) (fun i hi => by
      obtain ⟨cs',h1,h2⟩ := hel i (by omega)
      obtain ⟨s,h3,h4⟩ := h _ _ _ _ _ _ _ _ _ h2
      exact ⟨s,cs',h1,h3,h4⟩)
    refine ⟨xs,⟨some a,cap,by rw [hxl],by omega,rfl,by rw [hxl];unfold maxLen at hm;omega,fun _ => ⟨a,rfl,fun j p hp => ?_⟩⟩,by omega,fun x hx => ?_⟩
    · obtain ⟨cs',h1,h2,_⟩ := hxs j p hp
      obtain ⟨_,hcl,hcell⟩ := World.cells?_some h1
      refine ⟨cs',by rw [hcl,hc],h2,fun i u hu => ?_⟩
      have hi : i < P.cellsOf e := by
        rw [← hcl]
        exact (List.getElem?_eq_some_iff.1 hu).1
      have := hcell i hi
      rw [Go.Deep.add_add,hc] at this
      rw [this]
      exact hu
    · obtain ⟨i,hi,rfl⟩ := List.getElem_of_mem hx
      obtain ⟨_,_,_,h4⟩ := hxs i xs[i] (List.getElem?_eq_getElem hi)
      exact h4
def segOff (segs : List (TypeId × Nat)) (i : Nat) : Nat := ((segs.take i).map (·.2)).sum
def OfSegs (P : Program) (segs : List (TypeId × Nat)) (d : Kd α) (G : α → Prop) : Prop :=
  ∀ (H : Type) (enc : TypeId × Value → H) (w : World) (base : Nat) (spare : Nat → Bool) (held : Bool) (fuel : Nat) (cs : List Value),cs.length = segOff segs segs.length →
    (∀ i t c,segs[i]? = some (t,c) → ∃ x,DataW.trod enc P w base spare held fuel t ((cs.drop (segOff segs i)).take c) = some x) → ∃ s,d.K w s cs ∧ G s
theorem ofSegs_one {t : TypeId} {c : Nat} {d : Kd α} {G : α → Prop} (h : OfTrod P t d G) : OfSegs P [(t,c)] d G := by
  intro H enc w base spare held fuel cs hl hx
  obtain ⟨x,h1⟩ := hx 0 t c rfl
  have hl2 : cs.length = c := by simpa [segOff] using hl
  have e : ((cs.drop (segOff [(t,c)] 0)).take c) = cs := by simp [segOff,← hl2]
  rw [e] at h1
  exact h _ _ _ _ _ _ _ _ _ h1
theorem ofSegs_cons {t : TypeId} {c : Nat} {ts : List (TypeId × Nat)} {d : Kd α} {d' : Kd β} {G : α → Prop} {G' : β → Prop} (h : OfTrod P t d G) (h' : OfSegs P ts d' G') : OfSegs P ((t,c) :: ts) (Kd.pair d d') (fun x => G x.1 ∧ G' x.2) := by
  intro H enc w base spare held fuel cs hl hx
  obtain ⟨x,h1⟩ := hx 0 t c rfl
  have e : ((cs.drop (segOff ((t,c) :: ts) 0)).take c) = cs.take c := by simp [segOff]
  rw [e] at h1
  obtain ⟨s,h2,h3⟩ := h _ _ _ _ _ _ _ _ _ h1
  have hl' : (cs.drop c).length = segOff ts ts.length := by
    simp [segOff] at hl ⊢
    omega
  obtain ⟨s',h4,h5⟩ := h' H enc w base spare held fuel (cs.drop c) hl' (fun i t' c' hi => by
    obtain ⟨y,hy⟩ := hx (i + 1) t' c' (by simpa using hi)
    refine ⟨y,?_⟩
    have e2 : segOff ((t,c) :: ts) (i + 1) = c + segOff ts i := by simp [segOff]
    rw [e2] at hy
    rw [List.drop_drop]
    exact hy)
  exact ⟨(s,s'),⟨cs.take c,cs.drop c,(List.take_append_drop c cs).symm,h2,h4⟩,h3,h5⟩
theorem ofTrod_struct {t : TypeId} {fs : Array Field} {segs : List (TypeId × Nat)} {d : Kd α} {G : α → Prop} (ht : P.underlying t = some (.struct fs)) (hc : P.cellsOf t = segOff segs segs.length) (hn : fs.size = segs.length)
    (hfs : ∀ i (f : Field),fs[i]? = some f → segs[i]? = some (f.type,P.cellsOf f.type) ∧ f.offset = segOff segs i) (h : OfSegs P segs d G) : OfTrod P t d G := by
  intro H enc w base spare held fuel cs x hx
  obtain ⟨xs,n,_,_,hl,hxl,hf⟩ := DataW.trod_struct ht hx
  refine h H enc w base spare held n cs (by rw [hl,hc]) (fun i t' c' hi => ?_)
  have hlt : i < fs.size := by rw [hn];exact (List.getElem?_eq_some_iff.1 hi).1
  obtain ⟨h1,h2⟩ := hfs i fs[i] (Array.getElem?_eq_getElem hlt)
  rw [hi] at h1
  injection h1 with h1
  injection h1 with h1 h3
  have h4 := hf i fs[i] (Array.getElem?_eq_getElem hlt)
  rw [h2,← h3,← h1] at h4
  have hlt2 : i < xs.length := by omega
  rw [List.getElem?_eq_getElem hlt2] at h4
  exact ⟨_,h4⟩
theorem ofTrod_iso {t : TypeId} {d : Kd α} {G : α → Prop} (f : β → α) (g : α → β) (hg : ∀ a,f (g a) = a) (h : OfTrod P t d G) : OfTrod P t (Kd.iso d f) (fun x => G (f x)) := by
  intro H enc w base spare held fuel cs x hx
  obtain ⟨s,h1,h2⟩ := h _ _ _ _ _ _ _ _ _ hx
  exact ⟨g s,by show d.K w (f (g s)) cs;rw [hg];exact h1,by show G (f (g s));rw [hg];exact h2⟩
theorem cell_heap {w w' : World} (h : w.heap = w'.heap) (a : Addr) : w'.cell? a = w.cell? a := by unfold World.cell?;rw [h]
end
end Go.Proofs.YtcenlehfbgnphaaW.PrintWords
end
section
namespace Go.Proofs.Ytcenlehfbgnphaa.Y
open Go.RowKit Go.Proofs.YtcenlehfbgnphaaW.PrintWords Go.Proofs.YtcenlehfbgnphaaW.PrintLast Go.Proofs.YtcenlehfbgnphaaW.PrintMore
set_option maxRecDepth 100000
def G31 (x : S31) : Prop := ((Lit.int .i64 x.f0).wf = true) ∧ ((Lit.int .i64 x.f1).wf = true)
theorem of31 : OfTrod Try.prog 31 k31 G31 :=
  ofTrod_iso _ (fun a => (⟨a.1,a.2⟩ : S31)) (fun _ => rfl) (ofTrod_struct (segs := [(2,1),(2,1)]) Try.underlying31 (by kernel_rfl) rfl
    (by
      intro i f hf
      rcases i with _ | _ | i <;> simp at hf <;> subst hf <;> exact ⟨congrArg some (Prod.ext rfl (by kernel_rfl)),rfl⟩) (ofSegs_cons (ofTrod_int Try.underlying2) (ofSegs_one (ofTrod_int Try.underlying2))))
end Go.Proofs.Ytcenlehfbgnphaa.Y
end
section
namespace Go.Proofs.Ytcenlehfbgnphaa.Y
open Go.RowKit Go.Proofs.YtcenlehfbgnphaaW.PrintWords Go.Proofs.YtcenlehfbgnphaaW.PrintLast Go.Proofs.YtcenlehfbgnphaaW.PrintMore
theorem safeOrder_pure : ∀ (l0 : (List S31)),(l0.length ≤ maxLen ∧ ∀ x ∈ l0,G31 x) → verdererlaw03_SafeOrder.f l0 = some true := by
  intro l0 h
  unfold verdererlaw03_SafeOrder.f
  rw [if_pos]
  rw [Bool.and_eq_true,decide_eq_true_eq]
  refine ⟨?_,all_num (fun x hx => ⟨in64_wf (h.2 x hx).1,in64_wf (h.2 x hx).2⟩)⟩
  have := h.1
  unfold maxLen at this
  omega
end Go.Proofs.Ytcenlehfbgnphaa.Y
end
namespace Go.Proofs.Ytcenlehfbgnphaa.safeOrder
open Go.ChangeShapes Go.WideShapes Go.ChangeAt Go.RowKit Go.Proofs.YtcenlehfbgnphaaW.PrintWords
open Go.ChangeMaps (open_string shut_string)
set_option linter.unusedVariables false
theorem own : ownKnob Try.prog.godebug = none := by kernel_rfl
theorem laidOut : laidOutB Try.prog = true := by kernel_rfl
set_option maxRecDepth 100000 in
theorem lifted (os : Os) (started : os.Started) (H : Type) (enc : TypeId × Value → H) :
    ReturnsInHanded {} Try.checked os 4 .any (Rows.safeOrderSpec.pre6 enc Try.prog Try.f4 Rows.safeOrderRow.domain false) (Rows.safeOrderSpec.post enc Try.prog Try.f4 false true false false) := by
  refine returnsInHanded_of_change (C := Try.checked) own started (by kernel_rfl) Try.func4
    (ChangeSpec.witness6 (enc := enc) (C := Try.checked) false ⟨#[],#[.slice none 0 0],[]⟩ 8 (by kernel_rfl) (by kernel_rfl) (by kernel_rfl) (by kernel_rfl)) ?_
  intro W base args ds gs before hval0 hW hcnd _
  have hval : ∀ (j : Nat) t v,Try.f4.params[j]? = some t → args[j]? = some v → Value.okWide Try.prog W .any base t v := hval0
  have hW' := hW
  obtain ⟨p,q,hA0,hV,rfl,hfz,hnd⟩ := hW
  have hA : DataW.TrodAll enc Try.prog W 0 (fun _ => true) true Try.f4.params.toList args.toList ds p := hA0
  rw [Try.params4] at hA hval
  obtain ⟨v0,vs0,d0,ds0,p0,q0,hargs,rfl,rfl,h0,r0⟩ := trodAll_cons hA
  obtain ⟨rfl,rfl,rfl⟩ := trodAll_nil r0
  obtain rfl : args = #[v0] := by cases args;simp_all
  obtain ⟨rfl,rfl⟩ := trodVars_none hV
  obtain ⟨a0,len0,cap0,rfl⟩ := okWide_slice Try.underlying22 (hval 0 22 v0 rfl rfl)
  have k0 := h0
  have lt0 : ∀ x ∈ p0,x.block < W.heap.size := by obtain ⟨m,hm⟩ := k0;exact DataW.trod_lt m _ _ _ hm
  obtain ⟨l0,hK0,hG0⟩ : ∃ l,((Kd.slice 31 Y.k31) : Kd (List Y.S31)).K W l [.slice a0 len0 cap0] ∧ (l.length ≤ maxLen ∧ ∀ x ∈ l,Y.G31 x) := by obtain ⟨fuel,hf⟩ := h0;exact (show OfTrod Try.prog 22 (Kd.slice 31 Y.k31) _ from (ofTrod_slice Try.underlying22 (by kernel_rfl) Y.of31)) _ _ _ _ _ _ _ _ _ hf
  obtain ⟨A0,c0,he0,hl0,hC0⟩ := hK0
  simp only [List.cons.injEq,Value.slice.injEq,and_true] at he0
  obtain ⟨rfl,rfl,rfl⟩ := he0
  clear hA0 hval0
  have h := Y.safeOrder_pure l0 hG0
  refine (Y.verdererlaw03_SafeOrder.calls _ _ l0 true W hC0 hl0 h).mono fun e W' ⟨he,bel⟩ => ?_
  subst he
  exact ⟨_,rfl,_,_,_,[],_,[],hW',trodAll_mk1 (shut_bool Try.underlying4 _),(trodAll_cons_mk (Below.trod laidOut (by kernel_rfl) (of_decide_eq_true (by kernel_rfl)) k0 bel lt0) trodAll_mk0),rfl,bel.frame _,fun h => by cases h⟩
theorem over : Rows.safeOrderRow.holds Try.pinned (OpenSpec.ofChange Rows.safeOrderSpec) :=
  OpenClaim.holds_of_wide 4 Try.f4 rfl rfl rfl rfl rfl rfl rfl ⟨rfl,rfl,rfl,rfl,rfl⟩ rfl rfl rfl rfl rfl (by kernel_rfl) Try.func4 (by kernel_rfl)
    (of_decide_eq_true (by kernel_rfl)) (by unfold Func.isWrapper;first | (rw [if_pos (by decide +kernel)];kernel_rfl) | (rw [if_neg (by decide +kernel)];exact ⟨rfl,rfl⟩))
    (fun os started H enc _ => lifted os started H enc)
theorem proved : Rows.SafeOrderSaid := over
#print axioms proved
end Go.Proofs.Ytcenlehfbgnphaa.safeOrder
namespace Go.Proofs.Ytcenlehfbgnphaa
theorem safeOrder_holds : Rows.SafeOrderSaid := safeOrder.proved
end Go.Proofs.Ytcenlehfbgnphaa
