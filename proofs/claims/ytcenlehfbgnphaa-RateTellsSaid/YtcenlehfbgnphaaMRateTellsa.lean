/-
  verdererlaw35.RateTells: for every input the law returns true, and each argument reads behind the call as it read before. No condition.
-/
import Derived.Below
import Derived.Deep.Draws
import Derived.Deep.AppendLies
import Derived.Maps.AppendAt
import Derived.OwnWalk
import Derived.Laws.BytesArg
import Derived.Laws.MakeOwn
import Derived.Laws.OwnMore
import Derived.Deep.OwnRows
import Derived.Tactics
import Derived.Lib.ConvBytes
import Derived.Laws.Slices
import Derived.WalkKit
import Derived.KernelRfl
import Derived.RowKit3
import Derived.Deep.LoopGhost
import Derived.Deep.QuietTactic
import Derived.BigQuiet
import Derived.WideLaws
import Derived.Deep.DeepCutAuto
import Derived.Deep.CutBlock
import Derived.Deep.RegionHeld3
import Derived.Laws.Rows
import Derived.Lib.AppendStr
import Derived.ArgAppend
import Derived.Laws.IdiomCopy
import Derived.RowKit
import Derived.OrdersHeld
import Derived.Laws.BitsLemmas
import Derived.Laws.StructEq
import Derived.Test.YtcenlehfbgnphaaProg
import Derived.Laws.Cover2
import Derived.Laws.FloatArith
import Derived.WalkLawsBesides
import Derived.WalkSpells
import Derived.Laws.Cover3
import Derived.Outline
import Derived.Deep.RegionWith
import Derived.Deep.Slices
import Derived.ProofKit
import Derived.Test.YtcenlehfbgnphaaRows
import Derived.OpenShut
import Derived.ShutString
import Derived.ChangeOld
namespace Go.Proofs.Ytcenlehfbgnphaa.Z
theorem zA {T : Type _} (l : List T) (i : Nat) (a : T) : l.toArray.setIfInBounds i a = (l.set i a).toArray := by simp
theorem zB {T : Type _} (x : T) (xs : List T) (a : T) : (x :: xs).set 0 a = a :: xs := rfl
theorem zC {T : Type _} (x : T) (xs : List T) (n : Nat) (a : T) : (x :: xs).set (n+1) a = x :: xs.set n a := rfl
end Go.Proofs.Ytcenlehfbgnphaa.Z
section
set_option linter.unusedVariables false
set_option linter.unusedSimpArgs false
namespace Go.Proofs.YtcenlehfbgnphaaW.PrintWords
open Go.RowKit
structure Aside0 (p : Prop) : Prop where mk :: (out : p)
structure Drawn0 (w w' : World) : Prop where mk :: (out : ∃ n,w' = w.drewN n)
theorem Drawn0.refl (w : World) : Drawn0 w w := ⟨⟨0,rfl⟩⟩
theorem Drawn0.below {w w' : World} (h : Drawn0 w w') : Below w.heap.size w w' := by
  obtain ⟨n,rfl⟩ := h
  induction n with
  | zero => exact Below.refl _ _
  | succ n ih => rw [← World.drew_drewN];exact ih.drew
def rd (xs : List Int) (i : Int) : Int := xs.getD i.toNat 0
theorem below_alloc {w W : World} (h : Below w.heap.size w W) (o : Obj) : Below w.heap.size w (W.alloc o) := h.alloc h.size o
theorem below_then {B : Nat} {w w1 w2 : World} (h : Below B w w1) (hB : B ≤ w1.heap.size) (k : Below w1.heap.size w1 w2) : Below B w w2 :=
  h.trans ⟨k.os,k.tape,k.output,k.size,fun i hi => k.block i (Nat.lt_of_lt_of_le hi hB)⟩
theorem grown_of_below {w w1 : World} (h : Below w.heap.size w w1) (row : Option Nat) : w.grownBy w1 row := ⟨h.os,h.tape,h.output,h.size,fun i hi _ => h.block i hi⟩
theorem pw_cell_below {w w1 : World} (h : Below w.heap.size w w1) {a : Addr} {v : Value} (hc : w.cell? a = some v) : w1.cell? a = some v := (h.cell (World.block_lt_of_cell? w a hc)).trans hc
def ReadsInt (w : World) (k : IntKind) (A : Option Addr) (n : Nat) (xs : List Int) : Prop :=
  xs.length = n ∧ n ≤ 9223372036854775807 ∧ (0 < n → ∃ ad,A = some ad ∧ ∀ j,j < n → w.cell? (ad.add j) = some (.int k (xs.getD j 0)))
theorem ReadsInt.below {w w1 : World} {k : IntKind} {A : Option Addr} {n : Nat} {xs : List Int} (h : ReadsInt w k A n xs) (hb : Below w.heap.size w w1) : ReadsInt w1 k A n xs :=
  ⟨h.1,h.2.1,fun hn => by
    obtain ⟨ad,e,hc⟩ := h.2.2 hn
    exact ⟨ad,e,fun j hj => pw_cell_below hb (hc j hj)⟩⟩
theorem own_base {w : World} {base : Nat} {e : TypeId} {size n : Nat} {v : Value} {xs : List Value} (h : w.ownsRow base e size v n xs) (k : Nat) (hk : v.ownBlock = some k) : base ≤ k := by
  rcases h.2 with ⟨rfl,_⟩ | ⟨g,cap,cur,rfl,hb,_⟩
  · simp [Value.ownBlock] at hk
  · have : g = k := by simpa [Value.ownBlock] using hk
    omega
theorem own_lt {w : World} {base : Nat} {e : TypeId} {size n : Nat} {v : Value} {xs : List Value} (h : w.ownsRow base e size v n xs) (k : Nat) (hk : v.ownBlock = some k) : k < w.heap.size := by
  rcases h.2 with ⟨rfl,_⟩ | ⟨g,cap,cur,rfl,hb,hh,_⟩
  · simp [Value.ownBlock] at hk
  · have : g = k := by simpa [Value.ownBlock] using hk
    subst this
    exact (Array.getElem?_eq_some_iff.1 hh).1
theorem pw_own_below {w w1 : World} {base : Nat} {e : TypeId} {size n : Nat} {v : Value} {xs : List Value} (h : w.ownsRow base e size v n xs) (hb : Below w.heap.size w w1) : w1.ownsRow base e size v n xs :=
  h.kept (grown_of_below hb none) (by cases v.ownBlock <;> simp)
section
variable {P : Program} {ops : Array Oper} {rest : List Oper} {o : Oper} {a : Act} {Q : Exit → Act → World → Prop}
end
section
variable {P : Program}
end
section
variable {P : Program} {ops : Array Oper} {rest : List Oper} {o : Oper} {a : Act} {Q : Exit → Act → World → Prop}
end
def LeO {α : Type} (a b : Option α) : Prop := ∀ r,a = some r → b = some r
theorem LeO.refl {α : Type} (a : Option α) : LeO a a := fun _ h => h
theorem LeO.none {α : Type} (b : Option α) : LeO Option.none b := fun _ h => by cases h
theorem LeO.trans {α : Type} {a b c : Option α} (h : LeO a b) (k : LeO b c) : LeO a c := fun r hr => k r (h r hr)
theorem LeO.map {α β : Type} {a a' : Option α} (f : α → β) (h : LeO a a') : LeO (a.map f) (a'.map f) := by
  intro r hr
  obtain ⟨x,hx,hf⟩ := Option.map_eq_some_iff.1 hr
  exact Option.map_eq_some_iff.2 ⟨x,h x hx,hf⟩
def Reps {α : Type} (R : α → List Value → Prop) (size : Nat) (ps : List α) (cs : List Value) : Prop :=
  cs.length = ps.length * size ∧ ∀ j p,ps[j]? = some p → R p ((cs.drop (j * size)).take size)
theorem Reps.none {α : Type} (R : α → List Value → Prop) (size : Nat) : Reps R size [] [] := ⟨by simp,fun j p h => by simp at h⟩
theorem Reps.imp_ {α : Type} {R R' : α → List Value → Prop} {size : Nat} {ps : List α} {cs : List Value} (h : Reps R size ps cs) (hR : ∀ p c,R p c → R' p c) : Reps R' size ps cs := ⟨h.1,fun j p hj => hR _ _ (h.2 j p hj)⟩
def ReadsRow {α : Type} (R : α → List Value → Prop) (size : Nat) (w : World) (A : Option Addr) (n : Nat) (ps : List α) : Prop :=
  ps.length = n ∧ n ≤ 9223372036854775807 ∧ (0 < n → ∃ ad,A = some ad ∧ ∀ j p,ps[j]? = some p → ∃ c,c.length = size ∧ R p c ∧ ∀ i u,c[i]? = some u → w.cell? (ad.add (j * size + i)) = some u)
theorem ReadsRow.imp_ {α : Type} {R R' : α → List Value → Prop} {size : Nat} {w w1 : World} {A : Option Addr} {n : Nat} {ps : List α} (h : ReadsRow R size w A n ps) (hb : Below w.heap.size w w1) (hR : ∀ p c,R p c → R' p c) : ReadsRow R' size w1 A n ps :=
  ⟨h.1,h.2.1,fun hn => by
    obtain ⟨ad,e,hc⟩ := h.2.2 hn
    refine ⟨ad,e,fun j p hj => ?_⟩
    obtain ⟨c,hs,hr,hcell⟩ := hc j p hj
    exact ⟨c,hs,hR _ _ hr,fun i u hu => pw_cell_below hb (hcell i u hu)⟩⟩
theorem own_reads_row {α : Type} {R : α → List Value → Prop} {w : World} {base n size : Nat} {e : TypeId} {v : Value} {ps : List α} {cs : List Value} (h : w.ownsRow base e size v n cs) (hR : Reps R size ps cs) (hn : ps.length = n) :
    ∃ A c,v = .slice A n c ∧ ReadsRow R size w A n ps := by
  rcases Nat.eq_zero_or_pos n with h0 | h0
  · rcases h.2 with ⟨rfl,rfl⟩ | ⟨g,cap,cur,rfl,_⟩
    · exact ⟨none,0,rfl,hn,by omega,fun hp => absurd hp (by omega)⟩
    · exact ⟨_,cap,rfl,hn,by omega,fun hp => absurd hp (by omega)⟩
  · obtain ⟨g,cap,rfl,_,_⟩ := h.form h0
    have hm : n ≤ 9223372036854775807 := by
      rcases h.2 with ⟨_,h1⟩ | ⟨g',cap',cur,he,_,_,h1,h2,_⟩
      · omega
      · simp only [maxLen] at h2
        omega
    refine ⟨_,cap,rfl,hn,hm,fun _ => ⟨_,rfl,fun j p hj => ⟨(cs.drop (j * size)).take size,?_,hR.2 j p hj,fun i u hu => ?_⟩⟩⟩
    · have hjl := (List.getElem?_eq_some_iff.1 hj).1
      have h1 : j * size + size ≤ cs.length := by rw [hR.1,← Nat.succ_mul];exact Nat.mul_le_mul_right _ hjl
      rw [List.length_take,List.length_drop]
      omega
    · refine h.cells (g := g) rfl _ u ?_
      rw [List.getElem?_take] at hu
      split at hu
      · rw [List.getElem?_drop] at hu
        exact hu
      · cases hu
section
variable {P : Program} {ops : Array Oper} {rest : List Oper} {o : Oper} {a : Act} {Q : Exit → Act → World → Prop}
end
theorem blk_lt {w : World} {g : Nat} {o : Obj} (h : w.heap[g]? = some o) : g < w.heap.size := (Array.getElem?_eq_some_iff.1 h).1
theorem blk_cell {w : World} {g : Nat} {t : TypeId} {cs : Array Value} (h : w.heap[g]? = some (.cells cs t (0,0))) (i : Nat) : w.cell? ⟨g,i,none⟩ = cs[i]? := cell_of_row w g i cs t (0,0) h
theorem blk_frozen {w : World} {g : Nat} {t : TypeId} {cs : Array Value} (h : w.heap[g]? = some (.cells cs t (0,0))) (i : Nat) : w.frozen? ⟨g,i,none⟩ = false := by simp [World.frozen?,h]
def KeepBut (w w' : World) (g : Nat) (row : Option Nat) : Prop := w.heap.size ≤ w'.heap.size ∧ ∀ i,i < w.heap.size → i ≠ g → some i ≠ row → w'.heap[i]? = w.heap[i]?
theorem KeepBut.refl (w : World) (g : Nat) (row : Option Nat) : KeepBut w w g row := ⟨Nat.le_refl _,fun _ _ _ _ => rfl⟩
theorem KeepBut.of_below {w w1 : World} (h : Below w.heap.size w w1) (g : Nat) (row : Option Nat) : KeepBut w w1 g row := ⟨h.size,fun i hi _ _ => h.block i hi⟩
theorem KeepBut.trans {w w1 w2 : World} {g : Nat} {row row1 : Option Nat} (h : KeepBut w w1 g row) (k : KeepBut w1 w2 g row1) (hr : row1 = row ∨ ∃ b,row1 = some b ∧ w.heap.size ≤ b) : KeepBut w w2 g row :=
  ⟨Nat.le_trans h.1 k.1,fun i hi hg hn => by
    refine (k.2 i (Nat.lt_of_lt_of_le hi h.1) hg ?_).trans (h.2 i hi hg hn)
    rcases hr with rfl | ⟨b,rfl,hb⟩
    · exact hn
    · intro e
      injection e with e
      omega⟩
theorem KeepBut.blk {w w1 : World} {g g' : Nat} {row : Option Nat} {o : Obj} (h : KeepBut w w1 g row) (hb : w.heap[g']? = some o) (hg : g' ≠ g) (hr : some g' ≠ row) : w1.heap[g']? = some o := (h.2 g' (blk_lt hb) hg hr).trans hb
theorem KeepBut.own {w w1 : World} {g : Nat} {row : Option Nat} {base : Nat} {e : TypeId} {size n : Nat} {v : Value} {xs : List Value} (h : KeepBut w w1 g row) (ho : w.ownsRow base e size v n xs) (hg : v.ownBlock ≠ some g) (hr : v.ownBlock = none ∨ v.ownBlock ≠ row) : w1.ownsRow base e size v n xs := by
  obtain ⟨h1,h2⟩ := ho
  refine ⟨h1,?_⟩
  rcases h2 with h2 | ⟨b,cap,cur,rfl,hb,hh,r⟩
  · exact .inl h2
  · refine .inr ⟨b,cap,cur,rfl,hb,h.blk hh ?_ ?_,r⟩
    · intro e
      exact hg (by rw [← e];rfl)
    · rcases hr with hr | hr
      · simp [Value.ownBlock] at hr
      · exact hr
section
variable {P : Program} {ops : Array Oper} {o : Oper} {a : Act} {Q : Exit → Act → World → Prop} {K : Act → World → Prop}
end
theorem own_weaken {w : World} {base base' : Nat} {e : TypeId} {size n : Nat} {v : Value} {xs : List Value} (h : w.ownsRow base e size v n xs) (hb : base' ≤ base) : w.ownsRow base' e size v n xs := by
  obtain ⟨h1,h2⟩ := h
  refine ⟨h1,?_⟩
  rcases h2 with h2 | ⟨g,cap,cur,rfl,hg,r⟩
  · exact .inl h2
  · exact .inr ⟨g,cap,cur,rfl,Nat.le_trans hb hg,r⟩
section
variable {α : Type} {enc : α → Value} {d : α}
def ReadsOf (enc : α → Value) (d : α) (w : World) (A : Option Addr) (n : Nat) (xs : List α) : Prop :=
  xs.length = n ∧ n ≤ 9223372036854775807 ∧ (0 < n → ∃ ad,A = some ad ∧ ∀ j,j < n → w.cell? (ad.add j) = some (enc (xs.getD j d)))
theorem ReadsOf.below {w w1 : World} {A : Option Addr} {n : Nat} {xs : List α} (h : ReadsOf enc d w A n xs) (hb : Below w.heap.size w w1) : ReadsOf enc d w1 A n xs :=
  ⟨h.1,h.2.1,fun hn => by
    obtain ⟨ad,e,hc⟩ := h.2.2 hn
    exact ⟨ad,e,fun j hj => pw_cell_below hb (hc j hj)⟩⟩
end
section
variable {α : Type} {P : Program} {ops : Array Oper} {rest : List Oper} {o : Oper} {a : Act} {Q : Exit → Act → World → Prop}
end
theorem blk_below {w w1 : World} {g : Nat} {o : Obj} (h : w.heap[g]? = some o) (hb : Below w.heap.size w w1) : w1.heap[g]? = some o := (hb.block g (blk_lt h)).trans h
theorem blk_new (w : World) (o : Obj) : (w.alloc o).heap[w.heap.size]? = some o := heap_alloc_new w o
section
variable {P : Program}
end
theorem own_le {w : World} {base n m c size : Nat} {e : TypeId} {A : Option Addr} {xs : List Value} (h : w.ownsRow base e size (.slice A m c) n xs) : m ≤ c := by
  rcases h.2 with ⟨he,_⟩ | ⟨g,cap,cur,he,_,_,hnc,_⟩
  · injection he with _ h2 h3
    omega
  · injection he with _ h2 h3
    omega
def OwnRow {α : Type} (R : α → List Value → Prop) (e : TypeId) (size : Nat) (w : World) (base : Nat) (v : Value) (ps : List α) : Prop :=
  ∃ inner,w.ownsRow base e size v ps.length inner ∧ Reps R size ps inner
section
variable {α : Type} {R R' : α → List Value → Prop} {e : TypeId} {size : Nat} {w w1 : World} {base : Nat} {v : Value} {ps : List α}
theorem OwnRow.imp_ (h : OwnRow R e size w base v ps) (hR : ∀ p c,R p c → R' p c) : OwnRow R' e size w base v ps := by
  obtain ⟨inner,ho,hr⟩ := h
  exact ⟨inner,ho,hr.imp_ hR⟩
theorem OwnRow.below (h : OwnRow R e size w base v ps) (hb : Below w.heap.size w w1) : OwnRow R e size w1 base v ps := by
  obtain ⟨inner,ho,hr⟩ := h
  exact ⟨inner,pw_own_below ho hb,hr⟩
theorem OwnRow.reads (h : OwnRow R e size w base v ps) : ∃ A c,v = .slice A ps.length c ∧ ps.length ≤ c ∧ ReadsRow R size w A ps.length ps := by
  obtain ⟨inner,ho,hr⟩ := h
  obtain ⟨A,c,rfl,hrow⟩ := own_reads_row ho hr rfl
  exact ⟨A,c,rfl,own_le ho,hrow⟩
end
section
variable {P : Program} {ops : Array Oper} {rest : List Oper} {o : Oper} {a : Act} {Q : Exit → Act → World → Prop} {α : Type} {R : α → List Value → Prop}
end
section
variable {P : Program} {ops : Array Oper} {o : Oper} {a : Act} {Q : Exit → Act → World → Prop} {K : Act → World → Prop} {α : Type} {R : α → List Value → Prop}
end
section
variable {α : Type} {P : Program}
end
section
variable {P : Program} {ops : Array Oper} {rest : List Oper} {o : Oper} {a : Act} {Q : Exit → Act → World → Prop}
end
structure Kd (α : Type) where
  sz : Nat
  E : List Nat
  K : World → α → List Value → Prop
  M : World → Nat → (Nat → Prop) → α → List Value → Prop
  K_len : ∀ {w x cs},K w x cs → cs.length = sz
  K_one : ∀ {w x cs},K w x cs → ∀ u ∈ cs,u.oneCell' = true
  K_below : ∀ {w w1 : World} {x cs},Below w.heap.size w w1 → K w x cs → K w1 x cs
  K_of_M : ∀ {w base ok x cs},M w base ok x cs → K w x cs
  M_mono : ∀ {w base ok ok' x cs},(∀ k,ok k → ok' k) → M w base ok x cs → M w base ok' x cs
  M_bound : ∀ {w : World} {base ok x cs},M w base ok x cs → M w base (fun k => ok k ∧ base ≤ k ∧ k < w.heap.size ∧ ∃ q,q ∈ E ∧ ∃ cells,w.heap[k]? = some (.cells cells q (0,0))) x cs
  M_move : ∀ {w w1 : World} {base ok x cs},(∀ k,ok k → w1.heap[k]? = w.heap[k]?) → M w base ok x cs → M w1 base ok x cs
  M_lower : ∀ {w base base' ok x cs},base' ≤ base → M w base ok x cs → M w base' ok x cs
theorem own_move {w w1 : World} {base : Nat} {e : TypeId} {size n : Nat} {v : Value} {xs : List Value} (h : w.ownsRow base e size v n xs) (hm : ∀ k,v.ownBlock = some k → w1.heap[k]? = w.heap[k]?) : w1.ownsRow base e size v n xs := by
  obtain ⟨h1,h2⟩ := h
  refine ⟨h1,?_⟩
  rcases h2 with h2 | ⟨g,cap,cur,rfl,hg,hh,r⟩
  · exact .inl h2
  · exact .inr ⟨g,cap,cur,rfl,hg,(hm g (by simp [Value.ownBlock])).trans hh,r⟩
theorem own_typed {w : World} {base : Nat} {e : TypeId} {size n : Nat} {v : Value} {xs : List Value} (h : w.ownsRow base e size v n xs) (k : Nat) (hk : v.ownBlock = some k) : ∃ cells,w.heap[k]? = some (.cells cells e (0,0)) := by
  rcases h.2 with ⟨rfl,_⟩ | ⟨g,cap,cur,rfl,hg,hh,r⟩
  · simp [Value.ownBlock] at hk
  · have : g = k := by simpa [Value.ownBlock] using hk
    subst this
    exact ⟨cur,hh⟩
namespace Kd
def C {α : Type} (d : Kd α) (w : World) (A : Option Addr) (n : Nat) (xs : List α) : Prop := ReadsRow (d.K w) d.sz w A n xs
def R {α : Type} (d : Kd α) (e : Nat) (w : World) (base : Nat) (ok : Nat → Prop) (v : Value) (xs : List α) : Prop :=
  (∀ k,v.ownBlock = some k → ok k) ∧ OwnRow (d.M w base (fun k => ok k ∧ some k ≠ v.ownBlock)) e d.sz w base v xs
section
variable {α : Type} {d : Kd α} {e : Nat} {w w1 : World} {base : Nat} {ok ok' : Nat → Prop} {v : Value} {xs : List α}
theorem C_below {A : Option Addr} {n : Nat} (h : d.C w A n xs) (hb : Below w.heap.size w w1) : d.C w1 A n xs := ReadsRow.imp_ h hb (fun _ _ hp => d.K_below hb hp)
theorem R_mono (h : d.R e w base ok v xs) (hok : ∀ k,ok k → ok' k) : d.R e w base ok' v xs := ⟨fun k hk => hok k (h.1 k hk),h.2.imp_ (fun _ _ hp => d.M_mono (fun k hk => ⟨hok k hk.1,hk.2⟩) hp)⟩
theorem R_bound (h : d.R e w base ok v xs) : d.R e w base (fun k => ok k ∧ base ≤ k ∧ k < w.heap.size ∧ ∃ q,q ∈ e :: d.E ∧ ∃ cells,w.heap[k]? = some (.cells cells q (0,0))) v xs := by
  obtain ⟨h0,inner,ho,hr⟩ := h
  refine ⟨fun k hk => ?_,inner,ho,hr.imp_ (fun _ _ hp => d.M_mono (fun k hk => ?_) (d.M_bound hp))⟩
  · obtain ⟨cells,hc⟩ := own_typed ho k hk
    exact ⟨h0 k hk,own_base ho k hk,own_lt ho k hk,e,List.mem_cons_self,cells,hc⟩
  · obtain ⟨⟨h1,h2⟩,h3,h4,q,hq,hc⟩ := hk
    exact ⟨⟨h1,h3,h4,q,List.mem_cons_of_mem _ hq,hc⟩,h2⟩
theorem R_move (h : d.R e w base ok v xs) (hm : ∀ k,ok k → w1.heap[k]? = w.heap[k]?) : d.R e w1 base ok v xs := by
  obtain ⟨h0,inner,ho,hr⟩ := h
  exact ⟨h0,inner,own_move ho (fun k hk => hm k (h0 k hk)),hr.imp_ (fun _ _ hp => d.M_move (fun k hk => hm k hk.1) hp)⟩
theorem R_lower {base' : Nat} (h : d.R e w base ok v xs) (hb : base' ≤ base) : d.R e w base' ok v xs := by
  obtain ⟨h0,inner,ho,hr⟩ := h
  exact ⟨h0,inner,own_weaken ho hb,hr.imp_ (fun _ _ hp => d.M_lower hb hp)⟩
theorem R_reads (h : d.R e w base ok v xs) : ∃ A c,v = .slice A xs.length c ∧ xs.length ≤ c ∧ d.C w A xs.length xs := by
  obtain ⟨A,c,he,hl,hr⟩ := OwnRow.reads h.2
  exact ⟨A,c,he,hl,hr.imp_ (Below.refl _ _) (fun _ _ hp => d.K_of_M hp)⟩
end
def scalar {α : Type} (enc : α → Value) (h1 : ∀ x,(enc x).oneCell' = true) : Kd α where
  sz := 1
  E := []
  K := fun _ x cs => cs = [enc x]
  M := fun _ _ _ x cs => cs = [enc x]
  K_len := fun h => by rw [h];rfl
  K_one := fun h u hu => by
    rw [h] at hu
    rw [List.mem_singleton.1 hu]
    exact h1 _
  K_below := fun _ h => h
  K_of_M := fun h => h
  M_mono := fun _ h => h
  M_bound := fun h => h
  M_move := fun _ h => h
  M_lower := fun _ h => h
def int (k : IntKind) : Kd Int := scalar (Value.int k) (fun _ => rfl)
def bool : Kd Bool := scalar Value.bool (fun _ => rfl)
def string : Kd ByteArray := scalar Value.string (fun _ => rfl)
def slice {α : Type} (e : Nat) (d : Kd α) : Kd (List α) where
  sz := 1
  E := e :: d.E
  K := fun w xs cs => ∃ A c,cs = [.slice A xs.length c] ∧ xs.length ≤ c ∧ d.C w A xs.length xs
  M := fun w base ok xs cs => ∃ v,cs = [v] ∧ d.R e w base ok v xs
  K_len := by
    rintro w x cs ⟨A,c,rfl,_⟩
    rfl
  K_one := by
    rintro w x cs ⟨A,c,rfl,_⟩ u hu
    rw [List.mem_singleton.1 hu]
    rfl
  K_below := by
    rintro w w1 x cs hb ⟨A,c,rfl,hl,hr⟩
    exact ⟨A,c,rfl,hl,C_below hr hb⟩
  K_of_M := by
    rintro w base ok x cs ⟨v,rfl,h⟩
    obtain ⟨A,c,rfl,hl,hr⟩ := R_reads h
    exact ⟨A,c,rfl,hl,hr⟩
  M_mono := by
    rintro w base ok ok' x cs hok ⟨v,rfl,h⟩
    exact ⟨v,rfl,R_mono h hok⟩
  M_bound := by
    rintro w base ok x cs ⟨v,rfl,h⟩
    exact ⟨v,rfl,R_bound h⟩
  M_move := by
    rintro w w1 base ok x cs hm ⟨v,rfl,h⟩
    exact ⟨v,rfl,R_move h hm⟩
  M_lower := by
    rintro w base base' ok x cs hb ⟨v,rfl,h⟩
    exact ⟨v,rfl,R_lower h hb⟩
def pair {α β : Type} (a : Kd α) (b : Kd β) : Kd (α × β) where
  sz := a.sz + b.sz
  E := a.E ++ b.E
  K := fun w x cs => ∃ c0 c1,cs = c0 ++ c1 ∧ a.K w x.1 c0 ∧ b.K w x.2 c1
  M := fun w base ok x cs => ∃ c0 c1,cs = c0 ++ c1 ∧ a.M w base ok x.1 c0 ∧ b.M w base ok x.2 c1
  K_len := by
    rintro w x cs ⟨c0,c1,rfl,h0,h1⟩
    rw [List.length_append,a.K_len h0,b.K_len h1]
  K_one := by
    rintro w x cs ⟨c0,c1,rfl,h0,h1⟩ u hu
    rcases List.mem_append.1 hu with hu | hu
    · exact a.K_one h0 u hu
    · exact b.K_one h1 u hu
  K_below := by
    rintro w w1 x cs hb ⟨c0,c1,rfl,h0,h1⟩
    exact ⟨c0,c1,rfl,a.K_below hb h0,b.K_below hb h1⟩
  K_of_M := by
    rintro w base ok x cs ⟨c0,c1,rfl,h0,h1⟩
    exact ⟨c0,c1,rfl,a.K_of_M h0,b.K_of_M h1⟩
  M_mono := by
    rintro w base ok ok' x cs hok ⟨c0,c1,rfl,h0,h1⟩
    exact ⟨c0,c1,rfl,a.M_mono hok h0,b.M_mono hok h1⟩
  M_bound := by
    rintro w base ok x cs ⟨c0,c1,rfl,h0,h1⟩
    refine ⟨c0,c1,rfl,a.M_mono ?_ (a.M_bound h0),b.M_mono ?_ (b.M_bound h1)⟩
    · rintro k ⟨h2,h3,h4,q,hq,hc⟩
      exact ⟨h2,h3,h4,q,List.mem_append_left _ hq,hc⟩
    · rintro k ⟨h2,h3,h4,q,hq,hc⟩
      exact ⟨h2,h3,h4,q,List.mem_append_right _ hq,hc⟩
  M_move := by
    rintro w w1 base ok x cs hm ⟨c0,c1,rfl,h0,h1⟩
    exact ⟨c0,c1,rfl,a.M_move hm h0,b.M_move hm h1⟩
  M_lower := by
    rintro w base base' ok x cs hb ⟨c0,c1,rfl,h0,h1⟩
    exact ⟨c0,c1,rfl,a.M_lower hb h0,b.M_lower hb h1⟩
def iso {α β : Type} (d : Kd α) (f : β → α) : Kd β where
  sz := d.sz
  E := d.E
  K := fun w x cs => d.K w (f x) cs
  M := fun w base ok x cs => d.M w base ok (f x) cs
  K_len := d.K_len
  K_one := d.K_one
  K_below := d.K_below
  K_of_M := d.K_of_M
  M_mono := d.M_mono
  M_bound := d.M_bound
  M_move := d.M_move
  M_lower := d.M_lower
def bot {α : Type} (sz : Nat) (E : List Nat) : Kd α where
  sz := sz
  E := E
  K := fun _ _ _ => False
  M := fun _ _ _ _ _ => False
  K_len := fun h => h.elim
  K_one := fun h => h.elim
  K_below := fun _ h => h
  K_of_M := fun h => h
  M_mono := fun _ h => h
  M_bound := fun h => h
  M_move := fun _ h => h
  M_lower := fun _ h => h
def upto {α : Type} (F : Kd α → Kd α) (sz : Nat) (E : List Nat) : Nat → Kd α
  | 0 => bot sz E
  | n + 1 => F (upto F sz E n)
section
variable {P : Program} {ops : Array Oper} {rest : List Oper} {o : Oper} {a : Act} {Q : Exit → Act → World → Prop} {α : Type}
end
section
variable {P : Program} {ops : Array Oper} {o : Oper} {a : Act} {Q : Exit → Act → World → Prop} {Kc : Act → World → Prop} {α : Type}
end
end Kd
namespace Kd
structure Mono {α β : Type} (F : Kd α → Kd β) : Prop where
  sz : ∀ d d' : Kd α,d.sz = d'.sz → (F d).sz = (F d').sz
  K : ∀ d d' : Kd α,d.sz = d'.sz → (∀ w x cs,d.K w x cs → d'.K w x cs) → ∀ w x cs,(F d).K w x cs → (F d').K w x cs
  M : ∀ d d' : Kd α,d.sz = d'.sz → (∀ w base ok x cs,d.M w base ok x cs → d'.M w base ok x cs) → ∀ w base ok x cs,(F d).M w base ok x cs → (F d').M w base ok x cs
section
variable {α : Type} {F : Kd α → Kd α} {sz : Nat} {E : List Nat} {hs : ∀ n,(upto F sz E n).sz = sz} {hE : ∀ n q,q ∈ (upto F sz E n).E → q ∈ E}
end
end Kd
namespace Kd
end Kd
namespace Kd
section
variable {α β : Type} {d : Kd α} {d' : Kd β} {e e' : Nat} {w w1 W : World} {base b b' : Nat} {ok ok' okv oku : Nat → Prop} {v u : Value} {xs : List α} {ys : List β}
end
section
variable {w W : World} {A : Option Addr} {n : Nat}
variable {α : Type} {enc : α → Value} {h1 : ∀ x,(enc x).oneCell' = true} {e base g cap : Nat} {ok : Nat → Prop} {xs : List α}
end
section
variable {P : Program} {ops : Array Oper} {rest : List Oper} {o : Oper} {a : Act} {Q : Exit → Act → World → Prop}
variable {α : Type}
end
end Kd
section
variable {P : Program}
end
def QRow (w : World) (base : Nat) (e : TypeId) (size : Nat) (v : Value) (n : Nat) (xs : List Value) : Prop :=
  xs.length = n * size ∧
  ((n = 0 ∧ ∃ A,v = .slice A 0 0 ∧ ∀ a,A = some a → base ≤ a.block ∧ ∃ cur,w.heap[a.block]? = some (.cells cur e (0,0))) ∨
   ∃ g off cap cur,v = .slice (some ⟨g,off * size,none⟩) n cap ∧ base ≤ g ∧ w.heap[g]? = some (.cells cur e (0,0)) ∧ n ≤ cap ∧ off + cap ≤ maxLen ∧ cur.size = (off + cap) * size ∧ (cur.toList.drop (off * size)).take (n * size) = xs)
section
variable {w w1 : World} {base n size : Nat} {e : TypeId} {v : Value} {xs : List Value}
end
section
variable {P : Program}
end
namespace Kd
def Q {α : Type} (d : Kd α) (e : Nat) (w : World) (base : Nat) (ok : Nat → Prop) (v : Value) (xs : List α) : Prop :=
  (∀ k,v.ownBlock = some k → ok k) ∧ ∃ inner,QRow w base e d.sz v xs.length inner ∧ Reps (d.M w base (fun k => ok k ∧ some k ≠ v.ownBlock)) d.sz xs inner
section
variable {α : Type} {d : Kd α} {e : Nat} {w w1 W : World} {base : Nat} {ok ok' : Nat → Prop} {v : Value} {xs : List α}
end
section
variable {P : Program} {ops : Array Oper} {rest : List Oper} {o : Oper} {a : Act} {Q' : Exit → Act → World → Prop} {Kc : Act → World → Prop} {α : Type}
end
end Kd
namespace Kd
section
variable {α : Type} {d : Kd α} {e e' : Nat} {w w1 W : World} {base : Nat} {ok : Nat → Prop} {u v : Value} {xs : List α}
end
end Kd
namespace Kd
section
variable {α : Type} {d : Kd α} {e base g n cap : Nat} {ok okp : Nat → Prop} {W : World} {xs : List α}
end
end Kd
namespace Kd
section
variable {α : Type} {F : Kd α → Kd α} {sz : Nat} {E : List Nat} {hs : ∀ n,(upto F sz E n).sz = sz} {hE : ∀ n q,q ∈ (upto F sz E n).E → q ∈ E}
end
end Kd
namespace Kd
section
variable {P : Program} {ops : Array Oper} {rest : List Oper} {o : Oper} {a : Act} {Q : Exit → Act → World → Prop} {α : Type}
end
end Kd
namespace Kd
section
variable {P : Program} {ops : Array Oper} {rest : List Oper} {o : Oper} {a : Act} {Q : Exit → Act → World → Prop} {α : Type}
end
end Kd
namespace Kd
section
variable {α : Type} {k : Kd α} {w : World} {A : Option Addr} {xs : List α} {m c : Nat}
end
end Kd
section
variable {P : Program}
end
theorem below_step {w W w2 : World} (h : Below w.heap.size w W) (k : Below W.heap.size W w2) : Below w.heap.size w w2 := below_then h h.size k
theorem ReadsInt.nil (W : World) (k : IntKind) : ReadsInt W k none ([] : List Int).length [] := ⟨rfl,by simp,fun h => absurd h (Nat.lt_irrefl 0)⟩
theorem ReadsInt.drewN {W : World} {k : IntKind} {A : Option Addr} {n : Nat} {xs : List Int} (h : ReadsInt W k A n xs) (m : Nat) : ReadsInt (W.drewN m) k A n xs := h
theorem ReadsOf.nil {α : Type} (enc : α → Value) (d : α) (W : World) : ReadsOf enc d W none ([] : List α).length [] := ⟨rfl,by simp,fun h => absurd h (Nat.lt_irrefl 0)⟩
theorem ReadsOf.drewN {α : Type} {enc : α → Value} {d : α} {W : World} {A : Option Addr} {n : Nat} {xs : List α} (h : ReadsOf enc d W A n xs) (m : Nat) : ReadsOf enc d (W.drewN m) A n xs := h
theorem below_drew1 {base : Nat} {w W : World} (h : Below base w W) : Below base w W.drew := h.drew
namespace Kd
section
variable {α β : Type} {d : Kd α} {d' : Kd β} {e e' base base' n : Nat} {ok ok' : Nat → Prop} {w W w1 W1 : World} {v u : Value} {xs : List α} {ys : List β} {A : Option Addr} {c : Nat}
end
section
variable {α : Type} {enc : α → Value} {h1 : ∀ x,(enc x).oneCell' = true} {w W : World} {A : Option Addr} {n g : Nat} {xs : List α}
end
end Kd
namespace Kd
section
variable {α : Type} {d : Kd α} {e base g : Nat} {ok : Nat → Prop} {w w1 : World} {v : Value} {xs : List α} {o : Obj}
end
end Kd
section
variable {P : Program} {ops : Array Oper} {rest : List Oper} {o : Oper} {a : Act} {Q : Exit → Act → World → Prop}
end
namespace Kd
section
variable {α : Type} {enc : α → Value} {h1 : ∀ x,(enc x).oneCell' = true} {e base g n cap : Nat} {ok : Nat → Prop} {W : World} {xs : List α}
end
end Kd
section
variable {P : Program} {ops : Array Oper} {rest : List Oper} {o : Oper} {a : Act} {Q : Exit → Act → World → Prop}
end
namespace Kd
section
variable {α : Type} {enc : α → Value} {h1 : ∀ x,(enc x).oneCell' = true} {e base g n cap : Nat} {ok : Nat → Prop} {W : World} {xs : List α}
end
end Kd
section
variable {P : Program} {ops : Array Oper} {rest : List Oper} {o : Oper} {a : Act} {Q : Exit → Act → World → Prop} {W : World}
end
section
variable {P : Program} {ops : Array Oper} {o : Oper} {a : Act} {Q : Exit → Act → World → Prop} {Kc : Act → World → Prop}
namespace Kd
variable {α : Type}
end Kd
end
inductive Vals (P : Program) (tmps : Array Value) (w : World) : List ResultVar → List Value → Prop where
  | nil : Vals P tmps w [] []
  | tmp {u : Tmp} {rs : List ResultVar} {vs : List Value} (h : Vals P tmps w rs vs) : Vals P tmps w (.tmp u :: rs) (tmps.getD u undef :: vs)
  | cell {p : Tmp} {ty : TypeId} {rs : List ResultVar} {vs : List Value} (g : Nat) (t : TypeId) (cs : Array Value) (fr : Nat × Nat) (d : TypeDesc)
      (hp : tmps.getD p undef = .pointer (some ⟨g,0,none⟩)) (hg : w.heap[g]? = some (.cells cs t fr))
      (hu : P.underlying ty = some d) (hd : (match d with | .struct _ | .array _ _ => true | _ => false) = true) (hi : (P.info? ty).map (·.size) = some cs.size)
      (h : Vals P tmps w rs vs) : Vals P tmps w (.cell p ty :: rs) (.agg cs :: vs)
section
variable {P : Program} {tmps : Array Value} {w : World}
end
namespace Kd
section
variable {P : Program} {α : Type}
end
section
variable {P : Program} {ops : Array Oper} {rest : List Oper} {o : Oper} {a : Act} {Q : Exit → Act → World → Prop} {Kc : Act → World → Prop} {α : Type}
end
end Kd
end Go.Proofs.YtcenlehfbgnphaaW.PrintWords
end
section
namespace Go.Proofs.YtcenlehfbgnphaaW.PrintLast
section
variable {P : Program} {ops : Array Oper} {Q : Exit → Act → World → Prop} {md : Region.Mode} {S : World → Prop} {ds : List Nat}
def wpAnyLast (P : Program) (md : Region.Mode) (ops : Array Oper) (Q : Exit → Act → World → Prop) (S : World → Prop) (ds : List Nat) : Nat → Array Bool → Act → World → Prop
  | 0,listed,a,w => Region.ready md ops listed = [] ∧ Q .normal a w
  | fuel + 1,listed,a,w =>
    (Region.ready md ops listed = [] → Q .normal a w) ∧
    ∀ i ∈ Region.ready md ops listed,wpOp P ops Q i (fun a' w' => (i ∉ ds → S w → S w') ∧ wpAnyLast P md ops Q S ds fuel (listed.setIfInBounds i true) a' w') a w
end
section
variable {P : Program} {ops : Array Oper} {Q : Exit → Act → World → Prop} {md : Region.Mode} {S : World → Prop} {ds : List Nat}
def AllReadyL (P : Program) (md : Region.Mode) (ops : Array Oper) (Q : Exit → Act → World → Prop) (S : World → Prop) (ds : List Nat) (fuel : Nat) (listed : Array Bool) (a : Act) (w : World) (rs : List Nat) : Prop :=
  ∀ i ∈ rs,wpOp P ops Q i (fun a' w' => (i ∉ ds → S w → S w') ∧ wpAnyLast P md ops Q S ds fuel (listed.setIfInBounds i true) a' w') a w
theorem AllReadyL.nil {fuel : Nat} {listed : Array Bool} {a : Act} {w : World} : AllReadyL P md ops Q S ds fuel listed a w [] := fun _ h => by cases h
end
end Go.Proofs.YtcenlehfbgnphaaW.PrintLast
end
section
namespace Go.Proofs.YtcenlehfbgnphaaW.PrintLast
open Go.Proofs.YtcenlehfbgnphaaW.PrintWords (Aside0)
section
variable {md : Region.Mode} {ops : Array Oper} {T : Bool × List (List Nat × List Nat)} {l l' li lj lk : Array Bool} {ds : List Nat} {i j k : Nat}
end
end Go.Proofs.YtcenlehfbgnphaaW.PrintLast
end
section
namespace Go.Proofs.YtcenlehfbgnphaaW.PrintLast
section
variable {P : Program} {ops : Array Oper} {Q : Exit → Act → World → Prop} {md : Region.Mode} {S : World → Prop} {ds : List Nat} {T : Bool × List (List Nat × List Nat)}
end
end Go.Proofs.YtcenlehfbgnphaaW.PrintLast
end
section
namespace Go.Proofs.YtcenlehfbgnphaaW.PrintWords
open Go.RowKit
namespace Kd
section
variable {α : Type} {d : Kd α} {e base g o n cap : Nat} {ok okp : Nat → Prop} {w W : World} {v : Value} {xs : List α}
end
section
variable {α : Type} {enc : α → Value} {h1 : ∀ x,(enc x).oneCell' = true} {e base g o n cap : Nat} {ok : Nat → Prop} {W : World} {xs : List α}
end
end Kd
end Go.Proofs.YtcenlehfbgnphaaW.PrintWords
end
section
namespace Go.Proofs.YtcenlehfbgnphaaW.PrintWords
open Go.RowKit
namespace Kd
def tag {α : Type} (f : Nat → Nat) (d : Kd α) : Kd (α × Nat) where
  sz := d.sz
  E := d.E
  K := fun w x cs => d.K w x.1 cs
  M := fun w base ok x cs => d.M w base (fun k => ok k ∧ f k = x.2) x.1 cs
  K_len := fun h => d.K_len h
  K_one := fun h => d.K_one h
  K_below := fun hb h => d.K_below hb h
  K_of_M := fun h => d.K_of_M h
  M_mono := fun hok h => d.M_mono (fun k hk => ⟨hok k hk.1,hk.2⟩) h
  M_bound := fun h => d.M_mono (fun _ hk => ⟨⟨hk.1.1,hk.2⟩,hk.1.2⟩) (d.M_bound h)
  M_move := fun hm h => d.M_move (fun k hk => hm k hk.1) h
  M_lower := fun hb h => d.M_lower hb h
def raw (sz : Nat) : Kd (List Value) where
  sz := sz
  E := []
  K := fun _ x cs => cs = x ∧ cs.length = sz ∧ ∀ u ∈ cs,u.oneCell' = true
  M := fun _ _ _ x cs => cs = x ∧ cs.length = sz ∧ ∀ u ∈ cs,u.oneCell' = true
  K_len := fun h => h.2.1
  K_one := fun h => h.2.2
  K_below := fun _ h => h
  K_of_M := fun h => h
  M_mono := fun _ h => h
  M_bound := fun h => h
  M_move := fun _ h => h
  M_lower := fun _ h => h
def S {α : Type} (d : Kd α) (e : Nat) (w : World) (base : Nat) (ok : Nat → Prop) (v : Value) (xs : List α) : Prop := ∃ f,(tag f d).R e w base ok v xs.zipIdx
section
variable {α β : Type} {d : Kd α} {d' : Kd β} {e e' : Nat} {w w1 W : World} {base b : Nat} {ok ok' okv oku : Nat → Prop} {u v : Value} {xs : List α} {ys : List β}
end
section
variable {α β : Type} {d : Kd α} {d' : Kd β} {e e' g : Nat} {w w1 W : World} {base b : Nat} {ok ok' okv oku : Nat → Prop} {u v : Value} {xs : List α} {ys : List β}
end
section
variable {P : Program} {ops : Array Oper} {rest : List Oper} {o : Oper} {a : Act} {Q : Exit → Act → World → Prop} {Kc : Act → World → Prop} {α : Type}
end
def gap {α : Type} (f : Nat → Nat) (d : Kd α) (i : Nat) (c : List Value) : Kd (α × Nat) where
  sz := d.sz
  E := d.E
  K := fun w x cs => (x.2 = i → cs = c ∧ cs.length = d.sz ∧ ∀ u ∈ cs,u.oneCell' = true) ∧ (x.2 ≠ i → d.K w x.1 cs)
  M := fun w base ok x cs => (x.2 = i → cs = c ∧ cs.length = d.sz ∧ ∀ u ∈ cs,u.oneCell' = true) ∧ (x.2 ≠ i → d.M w base (fun k => ok k ∧ f k = x.2) x.1 cs)
  K_len := fun {w x cs} h => by
    by_cases hx : x.2 = i
    · exact (h.1 hx).2.1
    · exact d.K_len (h.2 hx)
  K_one := fun {w x cs} h => by
    by_cases hx : x.2 = i
    · exact (h.1 hx).2.2
    · exact d.K_one (h.2 hx)
  K_below := fun hb h => ⟨h.1,fun hx => d.K_below hb (h.2 hx)⟩
  K_of_M := fun h => ⟨h.1,fun hx => d.K_of_M (h.2 hx)⟩
  M_mono := fun hok h => ⟨h.1,fun hx => d.M_mono (fun k hk => ⟨hok k hk.1,hk.2⟩) (h.2 hx)⟩
  M_bound := fun h => ⟨h.1,fun hx => d.M_mono (fun _ hk => ⟨⟨hk.1.1,hk.2⟩,hk.1.2⟩) (d.M_bound (h.2 hx))⟩
  M_move := fun hm h => ⟨h.1,fun hx => d.M_move (fun k hk => hm k hk.1) (h.2 hx)⟩
  M_lower := fun hb h => ⟨h.1,fun hx => d.M_lower hb (h.2 hx)⟩
def H {α : Type} (d : Kd α) (e : Nat) (w : World) (base : Nat) (ok : Nat → Prop) (v : Value) (xs : List α) (i : Int) (oki : Nat → Prop) (c : List Value) : Prop :=
  (∀ k,oki k → ok k) ∧ ∃ f,(gap f d i.toNat c).R e w base (fun k => ok k ∧ ¬ oki k) v xs.zipIdx
section
variable {α β : Type} {d : Kd α} {e e' g n cap : Nat} {w w1 W : World} {base : Nat} {ok ok' oki okp : Nat → Prop} {u v : Value} {xs : List α} {i : Int} {c : List Value}
end
section
variable {P : Program} {ops : Array Oper} {rest : List Oper} {o : Oper} {a : Act} {Q : Exit → Act → World → Prop} {α : Type}
end
end Kd
end Go.Proofs.YtcenlehfbgnphaaW.PrintWords
end
section
namespace Go.Proofs.YtcenlehfbgnphaaW.PrintWords
open Go.RowKit
namespace Kd
section
variable {α : Type} {n : Nat} {d : Kd α} {hs : 0 < d.sz} {w : World} {base : Nat} {ok : Nat → Prop} {xs : List α} {cs : List Value}
end
section
variable {α : Type} {n : Nat} {enc : α → Value} {h1 : ∀ x,(enc x).oneCell' = true} {hs : 0 < (scalar enc h1).sz} {w : World} {base : Nat} {ok : Nat → Prop} {xs : List α} {cs : List Value}
end
end Kd
end Go.Proofs.YtcenlehfbgnphaaW.PrintWords
end
section
namespace Go.Proofs.YtcenlehfbgnphaaW.PrintWords
open Go.RowKit
section
variable {P : Program}
end
namespace Kd
section
variable {P : Program} {ops : Array Oper} {rest : List Oper} {o : Oper} {a : Act} {Q : Exit → Act → World → Prop} {Kc : Act → World → Prop} {α : Type}
end
section
variable {α : Type} {d : Kd α} {e : Nat} {w : World} {base : Nat} {ok : Nat → Prop} {v : Value} {xs : List α}
end
section
variable {P : Program} {ops : Array Oper} {rest : List Oper} {o : Oper} {a : Act} {Q : Exit → Act → World → Prop} {Kc : Act → World → Prop} {α : Type}
end
end Kd
end Go.Proofs.YtcenlehfbgnphaaW.PrintWords
end
section
namespace Go.Proofs.YtcenlehfbgnphaaW.PrintWords
open Go.RowKit
namespace Kd
structure Heap {α : Type} (d : Kd α) : Prop where
  K : ∀ {w w1 : World} {x : α} {cs : List Value},(∀ k,k < w.heap.size → w1.heap[k]? = w.heap[k]?) → d.K w x cs → d.K w1 x cs
theorem cell_heap {w w1 : World} (hb : ∀ k,k < w.heap.size → w1.heap[k]? = w.heap[k]?) {a : Addr} {v : Value} (h : w.cell? a = some v) : w1.cell? a = some v := by
  have := hb a.block (World.block_lt_of_cell? w a h)
  simpa [World.cell?,this] using h
theorem Heap.C {α : Type} {d : Kd α} (hd : Heap d) {w w1 : World} {A : Option Addr} {n : Nat} {xs : List α} (hb : ∀ k,k < w.heap.size → w1.heap[k]? = w.heap[k]?) (h : d.C w A n xs) : d.C w1 A n xs :=
  ⟨h.1,h.2.1,fun hn => by
    obtain ⟨ad,e,hc⟩ := h.2.2 hn
    refine ⟨ad,e,fun j p hj => ?_⟩
    obtain ⟨c,hs,hr,hcell⟩ := hc j p hj
    exact ⟨c,hs,hd.K hb hr,fun i u hu => cell_heap hb (hcell i u hu)⟩⟩
section
variable {α : Type} {d : Kd α} {e base g n c : Nat} {ok : Nat → Prop} {w w0 W : World} {A : Option Addr} {xs : List α}
end
end Kd
end Go.Proofs.YtcenlehfbgnphaaW.PrintWords
end
section
namespace Go.Proofs.YtcenlehfbgnphaaW.PrintWords
open Go.RowKit
def Kept (w W : World) (S : Nat → Prop) : Prop := w.heap.size ≤ W.heap.size ∧ ∀ i,i < w.heap.size → ¬ S i → W.heap[i]? = w.heap[i]?
section
variable {w W W2 : World} {S S2 S' : Nat → Prop}
theorem Kept.refl (w : World) (S : Nat → Prop) : Kept w w S := ⟨Nat.le_refl _,fun _ _ _ => rfl⟩
theorem Kept.of_below (h : Below w.heap.size w W) (S : Nat → Prop) : Kept w W S := ⟨h.size,fun i hi _ => h.block i hi⟩
theorem Kept.mono (h : Kept w W S) (hs : ∀ k,S k → S' k) : Kept w W S' := ⟨h.1,fun i hi hn => h.2 i hi (fun hk => hn (hs i hk))⟩
theorem Kept.then_ (h : Kept w W S) (k : Kept W W2 S2) (hs : ∀ k,S2 k → S k ∨ w.heap.size ≤ k) : Kept w W2 S :=
  ⟨Nat.le_trans h.1 k.1,fun i hi hn => (k.2 i (Nat.lt_of_lt_of_le hi h.1) (fun h2 => (hs i h2).elim hn (fun h3 => by omega))).trans (h.2 i hi hn)⟩
theorem Kept.below (h : Kept w W S) (hb : Below W.heap.size W W2) : Kept w W2 S := h.then_ (Kept.of_below hb (fun _ => False)) (fun _ hk => hk.elim)
theorem Kept.alloc (h : Kept w W S) (o : Obj) : Kept w (W.alloc o) S := h.below (below_alloc (Below.refl _ _) o)
theorem Kept.drew (h : Kept w W S) : Kept w W.drew S := h
theorem Kept.drewN (h : Kept w W S) (m : Nat) : Kept w (W.drewN m) S := h
end
namespace Kd
section
variable {α : Type} {d : Kd α} {e base n c : Nat} {ok oki S S2 : Nat → Prop} {w w0 W W1 W2 : World} {v : Value} {A : Option Addr} {xs : List α} {i : Int} {cs : List Value}
end
end Kd
end Go.Proofs.YtcenlehfbgnphaaW.PrintWords
end
section
namespace Go.Proofs.YtcenlehfbgnphaaW.PrintWords
open Go.RowKit
def Foot (P : World → Prop) (W : World) (ok : Nat → Prop) : Prop := ∀ W' : World,(∀ k,ok k → k < W.heap.size → W'.heap[k]? = W.heap[k]?) → P W'
namespace Foot
variable {P Q : World → Prop} {W W1 : World} {ok ok' : Nat → Prop}
theorem mono (h : Foot P W ok) (hok : ∀ k,ok k → ok' k) : Foot P W ok' := fun W' hW => h W' (fun k hk hlt => hW k (hok k hk) hlt)
end Foot
namespace Kd
def F {α : Type} (d : Kd α) (W : World) (ok : Nat → Prop) (A : Option Addr) (n : Nat) (xs : List α) : Prop := Foot (fun W => d.C W A n xs) W ok
def FK {α : Type} (d : Kd α) (W : World) (ok : Nat → Prop) (x : α) (c : List Value) : Prop := Foot (fun W => d.K W x c) W ok
section
variable {α β : Type} {d : Kd α} {e base n n' cc g N : Nat} {ok ok' okp S : Nat → Prop} {w w0 w1 W W1 : World} {A A' : Option Addr} {u v v1 : Value} {xs : List α} {xs' : List β} {d' : Kd β} {x : α} {c : List Value}
end
end Kd
end Go.Proofs.YtcenlehfbgnphaaW.PrintWords
end
section
namespace Go.Proofs.YtcenlehfbgnphaaW.PrintWords
open Go.RowKit
namespace Kd
section
variable {α : Type} {d : Kd α} {e base n cc g : Nat} {ok ok' okp S : Nat → Prop} {w w1 W W1 : World} {A : Option Addr} {u v v1 : Value} {xs : List α} {x : α} {c : List Value}
def N {α : Type} (d : Kd α) (e : Nat) (w : World) (base : Nat) (ok : Nat → Prop) (v : Value) (xs : List α) : Prop :=
  (∀ k,v.ownBlock = some k → ok k) ∧ ∃ rows : List (List Value),rows.length = xs.length ∧ (raw d.sz).R e w base (fun k => some k = v.ownBlock) v rows ∧ ∀ (j : Nat) (x : α) (c : List Value),xs[j]? = some x → rows[j]? = some c → FK d w (fun k => ok k ∧ some k ≠ v.ownBlock) x c
end
end Kd
end Go.Proofs.YtcenlehfbgnphaaW.PrintWords
end
section
namespace Go.Proofs.YtcenlehfbgnphaaW.PrintWords
open Go.RowKit
namespace Kd
section
variable {α : Type} {d : Kd α} {W : World} {g n : Nat} {S ok : Nat → Prop} {A : Option Addr} {ad : Addr} {xs : List α}
end
end Kd
end Go.Proofs.YtcenlehfbgnphaaW.PrintWords
end
section
namespace Go.Proofs.YtcenlehfbgnphaaW.PrintWords
open Go.RowKit
section
variable {w w' u : World} {m B g : Nat} {o : Obj} {row : Option Nat} {S : Nat → Prop} {a : Addr} {v : Value}
end
namespace Kd
section
variable {α : Type} {d : Kd α} {e base n m : Nat} {ok : Nat → Prop} {w w' : World} {v : Value} {A : Option Addr} {xs : List α}
end
end Kd
end Go.Proofs.YtcenlehfbgnphaaW.PrintWords
end
section
namespace Go.Proofs.YtcenlehfbgnphaaW.PrintWords
open Go.RowKit
section
variable {P : Program} {d : Nat} {xs ys : Array Value} {f : Field} {fs : List Field} {a b : Value} {r s : Bool} {w : World}
end
end Go.Proofs.YtcenlehfbgnphaaW.PrintWords
end
section
namespace Go.Proofs.YtcenlehfbgnphaaW.PrintWords
theorem Reps.front {α : Type} {R : α → List Value → Prop} {size : Nat} {ps : List α} {cs c all : List Value} {p : α} (hp : R p c) (hc : c.length = size) (h : Reps R size ps cs) (ha : c ++ cs = all) : Reps R size (p :: ps) all := by
  subst ha
  refine ⟨by rw [List.length_append,hc,h.1,List.length_cons,Nat.succ_mul,Nat.add_comm],fun j q hq => ?_⟩
  cases j with
  | zero =>
    simp only [List.getElem?_cons_zero,Option.some.injEq] at hq
    subst hq
    rw [Nat.zero_mul,List.drop_zero,List.take_append_of_le_length (by omega),List.take_of_length_le (by omega)]
    exact hp
  | succ j =>
    simp only [List.getElem?_cons_succ] at hq
    have h1 := h.2 j q hq
    rw [Nat.succ_mul,List.drop_append,List.drop_of_length_le (by rw [hc];exact Nat.le_add_left _ _),List.nil_append,hc,Nat.add_sub_cancel]
    exact h1
theorem Reps.c2 {α : Type} {R : α → List Value → Prop} {ps : List α} {cs : List Value} {p : α} {va vb : Value} (hp : R p [va,vb]) (h : Reps R 2 ps cs) : Reps R 2 (p :: ps) (va :: vb :: cs) := Reps.front hp rfl h rfl
theorem Reps.c3 {α : Type} {R : α → List Value → Prop} {ps : List α} {cs : List Value} {p : α} {va vb vc : Value} (hp : R p [va,vb,vc]) (h : Reps R 3 ps cs) : Reps R 3 (p :: ps) (va :: vb :: vc :: cs) := Reps.front hp rfl h rfl
end Go.Proofs.YtcenlehfbgnphaaW.PrintWords
end
section
namespace Go.Proofs.YtcenlehfbgnphaaW.PrintLast
section
variable {P : Program} {ops : Array Oper} {Q : Exit → Act → World → Prop} {md : Region.Mode} {T : Bool × List (List Nat × List Nat)} {B : List Nat} {O : List Nat} {b : Nat → Bool} {i j n : Nat}
end
end Go.Proofs.YtcenlehfbgnphaaW.PrintLast
end
section
namespace Go.Proofs.YtcenlehfbgnphaaW.PrintWords
open Go.RowKit
end Go.Proofs.YtcenlehfbgnphaaW.PrintWords
namespace Go.Proofs.YtcenlehfbgnphaaW.PrintLast
section
variable {ops : Array Oper} {a : Act} {o og : Oper} {g : Nat} {t : Tmp} {u : Bool}
end
end Go.Proofs.YtcenlehfbgnphaaW.PrintLast
end
section
namespace Go.Proofs.YtcenlehfbgnphaaW.PrintWords
open Go.RowKit
section
variable {P : Program} {ops : Array Oper} {rest : List Oper} {o : Oper} {a : Act} {Q : Exit → Act → World → Prop} {W : World}
end
end Go.Proofs.YtcenlehfbgnphaaW.PrintWords
end
section
namespace Go.Proofs.YtcenlehfbgnphaaW.PrintWords
open Go.RowKit
namespace Kd
section
variable {α : Type} {d : Kd α} {e base n cap g : Nat} {ok ok' okp : Nat → Prop} {w w1 W : World} {v v1 : Value} {xs ys : List α}
end
section
variable {P : Program} {ops : Array Oper} {rest : List Oper} {o : Oper} {a : Act} {Q : Exit → Act → World → Prop} {Kc : Act → World → Prop} {α : Type}
end
end Kd
end Go.Proofs.YtcenlehfbgnphaaW.PrintWords
end
section
namespace Go.Proofs.YtcenlehfbgnphaaW.PrintMore
open Go.RowKit Go.Proofs.YtcenlehfbgnphaaW.PrintWords
namespace Kd
open Go.Proofs.YtcenlehfbgnphaaW.PrintWords.Kd
end Kd
namespace Kd
open Go.Proofs.YtcenlehfbgnphaaW.PrintWords.Kd
section
variable {α : Type} {d : Kd α} {e base g N : Nat} {ok : Nat → Prop} {W w1 : World} {u v : Value} {xs : List α}
end
end Kd
theorem max2_int (k k' : IntKind) (x y : Int) : Builtin.max2 (.int k x) (.int k' y) = pure (.int k (if x < y then y else x)) := by simp only [Builtin.max2,gt_iff_lt]
theorem min2_int (k k' : IntKind) (x y : Int) : Builtin.min2 (.int k x) (.int k' y) = pure (.int k (if y < x then y else x)) := by simp only [Builtin.min2]
theorem max_two (ats : Array TypeId) (ty : TypeId) (a b : Value) : Builtin.max_ ats ty #[a,b] = (Builtin.max2 a b >>= fun s => pure s) := by simp only [Builtin.max_,List.foldlM_cons,List.foldlM_nil]
theorem min_two (ats : Array TypeId) (ty : TypeId) (a b : Value) : Builtin.min_ ats ty #[a,b] = (Builtin.min2 a b >>= fun s => pure s) := by simp only [Builtin.min_,List.foldlM_cons,List.foldlM_nil]
theorem max_three (ats : Array TypeId) (ty : TypeId) (a b c : Value) : Builtin.max_ ats ty #[a,b,c] = (Builtin.max2 a b >>= fun s => Builtin.max2 s c >>= fun s => pure s) := by simp only [Builtin.max_,List.foldlM_cons,List.foldlM_nil]
theorem min_three (ats : Array TypeId) (ty : TypeId) (a b c : Value) : Builtin.min_ ats ty #[a,b,c] = (Builtin.min2 a b >>= fun s => Builtin.min2 s c >>= fun s => pure s) := by simp only [Builtin.min_,List.foldlM_cons,List.foldlM_nil]
theorem max_four (ats : Array TypeId) (ty : TypeId) (a b c d : Value) : Builtin.max_ ats ty #[a,b,c,d] = (Builtin.max2 a b >>= fun s => Builtin.max2 s c >>= fun s => Builtin.max2 s d >>= fun s => pure s) := by simp only [Builtin.max_,List.foldlM_cons,List.foldlM_nil]
theorem min_four (ats : Array TypeId) (ty : TypeId) (a b c d : Value) : Builtin.min_ ats ty #[a,b,c,d] = (Builtin.min2 a b >>= fun s => Builtin.min2 s c >>= fun s => Builtin.min2 s d >>= fun s => pure s) := by simp only [Builtin.min_,List.foldlM_cons,List.foldlM_nil]
end Go.Proofs.YtcenlehfbgnphaaW.PrintMore
namespace Go.Proofs.YtcenlehfbgnphaaW.PrintWords
open Go.RowKit
section
variable {P : Program} {ops : Array Oper} {rest : List Oper} {o : Oper} {a : Act} {Q : Exit → Act → World → Prop} {W : World}
end
namespace Kd
section
variable {α : Type} {d : Kd α} {e base : Nat} {ok : Nat → Prop} {W w1 : World} {v : Value} {xs : List α}
end
section
variable {α : Type} {d : Kd α} {e base g n cap : Nat} {ok oki okp : Nat → Prop} {W : World} {xs : List α} {i : Int} {c : List Value}
end
section
variable {α : Type} {d : Kd α} {e base b b' g N : Nat} {ok ok1 : Nat → Prop} {W W2 w1 : World} {u v : Value} {xs ys : List α} {S : Nat → Prop}
end
end Kd
end Go.Proofs.YtcenlehfbgnphaaW.PrintWords
namespace Go.Proofs.YtcenlehfbgnphaaW.PrintWords
open Go.RowKit
namespace Kd
section
variable {α β : Type} {d : Kd α} {e base base' n m c g N' lo hi : Nat} {ok ok' S : Nat → Prop} {w W w1 : World} {A : Option Addr} {ad : Addr} {u v v1 : Value} {xs : List α}
end
end Kd
end Go.Proofs.YtcenlehfbgnphaaW.PrintWords
end
section
namespace Go.Proofs.Ytcenlehfbgnphaa.Z
open Go.RowKit Go.Proofs.YtcenlehfbgnphaaW.PrintWords Go.Proofs.YtcenlehfbgnphaaW.PrintLast Go.Proofs.YtcenlehfbgnphaaW.PrintMore
attribute [local go_sem] max2_int min2_int max_two min_two max_three min_three max_four min_four
set_option linter.unusedVariables false
set_option linter.unusedSimpArgs false
structure S45 where
  f0 : ByteArray
  f1 : ByteArray
  f2 : Int
  f3 : Int
def k45 : Kd S45 := Kd.iso (Kd.pair Kd.string (Kd.pair Kd.string (Kd.pair (Kd.int .i64) (Kd.int .i64)))) (fun x : S45 => (x.f0,x.f1,x.f2,x.f3))
theorem k45_open {w : World} {x : S45} {cs : List Value} (h : k45.K w x cs) : cs = [.string x.f0,.string x.f1,.int .i64 x.f2,.int .i64 x.f3] := by
  obtain ⟨_,_,rfl,rfl,⟨_,_,rfl,rfl,⟨_,_,rfl,rfl,rfl⟩⟩⟩ := h
  exact rfl
end Go.Proofs.Ytcenlehfbgnphaa.Z
end
section
namespace Go.Proofs.Ytcenlehfbgnphaa.Z
set_option linter.unusedVariables false
set_option linter.unusedSimpArgs false
open Go.RowKit
def rdF (b : Nat) : Ieee.Datum := FloatKind.f64.format.read b
def ordF (a b : Nat) : Option Ordering := FloatKind.f64.format.order a b
theorem ordF_eq (a b : Nat) : ordF a b = (rdF a).order (rdF b) := rfl
def cls (b : Nat) : Int := match rdF b with
  | .nan _ _ => 0
  | .infinity s => if s then 1 else 6
  | .number s m _ => if m = 0 then (if s then 3 else 4) else (if s then 2 else 5)
def scl (b : Nat) : Int := match rdF b with
  | .number s m i => Ieee.signed s m (i + 1074).toNat
  | _ => 0
theorem sw : Ieee.Format.signWeight Ieee.double = 2 ^ 63 := rfl
theorem bn : Ieee.Format.binade Ieee.double = 2 ^ 52 := rfl
theorem ir : Ieee.Format.infRung Ieee.double = 2047 * 2 ^ 52 := rfl
theorem lp : Ieee.Format.leastPlace Ieee.double = -1074 := by decide
theorem rd_cases (b : Nat) (hb : b < 2 ^ 64) : ∃ (s : Bool) (r : Nat),r < 2 ^ 63 ∧ b = (if s then 2 ^ 63 else 0) + r ∧
    ((r < 2 ^ 52 ∧ rdF b = .number s r (-1074)) ∨ (2 ^ 52 ≤ r ∧ r < 2047 * 2 ^ 52 ∧ rdF b = .number s (2 ^ 52 + r % 2 ^ 52) (-1074 + (r / 2 ^ 52 - 1 : Nat))) ∨ (r = 2047 * 2 ^ 52 ∧ rdF b = .infinity s) ∨ (2047 * 2 ^ 52 < r ∧ ∃ t,rdF b = .nan s t)) := by
  refine ⟨b / 2 ^ 63 % 2 == 1,b % 2 ^ 63,Nat.mod_lt _ (by decide),?_,?_⟩
  · by_cases h : b < 2 ^ 63
    · have e : b / 2 ^ 63 = 0 := Nat.div_eq_of_lt h
      rw [e]
      simp [Nat.mod_eq_of_lt h]
    · have e : b / 2 ^ 63 = 1 := by omega
      rw [e]
      simp
      omega
  · have hr : rdF b = (if b % 2 ^ 63 < 2 ^ 52 then Ieee.Datum.number (b / 2 ^ 63 % 2 == 1) (b % 2 ^ 63) (-1074) else if b % 2 ^ 63 < 2047 * 2 ^ 52 then .number (b / 2 ^ 63 % 2 == 1) (2 ^ 52 + b % 2 ^ 63 % 2 ^ 52) (-1074 + (b % 2 ^ 63 / 2 ^ 52 - 1 : Nat)) else if b % 2 ^ 63 = 2047 * 2 ^ 52 then .infinity (b / 2 ^ 63 % 2 == 1) else .nan (b / 2 ^ 63 % 2 == 1) (b % 2 ^ 63 - 2047 * 2 ^ 52)) := by
      show Ieee.Format.read Ieee.double b = _
      unfold Ieee.Format.read
      simp only [sw,bn,ir,lp]
      rfl
    by_cases h1 : b % 2 ^ 63 < 2 ^ 52
    · rw [if_pos h1] at hr;exact .inl ⟨h1,hr⟩
    · rw [if_neg h1] at hr
      by_cases h2 : b % 2 ^ 63 < 2047 * 2 ^ 52
      · rw [if_pos h2] at hr;exact .inr (.inl ⟨by omega,h2,hr⟩)
      · rw [if_neg h2] at hr
        by_cases h3 : b % 2 ^ 63 = 2047 * 2 ^ 52
        · rw [if_pos h3] at hr;exact .inr (.inr (.inl ⟨h3,hr⟩))
        · rw [if_neg h3] at hr;exact .inr (.inr (.inr ⟨by omega,_,hr⟩))
theorem rd_num {b : Nat} (hb : b < 2 ^ 64) {s : Bool} {m : Nat} {i : Int} (h : rdF b = .number s m i) : -1074 ≤ i ∧ i ≤ 971 ∧ m < 2 ^ 53 ∧ (m = 0 → b = if s then 2 ^ 63 else 0) ∧ (s = true → 2 ^ 63 ≤ b) ∧ (s = false → b < 2 ^ 63) := by
  obtain ⟨s',r,hr,e,h1 | ⟨g0,g1,h2⟩ | ⟨_,h3⟩ | ⟨_,t,h4⟩⟩ := rd_cases b hb
  · rw [h1.2] at h
    injection h with ha hb' hc
    subst ha;subst hb';subst hc
    refine ⟨by omega,by omega,by omega,fun z => by rw [e,z];rfl,fun z => by rw [e,z];simp,fun z => by rw [e,z];simp;omega⟩
  · rw [h2] at h
    injection h with ha hb' hc
    subst ha;subst hb';subst hc
    refine ⟨by omega,by omega,by omega,fun z => by omega,fun z => by rw [e,z];simp,fun z => by rw [e,z];simp;omega⟩
  · rw [h3] at h;cases h
  · rw [h4] at h;cases h
theorem signed_shift (s : Bool) (m a c : Nat) : Ieee.signed s m (a + c) = Ieee.signed s m a * ((2 ^ c : Nat) : Int) := by
  unfold Ieee.signed
  rw [Nat.shiftLeft_eq,Nat.shiftLeft_eq,Nat.pow_add,← Nat.mul_assoc]
  cases s
  · simp only [Bool.false_eq_true,if_false];rw [Int.natCast_mul]
  · simp only [if_true];rw [Int.natCast_mul,Int.neg_mul]
def cmpI (x y : Int) : Ordering := if x < y then .lt else if x = y then .eq else .gt
theorem compare_int (x y : Int) : compare x y = cmpI x y := rfl
theorem cmpI_mul (x y p : Int) (hp : 0 < p) : cmpI (x * p) (y * p) = cmpI x y := by
  unfold cmpI
  have h1 : x * p < y * p ↔ x < y := ⟨fun h => Int.lt_of_mul_lt_mul_right h (Int.le_of_lt hp),fun h => Int.mul_lt_mul_of_pos_right h hp⟩
  have h2 : x * p = y * p ↔ x = y := ⟨fun h => Int.eq_of_mul_eq_mul_right (by omega) h,fun h => by rw [h]⟩
  simp only [h1,h2]
theorem ord_num {a b : Nat} (ha : a < 2 ^ 64) (hb : b < 2 ^ 64) {s t : Bool} {m n : Nat} {i j : Int} (h1 : rdF a = .number s m i) (h2 : rdF b = .number t n j) : ordF a b = some (cmpI (scl a) (scl b)) := by
  obtain ⟨p0,_⟩ := rd_num ha h1
  obtain ⟨q0,_⟩ := rd_num hb h2
  rw [ordF_eq,h1,h2]
  unfold scl
  rw [h1,h2]
  simp only [Ieee.Datum.order]
  rw [compare_int]
  have e1 : (i + 1074).toNat = (i - min i j).toNat + (min i j + 1074).toNat := by omega
  have e2 : (j + 1074).toNat = (j - min i j).toNat + (min i j + 1074).toNat := by omega
  rw [e1,e2,signed_shift,signed_shift,cmpI_mul _ _ _ (by have := Nat.two_pow_pos (min i j + 1074).toNat;omega)]
theorem rd_zero : rdF 0 = .number false 0 (-1074) := by decide +kernel
theorem rd_max : rdF 9218868437227405311 = .number false (2 ^ 53 - 1) 971 := by decide +kernel
theorem rd_nmax : rdF 18442240474082181119 = .number true (2 ^ 53 - 1) 971 := by decide +kernel
def pw : Nat := 2045
theorem pw_val : pw = 2045 := rfl
def mxN : Nat := 9007199254740991 * 2 ^ pw
theorem scl_zero : scl 0 = 0 := by unfold scl;rw [rd_zero];rfl
theorem scl_of {b : Nat} {s : Bool} {m : Nat} {i : Int} (h : rdF b = .number s m i) : scl b = if s then -((m * 2 ^ (i + 1074).toNat : Nat) : Int) else ((m * 2 ^ (i + 1074).toNat : Nat) : Int) := by
  unfold scl
  rw [h]
  simp only [Ieee.signed,Nat.shiftLeft_eq]
theorem e971 : ((971 : Int) + 1074).toNat = pw := rfl
theorem scl_max : scl 9218868437227405311 = (mxN : Int) := by
  rw [scl_of rd_max,e971]
  generalize hp : pw = q
  unfold mxN
  rw [hp]
  rfl
theorem scl_nmax : scl 18442240474082181119 = -(mxN : Int) := by
  rw [scl_of rd_nmax,e971]
  generalize hp : pw = q
  unfold mxN
  rw [hp]
  rfl
theorem scl_num {b : Nat} (hb : b < 2 ^ 64) {s : Bool} {m : Nat} {i : Int} (h : rdF b = .number s m i) : (m = 0 → scl b = 0) ∧ (m ≠ 0 → s = true → scl b < 0) ∧ (m ≠ 0 → s = false → 0 < scl b) ∧ -(mxN : Int) ≤ scl b ∧ scl b ≤ (mxN : Int) := by
  obtain ⟨p0,p1,p2,_⟩ := rd_num hb h
  have hu : (i + 1074).toNat ≤ pw := by have := pw_val;omega
  have hv := scl_of h
  generalize (i + 1074).toNat = u at *
  have hm : m * 2 ^ u ≤ mxN := Nat.mul_le_mul (by omega) (Nat.pow_le_pow_right (by decide) hu)
  have hp : m ≠ 0 → 0 < m * 2 ^ u := fun hz => Nat.mul_pos (by omega) (Nat.two_pow_pos _)
  have h0 : m = 0 → m * 2 ^ u = 0 := fun z => by rw [z,Nat.zero_mul]
  generalize m * 2 ^ u = x at *
  generalize mxN = y at *
  generalize scl b = v at *
  cases s with
  | false =>
    rw [if_neg Bool.false_ne_true] at hv
    refine ⟨fun z => ?_,fun _ c => ?_,fun z _ => ?_,?_,?_⟩
    · have := h0 z;omega
    · cases c
    · have := hp z;omega
    · omega
    · omega
  | true =>
    rw [if_pos rfl] at hv
    refine ⟨fun z => ?_,fun z _ => ?_,fun _ c => ?_,?_,?_⟩
    · have := h0 z;omega
    · have := hp z;omega
    · cases c
    · omega
    · omega
inductive Kind (b : Nat) : Prop where
  | nan (t : Bool) (f : Nat) (h : rdF b = .nan t f) (c : cls b = 0) : Kind b
  | inf (s : Bool) (h : rdF b = .infinity s) (c : cls b = if s then 1 else 6) (z : scl b = 0) : Kind b
  | neg (m : Nat) (i : Int) (h : rdF b = .number true m i) (c : cls b = 2) (z : scl b < 0) : Kind b
  | zero (s : Bool) (i : Int) (h : rdF b = .number s 0 i) (c : cls b = if s then 3 else 4) (z : scl b = 0) (w : b = if s then 2 ^ 63 else 0) : Kind b
  | pos (m : Nat) (i : Int) (h : rdF b = .number false m i) (c : cls b = 5) (z : 0 < scl b) : Kind b
theorem kind_of (b : Nat) (hb : b < 2 ^ 64) : Kind b := by
  have hn : ∀ s m i,rdF b = .number s m i → Kind b := by
    intro s m i h
    obtain ⟨z0,z1,z2,_⟩ := scl_num hb h
    have hc : cls b = if m = 0 then (if s then 3 else 4) else (if s then 2 else 5) := by unfold cls;rw [h]
    by_cases e : m = 0
    · subst e
      exact .zero s i h (by rw [hc];rfl) (z0 rfl) ((rd_num hb h).2.2.2.1 rfl)
    · rw [if_neg e] at hc
      cases s
      · exact .pos m i h hc (z2 e rfl)
      · exact .neg m i h hc (z1 e rfl)
  obtain ⟨s,r,hr,e,h1 | ⟨g0,g1,h2⟩ | ⟨_,h3⟩ | ⟨_,t,h4⟩⟩ := rd_cases b hb
  · exact hn _ _ _ h1.2
  · exact hn _ _ _ h2
  · exact .inf s h3 (by unfold cls;rw [h3]) (by unfold scl;rw [h3])
  · exact .nan s t h4 (by unfold cls;rw [h4])
theorem ord_inf_num {a b : Nat} {s : Bool} {t : Bool} {n : Nat} {j : Int} (h1 : rdF a = .infinity s) (h2 : rdF b = .number t n j) : ordF a b = some (if s then .lt else .gt) := by rw [ordF_eq,h1,h2];rfl
theorem ord_nan {a b : Nat} {t : Bool} {f : Nat} (h1 : rdF a = .nan t f) : ordF a b = none := by rw [ordF_eq,h1];rfl
theorem ord_inf_inf {a b : Nat} {s t : Bool} (h1 : rdF a = .infinity s) (h2 : rdF b = .infinity t) : ordF a b = some (compare t.toNat s.toNat) := by rw [ordF_eq,h1,h2];rfl
theorem c0 : (0 : Nat) < 2 ^ 64 := by decide
theorem cM : 9218868437227405311 < 2 ^ 64 := by decide
theorem cN : 18442240474082181119 < 2 ^ 64 := by decide
structure Tests (b : Nat) : Prop where
  nan : (ordF b b == some .eq) = !decide (cls b = 0)
  lt0 : (ordF b 0 == some .lt) = decide (cls b = 1 ∨ cls b = 2)
  gt0 : (ordF b 0 == some .gt) = decide (cls b = 5 ∨ cls b = 6)
  gtM : (ordF b 9218868437227405311 == some .gt) = decide (cls b = 6)
  ltN : (ordF b 18442240474082181119 == some .lt) = decide (cls b = 1)
  bit : cls b = 3 ∨ cls b = 4 → b = if cls b = 3 then 2 ^ 63 else 0
  lo : 0 ≤ cls b
  hi : cls b ≤ 6
theorem cmpI_lt {x y : Int} : (some (cmpI x y) == some Ordering.lt) = decide (x < y) := by
  unfold cmpI
  by_cases h : x < y
  · rw [if_pos h,decide_eq_true h];rfl
  · rw [if_neg h,decide_eq_false h];split <;> rfl
theorem cmpI_gt {x y : Int} : (some (cmpI x y) == some Ordering.gt) = decide (y < x) := by
  unfold cmpI
  by_cases h : x < y
  · rw [if_pos h,decide_eq_false (by omega)];rfl
  · rw [if_neg h]
    by_cases e : x = y
    · rw [if_pos e,decide_eq_false (by omega)];rfl
    · rw [if_neg e,decide_eq_true (by omega)];rfl
theorem cmpI_self (x : Int) : (some (cmpI x x) == some Ordering.eq) = true := by
  unfold cmpI
  rw [if_neg (by omega),if_pos rfl];rfl
theorem tests_of (b : Nat) (hb : b < 2 ^ 64) : Tests b := by
  have num : ∀ s m i,rdF b = .number s m i → ordF b b = some (cmpI (scl b) (scl b)) ∧ ordF b 0 = some (cmpI (scl b) 0) ∧ ordF b 9218868437227405311 = some (cmpI (scl b) (mxN : Int)) ∧ ordF b 18442240474082181119 = some (cmpI (scl b) (-(mxN : Int))) ∧ -(mxN : Int) ≤ scl b ∧ scl b ≤ (mxN : Int) := by
    intro s m i h
    have h1 := ord_num hb hb h h
    have h2 := ord_num hb c0 h rd_zero
    have h3 := ord_num hb cM h rd_max
    have h4 := ord_num hb cN h rd_nmax
    rw [scl_zero] at h2
    rw [scl_max] at h3
    rw [scl_nmax] at h4
    exact ⟨h1,h2,h3,h4,(scl_num hb h).2.2.2⟩
  cases kind_of b hb with
  | nan t f h c =>
    refine ⟨?_,?_,?_,?_,?_,?_,?_,?_⟩ <;> (try rw [ord_nan h]) <;> rw [c] <;> first | decide | (intro q;omega)
  | inf s h c z =>
    have e0 : ordF b 0 = some (if s then .lt else .gt) := ord_inf_num h rd_zero
    have e1 : ordF b 9218868437227405311 = some (if s then .lt else .gt) := ord_inf_num h rd_max
    have e2 : ordF b 18442240474082181119 = some (if s then .lt else .gt) := ord_inf_num h rd_nmax
    have e3 := ord_inf_inf h h
    cases s
    · refine ⟨?_,?_,?_,?_,?_,?_,?_,?_⟩ <;> (try rw [e0]) <;> (try rw [e1]) <;> (try rw [e2]) <;> (try rw [e3]) <;> rw [c] <;> first | decide | (intro q;simp at q)
    · refine ⟨?_,?_,?_,?_,?_,?_,?_,?_⟩ <;> (try rw [e0]) <;> (try rw [e1]) <;> (try rw [e2]) <;> (try rw [e3]) <;> rw [c] <;> first | decide | (intro q;simp at q)
  | neg m i h c z =>
    obtain ⟨h1,h2,h3,h4,g0,g1⟩ := num _ _ _ h
    refine ⟨?_,?_,?_,?_,?_,?_,?_,?_⟩
    · rw [h1,cmpI_self,c];rfl
    · rw [h2,cmpI_lt,c,decide_eq_true z];rfl
    · rw [h2,cmpI_gt,c,decide_eq_false (by omega)];rfl
    · rw [h3,cmpI_gt,c,decide_eq_false (by omega)];rfl
    · rw [h4,cmpI_lt,c,decide_eq_false (by omega)];rfl
    · rw [c];intro q;omega
    · rw [c];decide
    · rw [c];decide
  | zero s i h c z w =>
    obtain ⟨h1,h2,h3,h4,g0,g1⟩ := num _ _ _ h
    have hm : (0 : Int) ≤ (mxN : Int) := by omega
    have cc : cls b = 3 ∨ cls b = 4 := by rw [c];cases s <;> decide
    refine ⟨?_,?_,?_,?_,?_,?_,?_,?_⟩
    · rw [h1,cmpI_self,decide_eq_false (by omega)];rfl
    · rw [h2,cmpI_lt,decide_eq_false (by omega),decide_eq_false (by omega)]
    · rw [h2,cmpI_gt,decide_eq_false (by omega),decide_eq_false (by omega)]
    · rw [h3,cmpI_gt,decide_eq_false (by omega),decide_eq_false (by omega)]
    · rw [h4,cmpI_lt,decide_eq_false (by omega),decide_eq_false (by omega)]
    · intro _;rw [c,w];cases s <;> rfl
    · omega
    · omega
  | pos m i h c z =>
    obtain ⟨h1,h2,h3,h4,g0,g1⟩ := num _ _ _ h
    refine ⟨?_,?_,?_,?_,?_,?_,?_,?_⟩
    · rw [h1,cmpI_self,c];rfl
    · rw [h2,cmpI_lt,c,decide_eq_false (by omega)];rfl
    · rw [h2,cmpI_gt,c,decide_eq_true z];rfl
    · rw [h3,cmpI_gt,c,decide_eq_false (by omega)];rfl
    · rw [h4,cmpI_lt,c,decide_eq_false (by omega)];rfl
    · rw [c];intro q;omega
    · rw [c];decide
    · rw [c];decide
theorem ord_same {a b : Nat} (ha : a < 2 ^ 64) (hb : b < 2 ^ 64) (h : cls a = cls b) : (ordF a b == some .lt) = decide (cls a ≠ 0 ∧ scl a < scl b) ∧ (ordF a b == some .gt) = decide (cls a ≠ 0 ∧ scl b < scl a) := by
  have fin : ∀ s m i t n j,rdF a = .number s m i → rdF b = .number t n j → cls a ≠ 0 → (ordF a b == some .lt) = decide (cls a ≠ 0 ∧ scl a < scl b) ∧ (ordF a b == some .gt) = decide (cls a ≠ 0 ∧ scl b < scl a) := by
    intro s m i t n j h1 h2 h3
    rw [ord_num ha hb h1 h2,cmpI_lt,cmpI_gt,decide_eq_decide,decide_eq_decide]
    exact ⟨⟨fun q => ⟨h3,q⟩,fun q => q.2⟩,⟨fun q => ⟨h3,q⟩,fun q => q.2⟩⟩
  cases kind_of a ha with
  | nan t f h1 c => rw [ord_nan h1,c];simp
  | inf s h1 c z =>
    cases kind_of b hb with
    | inf t h2 c' z' =>
      have : s = t := by cases s <;> cases t <;> simp_all
      subst this
      rw [ord_inf_inf h1 h2,z,z']
      cases s <;> simp <;> decide
    | nan t f h2 c' => exfalso;rw [c,c'] at h;cases s <;> simp at h
    | neg m i h2 c' z' => exfalso;rw [c,c'] at h;cases s <;> simp at h
    | zero t i h2 c' z' w' => exfalso;rw [c,c'] at h;cases s <;> cases t <;> simp at h
    | pos m i h2 c' z' => exfalso;rw [c,c'] at h;cases s <;> simp at h
  | neg m i h1 c z =>
    cases kind_of b hb with
    | inf t h2 c' z' => exfalso;rw [c,c'] at h;cases t <;> simp at h
    | nan t f h2 c' => exfalso;rw [c,c'] at h;simp at h
    | neg m i h2 c' z' => exact fin _ _ _ _ _ _ h1 h2 (by omega)
    | zero t i h2 c' z' w' => exact fin _ _ _ _ _ _ h1 h2 (by omega)
    | pos m i h2 c' z' => exact fin _ _ _ _ _ _ h1 h2 (by omega)
  | zero s i h1 c z w =>
    have cc : cls a = 3 ∨ cls a = 4 := by rw [c];cases s <;> decide
    cases kind_of b hb with
    | inf t h2 c' z' => exfalso;rw [c'] at h;cases t <;> simp at h <;> omega
    | nan t f h2 c' => exfalso;omega
    | neg m i h2 c' z' => exact fin _ _ _ _ _ _ h1 h2 (by omega)
    | zero t i h2 c' z' w' => exact fin _ _ _ _ _ _ h1 h2 (by omega)
    | pos m i h2 c' z' => exact fin _ _ _ _ _ _ h1 h2 (by omega)
  | pos m i h1 c z =>
    cases kind_of b hb with
    | inf t h2 c' z' => exfalso;rw [c,c'] at h;cases t <;> simp at h
    | nan t f h2 c' => exfalso;rw [c,c'] at h;simp at h
    | neg m i h2 c' z' => exact fin _ _ _ _ _ _ h1 h2 (by omega)
    | zero t i h2 c' z' w' => exact fin _ _ _ _ _ _ h1 h2 (by omega)
    | pos m i h2 c' z' => exact fin _ _ _ _ _ _ h1 h2 (by omega)
def cmpF (a b : Nat) : Int := if cls a < cls b then -1 else if cls b < cls a then 1 else if cls a = 0 then 0 else if scl a < scl b then -1 else if scl b < scl a then 1 else 0
theorem cmpF_self (a : Nat) : cmpF a a = 0 := by unfold cmpF;simp
def ngF (b : Nat) : Nat := Op.negFloat .f64 b
theorem xor_top {b : Nat} (hb : b < 2 ^ 63) : b ^^^ 2 ^ 63 = 2 ^ 63 + b := by
  have e : 2 ^ 63 + b = 2 ^ 63 ||| b := by
    have := Nat.two_pow_add_eq_or_of_lt hb 1
    rwa [Nat.mul_one] at this
  rw [e]
  apply Nat.eq_of_testBit_eq
  intro j
  rw [Nat.testBit_xor,Nat.testBit_or,Nat.testBit_two_pow]
  by_cases h : 63 = j
  · subst h
    rw [Nat.testBit_lt_two_pow hb]
    rfl
  · rw [decide_eq_false h]
    simp
theorem ng_val (b : Nat) (hb : b < 2 ^ 64) : ngF b = if b < 2 ^ 63 then 2 ^ 63 + b else b - 2 ^ 63 := by
  show b ^^^ 2 ^ 63 = _
  by_cases h : b < 2 ^ 63
  · rw [if_pos h,xor_top h]
  · rw [if_neg h]
    have e := xor_top (b := b - 2 ^ 63) (by omega)
    have e2 : 2 ^ 63 + (b - 2 ^ 63) = b := by omega
    rw [e2] at e
    have e3 : b ^^^ 2 ^ 63 = ((b - 2 ^ 63) ^^^ 2 ^ 63) ^^^ 2 ^ 63 := by rw [e]
    rw [e3,Nat.xor_assoc,Nat.xor_self,Nat.xor_zero]
theorem ng_lt (b : Nat) (hb : b < 2 ^ 64) : ngF b < 2 ^ 64 := by rw [ng_val b hb];split <;> omega
theorem cls_inf (b : Nat) (hb : b < 2 ^ 64) : (cls b = 6 ↔ b = 2047 * 2 ^ 52) ∧ (cls b = 1 ↔ b = 2 ^ 63 + 2047 * 2 ^ 52) := by
  have num : ∀ s m i,rdF b = .number s m i → cls b ≠ 6 ∧ cls b ≠ 1 := by
    intro s m i h
    unfold cls
    rw [h]
    simp only
    split <;> split <;> decide
  obtain ⟨s,r,hr,e,h1 | ⟨g0,g1,h2⟩ | ⟨g3,h3⟩ | ⟨g4,t,h4⟩⟩ := rd_cases b hb
  · obtain ⟨n1,n2⟩ := num _ _ _ h1.2
    have := h1.1
    refine ⟨⟨fun q => absurd q n1,fun q => ?_⟩,⟨fun q => absurd q n2,fun q => ?_⟩⟩ <;> exfalso <;> cases s <;> simp at e <;> omega
  · obtain ⟨n1,n2⟩ := num _ _ _ h2
    refine ⟨⟨fun q => absurd q n1,fun q => ?_⟩,⟨fun q => absurd q n2,fun q => ?_⟩⟩ <;> exfalso <;> cases s <;> simp at e <;> omega
  · have hc : cls b = if s then 1 else 6 := by unfold cls;rw [h3]
    rw [hc,e,g3]
    cases s <;> simp
  · have hc : cls b = 0 := by unfold cls;rw [h4]
    rw [hc]
    refine ⟨⟨fun q => by omega,fun q => ?_⟩,⟨fun q => by omega,fun q => ?_⟩⟩ <;> exfalso <;> cases s <;> simp at e <;> omega
theorem t_ninf (b : Nat) (hb : b < 2 ^ 64) : (ordF (ngF b) 9218868437227405311 == some .gt) = decide (cls b = 1) := by
  rw [(tests_of (ngF b) (ng_lt b hb)).gtM,decide_eq_decide,(cls_inf b hb).2,(cls_inf (ngF b) (ng_lt b hb)).1,ng_val b hb]
  split <;> omega
end Go.Proofs.Ytcenlehfbgnphaa.Z
end
section
namespace Go.Proofs.Ytcenlehfbgnphaa.Z
set_option linter.unusedVariables false
set_option linter.unusedSimpArgs false
open Go.RowKit Go.Proofs.YtcenlehfbgnphaaW.PrintWords Go.Proofs.YtcenlehfbgnphaaW.PrintLast Go.Proofs.YtcenlehfbgnphaaW.PrintMore
theorem f64bits (b : Nat) (w : World) : (callFunc 68 #[.float .f64 b]).run Try.prog w = .ok (.value (.int .u64 (b : Int))) w := by
  kernel_rfl
theorem T_nan {b : Nat} (T : Tests b) : (FloatKind.f64.format.order b b != some Ordering.eq) = decide (cls b = 0) := by
  have h := T.nan
  unfold ordF at h
  rw [bne,h,Bool.not_not]
set_option maxHeartbeats 2000000 in
set_option maxRecDepth 100000 in
theorem class0 (b : Nat) (w : World) (h0 : (FloatKind.f64.format.order b b != some Ordering.eq) = true) : Calls Try.prog 32 #[.float .f64 b] w fun e w' => e = .returned (.int .i64 0) ∧ w = w' := by
  have hng : ∀ w : World,(Op.unary UnOp.neg (Value.float FloatKind.f64 b)).run Try.prog w = .ok (.float .f64 (ngF b)) w := fun _ => rfl
  have hbt := f64bits b
  go_enter Try.func32,Try.ntmps32
  go_wp2
  go_ret
  exact ⟨rfl,rfl⟩
set_option maxHeartbeats 2000000 in
set_option maxRecDepth 100000 in
theorem class1 (b : Nat) (w : World) (h0 : (FloatKind.f64.format.order b b != some Ordering.eq) = false) (h1 : (FloatKind.f64.format.order (ngF b) 9218868437227405311 == some Ordering.gt) = true) : Calls Try.prog 32 #[.float .f64 b] w fun e w' => e = .returned (.int .i64 1) ∧ w = w' := by
  have hng : ∀ w : World,(Op.unary UnOp.neg (Value.float FloatKind.f64 b)).run Try.prog w = .ok (.float .f64 (ngF b)) w := fun _ => rfl
  have hbt := f64bits b
  go_enter Try.func32,Try.ntmps32
  go_wp2
  go_ret
  exact ⟨rfl,rfl⟩
set_option maxHeartbeats 2000000 in
set_option maxRecDepth 100000 in
theorem class6 (b : Nat) (w : World) (h0 : (FloatKind.f64.format.order b b != some Ordering.eq) = false) (h1 : (FloatKind.f64.format.order (ngF b) 9218868437227405311 == some Ordering.gt) = false) (h2 : (FloatKind.f64.format.order b 9218868437227405311 == some Ordering.gt) = true) : Calls Try.prog 32 #[.float .f64 b] w fun e w' => e = .returned (.int .i64 6) ∧ w = w' := by
  have hng : ∀ w : World,(Op.unary UnOp.neg (Value.float FloatKind.f64 b)).run Try.prog w = .ok (.float .f64 (ngF b)) w := fun _ => rfl
  have hbt := f64bits b
  go_enter Try.func32,Try.ntmps32
  go_wp2
  go_ret
  exact ⟨rfl,rfl⟩
set_option maxHeartbeats 2000000 in
set_option maxRecDepth 100000 in
theorem class2 (b : Nat) (w : World) (h0 : (FloatKind.f64.format.order b b != some Ordering.eq) = false) (h1 : (FloatKind.f64.format.order (ngF b) 9218868437227405311 == some Ordering.gt) = false) (h2 : (FloatKind.f64.format.order b 9218868437227405311 == some Ordering.gt) = false) (h3 : (FloatKind.f64.format.order b 0 == some Ordering.lt) = true) : Calls Try.prog 32 #[.float .f64 b] w fun e w' => e = .returned (.int .i64 2) ∧ w = w' := by
  have hng : ∀ w : World,(Op.unary UnOp.neg (Value.float FloatKind.f64 b)).run Try.prog w = .ok (.float .f64 (ngF b)) w := fun _ => rfl
  have hbt := f64bits b
  go_enter Try.func32,Try.ntmps32
  go_wp2
  go_ret
  exact ⟨rfl,rfl⟩
set_option maxHeartbeats 2000000 in
set_option maxRecDepth 100000 in
theorem class5 (b : Nat) (w : World) (h0 : (FloatKind.f64.format.order b b != some Ordering.eq) = false) (h1 : (FloatKind.f64.format.order (ngF b) 9218868437227405311 == some Ordering.gt) = false) (h2 : (FloatKind.f64.format.order b 9218868437227405311 == some Ordering.gt) = false) (h3 : (FloatKind.f64.format.order b 0 == some Ordering.lt) = false) (h4 : (FloatKind.f64.format.order b 0 == some Ordering.gt) = true) : Calls Try.prog 32 #[.float .f64 b] w fun e w' => e = .returned (.int .i64 5) ∧ w = w' := by
  have hng : ∀ w : World,(Op.unary UnOp.neg (Value.float FloatKind.f64 b)).run Try.prog w = .ok (.float .f64 (ngF b)) w := fun _ => rfl
  have hbt := f64bits b
  go_enter Try.func32,Try.ntmps32
  go_wp2
  go_ret
  exact ⟨rfl,rfl⟩
set_option maxHeartbeats 2000000 in
set_option maxRecDepth 100000 in
theorem class3 (b : Nat) (w : World) (h0 : (FloatKind.f64.format.order b b != some Ordering.eq) = false) (h1 : (FloatKind.f64.format.order (ngF b) 9218868437227405311 == some Ordering.gt) = false) (h2 : (FloatKind.f64.format.order b 9218868437227405311 == some Ordering.gt) = false) (h3 : (FloatKind.f64.format.order b 0 == some Ordering.lt) = false) (h4 : (FloatKind.f64.format.order b 0 == some Ordering.gt) = false) (h5 : decide (wrap64 (b : Int) < 0) = true) : Calls Try.prog 32 #[.float .f64 b] w fun e w' => e = .returned (.int .i64 3) ∧ w = w' := by
  have hng : ∀ w : World,(Op.unary UnOp.neg (Value.float FloatKind.f64 b)).run Try.prog w = .ok (.float .f64 (ngF b)) w := fun _ => rfl
  have hbt := f64bits b
  go_enter Try.func32,Try.ntmps32
  go_wp2
  go_ret
  exact ⟨rfl,rfl⟩
set_option maxHeartbeats 2000000 in
set_option maxRecDepth 100000 in
theorem class4 (b : Nat) (w : World) (h0 : (FloatKind.f64.format.order b b != some Ordering.eq) = false) (h1 : (FloatKind.f64.format.order (ngF b) 9218868437227405311 == some Ordering.gt) = false) (h2 : (FloatKind.f64.format.order b 9218868437227405311 == some Ordering.gt) = false) (h3 : (FloatKind.f64.format.order b 0 == some Ordering.lt) = false) (h4 : (FloatKind.f64.format.order b 0 == some Ordering.gt) = false) (h5 : decide (wrap64 (b : Int) < 0) = false) : Calls Try.prog 32 #[.float .f64 b] w fun e w' => e = .returned (.int .i64 4) ∧ w = w' := by
  have hng : ∀ w : World,(Op.unary UnOp.neg (Value.float FloatKind.f64 b)).run Try.prog w = .ok (.float .f64 (ngF b)) w := fun _ => rfl
  have hbt := f64bits b
  go_enter Try.func32,Try.ntmps32
  go_wp2
  go_ret
  exact ⟨rfl,rfl⟩
set_option maxHeartbeats 2000000 in
set_option maxRecDepth 100000 in
theorem rclass0 (b : Nat) (w : World) (h0 : (FloatKind.f64.format.order b b != some Ordering.eq) = true) : Calls Try.prog 33 #[.float .f64 b] w fun e w' => e = .returned (.int .i64 0) ∧ w = w' := by
  have hng : ∀ w : World,(Op.unary UnOp.neg (Value.float FloatKind.f64 b)).run Try.prog w = .ok (.float .f64 (ngF b)) w := fun _ => rfl
  have hbt := f64bits b
  go_enter Try.func33,Try.ntmps33
  go_wp2
  go_ret
  exact ⟨rfl,rfl⟩
set_option maxHeartbeats 2000000 in
set_option maxRecDepth 100000 in
theorem rclass1 (b : Nat) (w : World) (h0 : (FloatKind.f64.format.order b b != some Ordering.eq) = false) (h1 : (FloatKind.f64.format.order b 18442240474082181119 == some Ordering.lt) = true) : Calls Try.prog 33 #[.float .f64 b] w fun e w' => e = .returned (.int .i64 1) ∧ w = w' := by
  have hng : ∀ w : World,(Op.unary UnOp.neg (Value.float FloatKind.f64 b)).run Try.prog w = .ok (.float .f64 (ngF b)) w := fun _ => rfl
  have hbt := f64bits b
  go_enter Try.func33,Try.ntmps33
  go_wp2
  go_ret
  exact ⟨rfl,rfl⟩
set_option maxHeartbeats 2000000 in
set_option maxRecDepth 100000 in
theorem rclass2 (b : Nat) (w : World) (h0 : (FloatKind.f64.format.order b b != some Ordering.eq) = false) (h1 : (FloatKind.f64.format.order b 18442240474082181119 == some Ordering.lt) = false) (h2 : (FloatKind.f64.format.order b 0 == some Ordering.lt) = true) : Calls Try.prog 33 #[.float .f64 b] w fun e w' => e = .returned (.int .i64 2) ∧ w = w' := by
  have hng : ∀ w : World,(Op.unary UnOp.neg (Value.float FloatKind.f64 b)).run Try.prog w = .ok (.float .f64 (ngF b)) w := fun _ => rfl
  have hbt := f64bits b
  go_enter Try.func33,Try.ntmps33
  go_wp2
  go_ret
  exact ⟨rfl,rfl⟩
set_option maxHeartbeats 2000000 in
set_option maxRecDepth 100000 in
theorem rclass6 (b : Nat) (w : World) (h0 : (FloatKind.f64.format.order b b != some Ordering.eq) = false) (h1 : (FloatKind.f64.format.order b 18442240474082181119 == some Ordering.lt) = false) (h2 : (FloatKind.f64.format.order b 0 == some Ordering.lt) = false) (h3 : (FloatKind.f64.format.order b 9218868437227405311 == some Ordering.gt) = true) : Calls Try.prog 33 #[.float .f64 b] w fun e w' => e = .returned (.int .i64 6) ∧ w = w' := by
  have hng : ∀ w : World,(Op.unary UnOp.neg (Value.float FloatKind.f64 b)).run Try.prog w = .ok (.float .f64 (ngF b)) w := fun _ => rfl
  have hbt := f64bits b
  go_enter Try.func33,Try.ntmps33
  go_wp2
  go_ret
  exact ⟨rfl,rfl⟩
set_option maxHeartbeats 2000000 in
set_option maxRecDepth 100000 in
theorem rclass5 (b : Nat) (w : World) (h0 : (FloatKind.f64.format.order b b != some Ordering.eq) = false) (h1 : (FloatKind.f64.format.order b 18442240474082181119 == some Ordering.lt) = false) (h2 : (FloatKind.f64.format.order b 0 == some Ordering.lt) = false) (h3 : (FloatKind.f64.format.order b 9218868437227405311 == some Ordering.gt) = false) (h4 : (FloatKind.f64.format.order b 0 == some Ordering.gt) = true) : Calls Try.prog 33 #[.float .f64 b] w fun e w' => e = .returned (.int .i64 5) ∧ w = w' := by
  have hng : ∀ w : World,(Op.unary UnOp.neg (Value.float FloatKind.f64 b)).run Try.prog w = .ok (.float .f64 (ngF b)) w := fun _ => rfl
  have hbt := f64bits b
  go_enter Try.func33,Try.ntmps33
  go_wp2
  go_ret
  exact ⟨rfl,rfl⟩
set_option maxHeartbeats 2000000 in
set_option maxRecDepth 100000 in
theorem rclass3 (b : Nat) (w : World) (h0 : (FloatKind.f64.format.order b b != some Ordering.eq) = false) (h1 : (FloatKind.f64.format.order b 18442240474082181119 == some Ordering.lt) = false) (h2 : (FloatKind.f64.format.order b 0 == some Ordering.lt) = false) (h3 : (FloatKind.f64.format.order b 9218868437227405311 == some Ordering.gt) = false) (h4 : (FloatKind.f64.format.order b 0 == some Ordering.gt) = false) (h5 : ((b : Int) != 0) = true) : Calls Try.prog 33 #[.float .f64 b] w fun e w' => e = .returned (.int .i64 3) ∧ w = w' := by
  have hng : ∀ w : World,(Op.unary UnOp.neg (Value.float FloatKind.f64 b)).run Try.prog w = .ok (.float .f64 (ngF b)) w := fun _ => rfl
  have hbt := f64bits b
  go_enter Try.func33,Try.ntmps33
  go_wp2
  go_ret
  exact ⟨rfl,rfl⟩
set_option maxHeartbeats 2000000 in
set_option maxRecDepth 100000 in
theorem rclass4 (b : Nat) (w : World) (h0 : (FloatKind.f64.format.order b b != some Ordering.eq) = false) (h1 : (FloatKind.f64.format.order b 18442240474082181119 == some Ordering.lt) = false) (h2 : (FloatKind.f64.format.order b 0 == some Ordering.lt) = false) (h3 : (FloatKind.f64.format.order b 9218868437227405311 == some Ordering.gt) = false) (h4 : (FloatKind.f64.format.order b 0 == some Ordering.gt) = false) (h5 : ((b : Int) != 0) = false) : Calls Try.prog 33 #[.float .f64 b] w fun e w' => e = .returned (.int .i64 4) ∧ w = w' := by
  have hng : ∀ w : World,(Op.unary UnOp.neg (Value.float FloatKind.f64 b)).run Try.prog w = .ok (.float .f64 (ngF b)) w := fun _ => rfl
  have hbt := f64bits b
  go_enter Try.func33,Try.ntmps33
  go_wp2
  go_ret
  exact ⟨rfl,rfl⟩
theorem T1 {b : Nat} (hb : b < 2 ^ 64) : (FloatKind.f64.format.order (ngF b) 9218868437227405311 == some Ordering.gt) = decide (cls b = 1) := t_ninf b hb
theorem T2 {b : Nat} (T : Tests b) : (FloatKind.f64.format.order b 9218868437227405311 == some Ordering.gt) = decide (cls b = 6) := T.gtM
theorem T3 {b : Nat} (T : Tests b) : (FloatKind.f64.format.order b 0 == some Ordering.lt) = decide (cls b = 1 ∨ cls b = 2) := T.lt0
theorem T4 {b : Nat} (T : Tests b) : (FloatKind.f64.format.order b 0 == some Ordering.gt) = decide (cls b = 5 ∨ cls b = 6) := T.gt0
theorem T5 {b : Nat} (T : Tests b) : (FloatKind.f64.format.order b 18442240474082181119 == some Ordering.lt) = decide (cls b = 1) := T.ltN
theorem T6 {b : Nat} (hb : b < 2 ^ 64) (T : Tests b) (h : cls b = 3 ∨ cls b = 4) : decide (wrap64 (b : Int) < 0) = decide (cls b = 3) := by
  have e := T.bit h
  rw [decide_eq_decide]
  by_cases c : cls b = 3
  · rw [if_pos c] at e
    refine ⟨fun _ => c,fun _ => ?_⟩
    rw [e]
    decide +kernel
  · rw [if_neg c] at e
    refine ⟨fun q => ?_,fun q => absurd q c⟩
    rw [e] at q
    exact absurd q (by decide +kernel)
theorem T7 {b : Nat} (T : Tests b) (h : cls b = 3 ∨ cls b = 4) : ((b : Int) != 0) = decide (cls b = 3) := by
  have e := T.bit h
  by_cases c : cls b = 3
  · rw [if_pos c] at e
    rw [decide_eq_true c,e]
    decide
  · rw [if_neg c] at e
    rw [decide_eq_false c,e]
    decide
theorem rate_class (b : Nat) (hb : b < 2 ^ 64) (w : World) : Calls Try.prog 32 #[.float .f64 b] w fun e w' => e = .returned (.int .i64 (cls b)) ∧ w = w' := by
  have T := tests_of b hb
  have t0 := T_nan T
  have t1 := T1 hb
  have t2 := T2 T
  have t3 := T3 T
  have t4 := T4 T
  have t6 := T6 hb T
  have lo := T.lo
  have hi := T.hi
  rcases (show cls b = 0 ∨ cls b = 1 ∨ cls b = 2 ∨ cls b = 3 ∨ cls b = 4 ∨ cls b = 5 ∨ cls b = 6 by omega) with c | c | c | c | c | c | c <;> rw [c] at t0 t1 t2 t3 t4 t6 ⊢
  · exact class0 b w t0
  · exact class1 b w t0 t1
  · exact class2 b w t0 t1 t2 t3
  · exact class3 b w t0 t1 t2 t3 t4 (t6 (.inl rfl))
  · exact class4 b w t0 t1 t2 t3 t4 (t6 (.inr rfl))
  · exact class5 b w t0 t1 t2 t3 t4
  · exact class6 b w t0 t1 t2
theorem ref_class (b : Nat) (hb : b < 2 ^ 64) (w : World) : Calls Try.prog 33 #[.float .f64 b] w fun e w' => e = .returned (.int .i64 (cls b)) ∧ w = w' := by
  have T := tests_of b hb
  have t0 := T_nan T
  have t1 := T5 T
  have t2 := T2 T
  have t3 := T3 T
  have t4 := T4 T
  have t6 := T7 T
  have lo := T.lo
  have hi := T.hi
  rcases (show cls b = 0 ∨ cls b = 1 ∨ cls b = 2 ∨ cls b = 3 ∨ cls b = 4 ∨ cls b = 5 ∨ cls b = 6 by omega) with c | c | c | c | c | c | c <;> rw [c] at t0 t1 t2 t3 t4 t6 ⊢
  · exact rclass0 b w t0
  · exact rclass1 b w t0 t1
  · exact rclass2 b w t0 t1 t3
  · exact rclass3 b w t0 t1 t3 t2 t4 (t6 (.inl rfl))
  · exact rclass4 b w t0 t1 t3 t2 t4 (t6 (.inr rfl))
  · exact rclass5 b w t0 t1 t3 t2 t4
  · exact rclass6 b w t0 t1 t3 t2
set_option maxHeartbeats 2000000 in
set_option maxRecDepth 100000 in
theorem cmp1 (a b : Nat) (x y : Int) (w : World) (ca : ∀ w,Calls Try.prog 32 #[.float .f64 a] w fun e w' => e = .returned (.int .i64 x) ∧ w = w') (cb : ∀ w,Calls Try.prog 32 #[.float .f64 b] w fun e w' => e = .returned (.int .i64 y) ∧ w = w') (h0 : (x != y) = true) (h1 : decide (x < y) = true) : Calls Try.prog 34 #[.float .f64 a,.float .f64 b] w fun e w' => e = .returned (.int .i64 (-1)) ∧ w = w' := by
  have CA := Aside0.mk ca
  have CB := Aside0.mk cb
  clear ca cb
  go_enter Try.func34,Try.ntmps34
  go_wp2_with (fail)
  refine (CA.out _).mono ?_
  rintro e w' ⟨rfl,rfl⟩
  go_wp2_with (fail)
  refine (CB.out _).mono ?_
  rintro e w' ⟨rfl,rfl⟩
  go_wp2
  go_ret
  exact ⟨rfl,rfl⟩
set_option maxHeartbeats 2000000 in
set_option maxRecDepth 100000 in
theorem cmp2 (a b : Nat) (x y : Int) (w : World) (ca : ∀ w,Calls Try.prog 32 #[.float .f64 a] w fun e w' => e = .returned (.int .i64 x) ∧ w = w') (cb : ∀ w,Calls Try.prog 32 #[.float .f64 b] w fun e w' => e = .returned (.int .i64 y) ∧ w = w') (h0 : (x != y) = true) (h1 : decide (x < y) = false) (h2 : decide (y < x) = true) : Calls Try.prog 34 #[.float .f64 a,.float .f64 b] w fun e w' => e = .returned (.int .i64 1) ∧ w = w' := by
  have CA := Aside0.mk ca
  have CB := Aside0.mk cb
  clear ca cb
  go_enter Try.func34,Try.ntmps34
  go_wp2_with (fail)
  refine (CA.out _).mono ?_
  rintro e w' ⟨rfl,rfl⟩
  go_wp2_with (fail)
  refine (CB.out _).mono ?_
  rintro e w' ⟨rfl,rfl⟩
  go_wp2
  go_ret
  exact ⟨rfl,rfl⟩
set_option maxHeartbeats 2000000 in
set_option maxRecDepth 100000 in
theorem cmp3 (a b : Nat) (x y : Int) (w : World) (ca : ∀ w,Calls Try.prog 32 #[.float .f64 a] w fun e w' => e = .returned (.int .i64 x) ∧ w = w') (cb : ∀ w,Calls Try.prog 32 #[.float .f64 b] w fun e w' => e = .returned (.int .i64 y) ∧ w = w') (h0 : (x != y) = false) (h1 : (x == 0) = true) (h2 : decide (x < y) = false) (h3 : decide (y < x) = false) : Calls Try.prog 34 #[.float .f64 a,.float .f64 b] w fun e w' => e = .returned (.int .i64 0) ∧ w = w' := by
  have CA := Aside0.mk ca
  have CB := Aside0.mk cb
  clear ca cb
  go_enter Try.func34,Try.ntmps34
  go_wp2_with (fail)
  refine (CA.out _).mono ?_
  rintro e w' ⟨rfl,rfl⟩
  go_wp2_with (fail)
  refine (CB.out _).mono ?_
  rintro e w' ⟨rfl,rfl⟩
  go_wp2
  go_ret
  exact ⟨rfl,rfl⟩
set_option maxHeartbeats 2000000 in
set_option maxRecDepth 100000 in
theorem cmp4 (a b : Nat) (x y : Int) (w : World) (ca : ∀ w,Calls Try.prog 32 #[.float .f64 a] w fun e w' => e = .returned (.int .i64 x) ∧ w = w') (cb : ∀ w,Calls Try.prog 32 #[.float .f64 b] w fun e w' => e = .returned (.int .i64 y) ∧ w = w') (h0 : (x != y) = false) (h1 : (x == 0) = false) (h2 : (FloatKind.f64.format.order a a != some Ordering.eq) = false) (h3 : (FloatKind.f64.format.order b b != some Ordering.eq) = false) (h4 : (FloatKind.f64.format.order a b == some Ordering.lt) = true) : Calls Try.prog 34 #[.float .f64 a,.float .f64 b] w fun e w' => e = .returned (.int .i64 (-1)) ∧ w = w' := by
  have CA := Aside0.mk ca
  have CB := Aside0.mk cb
  clear ca cb
  go_enter Try.func34,Try.ntmps34
  go_wp2_with (fail)
  refine (CA.out _).mono ?_
  rintro e w' ⟨rfl,rfl⟩
  go_wp2_with (fail)
  refine (CB.out _).mono ?_
  rintro e w' ⟨rfl,rfl⟩
  go_wp2
  go_ret
  exact ⟨rfl,rfl⟩
set_option maxHeartbeats 2000000 in
set_option maxRecDepth 100000 in
theorem cmp5 (a b : Nat) (x y : Int) (w : World) (ca : ∀ w,Calls Try.prog 32 #[.float .f64 a] w fun e w' => e = .returned (.int .i64 x) ∧ w = w') (cb : ∀ w,Calls Try.prog 32 #[.float .f64 b] w fun e w' => e = .returned (.int .i64 y) ∧ w = w') (h0 : (x != y) = false) (h1 : (x == 0) = false) (h2 : (FloatKind.f64.format.order a a != some Ordering.eq) = false) (h3 : (FloatKind.f64.format.order b b != some Ordering.eq) = false) (h4 : (FloatKind.f64.format.order a b == some Ordering.lt) = false) (h5 : (FloatKind.f64.format.order a b == some Ordering.gt) = true) : Calls Try.prog 34 #[.float .f64 a,.float .f64 b] w fun e w' => e = .returned (.int .i64 1) ∧ w = w' := by
  have CA := Aside0.mk ca
  have CB := Aside0.mk cb
  clear ca cb
  go_enter Try.func34,Try.ntmps34
  go_wp2_with (fail)
  refine (CA.out _).mono ?_
  rintro e w' ⟨rfl,rfl⟩
  go_wp2_with (fail)
  refine (CB.out _).mono ?_
  rintro e w' ⟨rfl,rfl⟩
  go_wp2
  go_ret
  exact ⟨rfl,rfl⟩
set_option maxHeartbeats 2000000 in
set_option maxRecDepth 100000 in
theorem cmp6 (a b : Nat) (x y : Int) (w : World) (ca : ∀ w,Calls Try.prog 32 #[.float .f64 a] w fun e w' => e = .returned (.int .i64 x) ∧ w = w') (cb : ∀ w,Calls Try.prog 32 #[.float .f64 b] w fun e w' => e = .returned (.int .i64 y) ∧ w = w') (h0 : (x != y) = false) (h1 : (x == 0) = false) (h2 : (FloatKind.f64.format.order a a != some Ordering.eq) = false) (h3 : (FloatKind.f64.format.order b b != some Ordering.eq) = false) (h4 : (FloatKind.f64.format.order a b == some Ordering.lt) = false) (h5 : (FloatKind.f64.format.order a b == some Ordering.gt) = false) : Calls Try.prog 34 #[.float .f64 a,.float .f64 b] w fun e w' => e = .returned (.int .i64 0) ∧ w = w' := by
  have CA := Aside0.mk ca
  have CB := Aside0.mk cb
  clear ca cb
  go_enter Try.func34,Try.ntmps34
  go_wp2_with (fail)
  refine (CA.out _).mono ?_
  rintro e w' ⟨rfl,rfl⟩
  go_wp2_with (fail)
  refine (CB.out _).mono ?_
  rintro e w' ⟨rfl,rfl⟩
  go_wp2
  go_ret
  exact ⟨rfl,rfl⟩
set_option maxHeartbeats 2000000 in
set_option maxRecDepth 100000 in
theorem rcmp1 (a b : Nat) (x y : Int) (w : World) (ca : ∀ w,Calls Try.prog 33 #[.float .f64 a] w fun e w' => e = .returned (.int .i64 x) ∧ w = w') (cb : ∀ w,Calls Try.prog 33 #[.float .f64 b] w fun e w' => e = .returned (.int .i64 y) ∧ w = w') (h0 : decide (x < y) = true) : Calls Try.prog 35 #[.float .f64 a,.float .f64 b] w fun e w' => e = .returned (.int .i64 (-1)) ∧ w = w' := by
  have CA := Aside0.mk ca
  have CB := Aside0.mk cb
  clear ca cb
  go_enter Try.func35,Try.ntmps35
  go_wp2_with (fail)
  refine (CA.out _).mono ?_
  rintro e w' ⟨rfl,rfl⟩
  go_wp2_with (fail)
  refine (CB.out _).mono ?_
  rintro e w' ⟨rfl,rfl⟩
  go_wp2
  go_ret
  exact ⟨rfl,rfl⟩
set_option maxHeartbeats 2000000 in
set_option maxRecDepth 100000 in
theorem rcmp2 (a b : Nat) (x y : Int) (w : World) (ca : ∀ w,Calls Try.prog 33 #[.float .f64 a] w fun e w' => e = .returned (.int .i64 x) ∧ w = w') (cb : ∀ w,Calls Try.prog 33 #[.float .f64 b] w fun e w' => e = .returned (.int .i64 y) ∧ w = w') (h0 : decide (x < y) = false) (h1 : (x == y) = false) (h2 : decide (y < x) = true) : Calls Try.prog 35 #[.float .f64 a,.float .f64 b] w fun e w' => e = .returned (.int .i64 1) ∧ w = w' := by
  have CA := Aside0.mk ca
  have CB := Aside0.mk cb
  clear ca cb
  go_enter Try.func35,Try.ntmps35
  go_wp2_with (fail)
  refine (CA.out _).mono ?_
  rintro e w' ⟨rfl,rfl⟩
  go_wp2_with (fail)
  refine (CB.out _).mono ?_
  rintro e w' ⟨rfl,rfl⟩
  go_wp2
  go_ret
  exact ⟨rfl,rfl⟩
set_option maxHeartbeats 2000000 in
set_option maxRecDepth 100000 in
theorem rcmp3 (a b : Nat) (x y : Int) (w : World) (ca : ∀ w,Calls Try.prog 33 #[.float .f64 a] w fun e w' => e = .returned (.int .i64 x) ∧ w = w') (cb : ∀ w,Calls Try.prog 33 #[.float .f64 b] w fun e w' => e = .returned (.int .i64 y) ∧ w = w') (h0 : decide (x < y) = false) (h1 : (x == y) = true) (h2 : (FloatKind.f64.format.order a b == some Ordering.lt) = true) : Calls Try.prog 35 #[.float .f64 a,.float .f64 b] w fun e w' => e = .returned (.int .i64 (-1)) ∧ w = w' := by
  have CA := Aside0.mk ca
  have CB := Aside0.mk cb
  clear ca cb
  go_enter Try.func35,Try.ntmps35
  go_wp2_with (fail)
  refine (CA.out _).mono ?_
  rintro e w' ⟨rfl,rfl⟩
  go_wp2_with (fail)
  refine (CB.out _).mono ?_
  rintro e w' ⟨rfl,rfl⟩
  go_wp2
  go_ret
  exact ⟨rfl,rfl⟩
set_option maxHeartbeats 2000000 in
set_option maxRecDepth 100000 in
theorem rcmp4 (a b : Nat) (x y : Int) (w : World) (ca : ∀ w,Calls Try.prog 33 #[.float .f64 a] w fun e w' => e = .returned (.int .i64 x) ∧ w = w') (cb : ∀ w,Calls Try.prog 33 #[.float .f64 b] w fun e w' => e = .returned (.int .i64 y) ∧ w = w') (h0 : decide (x < y) = false) (h1 : (x == y) = true) (h2 : (FloatKind.f64.format.order a b == some Ordering.lt) = false) (h3 : decide (y < x) = false) (h4 : (FloatKind.f64.format.order a b == some Ordering.gt) = true) : Calls Try.prog 35 #[.float .f64 a,.float .f64 b] w fun e w' => e = .returned (.int .i64 1) ∧ w = w' := by
  have CA := Aside0.mk ca
  have CB := Aside0.mk cb
  clear ca cb
  go_enter Try.func35,Try.ntmps35
  go_wp2_with (fail)
  refine (CA.out _).mono ?_
  rintro e w' ⟨rfl,rfl⟩
  go_wp2_with (fail)
  refine (CB.out _).mono ?_
  rintro e w' ⟨rfl,rfl⟩
  go_wp2
  go_ret
  exact ⟨rfl,rfl⟩
set_option maxHeartbeats 2000000 in
set_option maxRecDepth 100000 in
theorem rcmp5 (a b : Nat) (x y : Int) (w : World) (ca : ∀ w,Calls Try.prog 33 #[.float .f64 a] w fun e w' => e = .returned (.int .i64 x) ∧ w = w') (cb : ∀ w,Calls Try.prog 33 #[.float .f64 b] w fun e w' => e = .returned (.int .i64 y) ∧ w = w') (h0 : decide (x < y) = false) (h1 : (x == y) = true) (h2 : (FloatKind.f64.format.order a b == some Ordering.lt) = false) (h3 : decide (y < x) = false) (h4 : (FloatKind.f64.format.order a b == some Ordering.gt) = false) : Calls Try.prog 35 #[.float .f64 a,.float .f64 b] w fun e w' => e = .returned (.int .i64 0) ∧ w = w' := by
  have CA := Aside0.mk ca
  have CB := Aside0.mk cb
  clear ca cb
  go_enter Try.func35,Try.ntmps35
  go_wp2_with (fail)
  refine (CA.out _).mono ?_
  rintro e w' ⟨rfl,rfl⟩
  go_wp2_with (fail)
  refine (CB.out _).mono ?_
  rintro e w' ⟨rfl,rfl⟩
  go_wp2
  go_ret
  exact ⟨rfl,rfl⟩
theorem rate_compare (a b : Nat) (ha : a < 2 ^ 64) (hb : b < 2 ^ 64) (w : World) : Calls Try.prog 34 #[.float .f64 a,.float .f64 b] w fun e w' => e = .returned (.int .i64 (cmpF a b)) ∧ w = w' := by
  have ca := rate_class a ha
  have cb := rate_class b hb
  have na := T_nan (tests_of a ha)
  have nb := T_nan (tests_of b hb)
  have hs := ord_same ha hb
  unfold cmpF
  generalize cls a = x at *
  generalize cls b = y at *
  rcases Int.lt_trichotomy x y with c | c | c
  · rw [if_pos c]
    exact cmp1 a b x y w ca cb (by rw [bne_iff_ne];omega) (decide_eq_true c)
  · subst c
    obtain ⟨h1,h2⟩ := hs rfl
    rw [if_neg (by omega),if_neg (by omega)]
    by_cases z : x = 0
    · rw [if_pos z]
      exact cmp3 a b x x w ca cb (by simp) (by simp [z]) (by simp) (by simp)
    · rw [if_neg z]
      have z0 : (x == 0) = false := by simp [z]
      rw [decide_eq_false z] at na nb
      by_cases l : scl a < scl b
      · rw [if_pos l]
        exact cmp4 a b x x w ca cb (by simp) z0 na nb (by unfold ordF at h1;rw [h1];exact decide_eq_true ⟨z,l⟩)
      · rw [if_neg l]
        have l0 : (FloatKind.f64.format.order a b == some Ordering.lt) = false := by unfold ordF at h1;rw [h1];exact decide_eq_false (fun q => l q.2)
        by_cases g : scl b < scl a
        · rw [if_pos g]
          exact cmp5 a b x x w ca cb (by simp) z0 na nb l0 (by unfold ordF at h2;rw [h2];exact decide_eq_true ⟨z,g⟩)
        · rw [if_neg g]
          exact cmp6 a b x x w ca cb (by simp) z0 na nb l0 (by unfold ordF at h2;rw [h2];exact decide_eq_false (fun q => g q.2))
  · rw [if_neg (by omega),if_pos c]
    exact cmp2 a b x y w ca cb (by rw [bne_iff_ne];omega) (decide_eq_false (by omega)) (decide_eq_true c)
theorem ref_compare (a b : Nat) (ha : a < 2 ^ 64) (hb : b < 2 ^ 64) (w : World) : Calls Try.prog 35 #[.float .f64 a,.float .f64 b] w fun e w' => e = .returned (.int .i64 (cmpF a b)) ∧ w = w' := by
  have ca := ref_class a ha
  have cb := ref_class b hb
  have hs := ord_same ha hb
  unfold cmpF
  generalize cls a = x at *
  generalize cls b = y at *
  rcases Int.lt_trichotomy x y with c | c | c
  · rw [if_pos c]
    exact rcmp1 a b x y w ca cb (decide_eq_true c)
  · subst c
    obtain ⟨h1,h2⟩ := hs rfl
    unfold ordF at h1 h2
    rw [if_neg (by omega),if_neg (by omega)]
    have n0 : decide (x < x) = false := decide_eq_false (by omega)
    by_cases z : x = 0
    · rw [if_pos z]
      exact rcmp5 a b x x w ca cb n0 (by simp) (by rw [h1];exact decide_eq_false (fun q => q.1 z)) n0 (by rw [h2];exact decide_eq_false (fun q => q.1 z))
    · rw [if_neg z]
      by_cases l : scl a < scl b
      · rw [if_pos l]
        exact rcmp3 a b x x w ca cb n0 (by simp) (by rw [h1];exact decide_eq_true ⟨z,l⟩)
      · rw [if_neg l]
        have l0 : (FloatKind.f64.format.order a b == some Ordering.lt) = false := by rw [h1];exact decide_eq_false (fun q => l q.2)
        by_cases g : scl b < scl a
        · rw [if_pos g]
          exact rcmp4 a b x x w ca cb n0 (by simp) l0 n0 (by rw [h2];exact decide_eq_true ⟨z,g⟩)
        · rw [if_neg g]
          exact rcmp5 a b x x w ca cb n0 (by simp) l0 n0 (by rw [h2];exact decide_eq_false (fun q => g q.2))
  · rw [if_neg (by omega),if_pos c]
    exact rcmp2 a b x y w ca cb (decide_eq_false (by omega)) (by simp;omega) (decide_eq_true c)
end Go.Proofs.Ytcenlehfbgnphaa.Z
end
section
namespace Go.Proofs.Ytcenlehfbgnphaa.Z
set_option linter.unusedVariables false
set_option linter.unusedSimpArgs false
open Go.RowKit Go.Proofs.YtcenlehfbgnphaaW.PrintWords Go.Proofs.YtcenlehfbgnphaaW.PrintLast Go.Proofs.YtcenlehfbgnphaaW.PrintMore
def shQ (a l : Int) : Option Nat := FloatKind.f64.format.div (floatOfInt .f64 a) (floatOfInt .f64 l)
structure IsShare (a l : Int) (r : Nat) : Prop where
  lt : r < 2 ^ 64
  num : ∀ q,shQ a l = some q → r = q
  nan : shQ a l = none → cls r = 0
theorem share_eq {a l : Int} {r1 r2 : Nat} (h1 : IsShare a l r1) (h2 : IsShare a l r2) : r1 = r2 ∨ (cls r1 = 0 ∧ cls r2 = 0) := by
  cases h : shQ a l with
  | none => exact .inr ⟨h1.nan h,h2.nan h⟩
  | some q => exact .inl ((h1.num q h).trans (h2.num q h).symm)
theorem share_cls {a l : Int} {r1 r2 : Nat} (h1 : IsShare a l r1) (h2 : IsShare a l r2) : cls r1 = cls r2 := by
  rcases share_eq h1 h2 with rfl | ⟨e1,e2⟩
  · rfl
  · rw [e1,e2]
theorem share_cmp {a l : Int} {r1 r2 : Nat} (h1 : IsShare a l r1) (h2 : IsShare a l r2) (x : Nat) : cmpF r1 x = cmpF r2 x := by
  rcases share_eq h1 h2 with rfl | ⟨e1,e2⟩
  · rfl
  · unfold cmpF;rw [e1,e2];simp
theorem share_same {a l : Int} {r1 r2 : Nat} (h1 : IsShare a l r1) (h2 : IsShare a l r2) : cmpF r1 r2 = 0 := by rw [share_cmp h1 h2 r2,cmpF_self]
def nanV (w : World) (x y : Nat) : Nat := Question.cut (.nanBits .f64 x y) (w.tape w.drawn (.nanBits .f64 x y))
theorem cls_nan (b : Nat) (hb : b < 2 ^ 64) (h : 2047 * 2 ^ 52 < b % 2 ^ 63) : cls b = 0 := by
  obtain ⟨s,r,hr,e2,h1 | ⟨g0,g1,h2⟩ | ⟨g3,h3⟩ | ⟨g4,t,h4⟩⟩ := rd_cases b hb
  · have := h1.1
    exfalso;cases s <;> simp at e2 <;> omega
  · exfalso;cases s <;> simp at e2 <;> omega
  · exfalso;cases s <;> simp at e2 <;> omega
  · unfold cls;rw [h4]
theorem nan_arith (t : Nat) : (t % 2) * 2 ^ 63 + 9218868437227405312 + 1 + (t / 2) % 4503599627370495 < 2 ^ 64 ∧ 2047 * 2 ^ 52 < ((t % 2) * 2 ^ 63 + 9218868437227405312 + 1 + (t / 2) % 4503599627370495) % 2 ^ 63 := by
  rcases Nat.mod_two_eq_zero_or_one t with h | h <;> rw [h] <;> omega
theorem cut_nan (x y t : Nat) : Question.cut (.nanBits .f64 x y) t = (t % 2) * 2 ^ 63 + 9218868437227405312 + 1 + (t / 2) % 4503599627370495 := rfl
theorem nanV_ok (w : World) (x y : Nat) : nanV w x y < 2 ^ 64 ∧ cls (nanV w x y) = 0 := by
  unfold nanV
  rw [cut_nan]
  have h := nan_arith (w.tape w.drawn (.nanBits .f64 x y))
  exact ⟨h.1,cls_nan _ h.1 h.2⟩
theorem lt_of_wf {b : Nat} (h : (Lit.float .f64 b).wf = true) : b < 2 ^ 64 := by
  simpa [Lit.wf] using h
theorem run_quo_some {x y q : Nat} (h : FloatKind.f64.format.div x y = some q) (w : World) : (binOp .quo 46 (.float .f64 x) (.float .f64 y)).run Try.prog w = .ok (.float .f64 q) w := run_float_arith w .quo 46 .f64 x y q h
theorem run_quo_none {x y : Nat} (h : FloatKind.f64.format.div x y = none) (w : World) : (binOp .quo 46 (.float .f64 x) (.float .f64 y)).run Try.prog w = .ok (.float .f64 (nanV w x y)) w.drew := by
  simp [binOp,Op.floatArith,h]
  rw [if_neg (show ¬ ((Question.nanBits FloatKind.f64 x y).forced = true) from Bool.false_ne_true)]
  rfl
set_option maxHeartbeats 2000000 in
set_option maxRecDepth 100000 in
theorem rate_share (s0 s1 : ByteArray) (a l : Int) (w : World) : Calls Try.prog 29 #[.agg #[.string s0,.string s1,.int .i64 a,.int .i64 l]] w fun e w' => ∃ r,e = .returned (.float .f64 r) ∧ IsShare a l r ∧ Below w.heap.size w w' := by
  have hu45 := Try.underlying45
  cases h : shQ a l with
  | none =>
    have hq := run_quo_none h
    have HN := Aside0.mk h
    clear h
    go_enter Try.func29,Try.ntmps29
    go_wp2
    go_ret
    exact ⟨_,rfl,⟨(nanV_ok _ _ _).1,fun q e => (by rw [HN.out] at e;cases e),fun _ => (nanV_ok _ _ _).2⟩,below_drew1 (below_alloc (Below.refl _ _) _)⟩
  | some q =>
    have hq := run_quo_some h
    have HN := Aside0.mk h
    clear h
    go_enter Try.func29,Try.ntmps29
    go_wp2
    go_ret
    exact ⟨q,rfl,⟨lt_of_wf (floatBits_wf (op := .quo) HN.out),fun q' e => (by rw [HN.out] at e;exact Option.some.inj e),fun e => (by rw [HN.out] at e;cases e)⟩,below_alloc (Below.refl _ _) _⟩
set_option maxHeartbeats 2000000 in
set_option maxRecDepth 100000 in
theorem ref_share (s0 s1 : ByteArray) (a l : Int) (w : World) : Calls Try.prog 31 #[.agg #[.string s0,.string s1,.int .i64 a,.int .i64 l]] w fun e w' => ∃ r,e = .returned (.float .f64 r) ∧ IsShare a l r ∧ Below w.heap.size w w' := by
  have hu45 := Try.underlying45
  cases h : shQ a l with
  | none =>
    have hq := run_quo_none h
    have HN := Aside0.mk h
    clear h
    go_enter Try.func31,Try.ntmps31
    go_wp2
    go_ret
    exact ⟨_,rfl,⟨(nanV_ok _ _ _).1,fun q e => (by rw [HN.out] at e;cases e),fun _ => (nanV_ok _ _ _).2⟩,below_drew1 (below_alloc (Below.refl _ _) _)⟩
  | some q =>
    have hq := run_quo_some h
    have HN := Aside0.mk h
    clear h
    go_enter Try.func31,Try.ntmps31
    go_wp2
    go_ret
    exact ⟨q,rfl,⟨lt_of_wf (floatBits_wf (op := .quo) HN.out),fun q' e => (by rw [HN.out] at e;exact Option.some.inj e),fun e => (by rw [HN.out] at e;cases e)⟩,below_alloc (Below.refl _ _) _⟩
end Go.Proofs.Ytcenlehfbgnphaa.Z
end
section
namespace Go.Proofs.Ytcenlehfbgnphaa.Z
set_option linter.unusedVariables false
set_option linter.unusedSimpArgs false
open Go.RowKit Go.Proofs.YtcenlehfbgnphaaW.PrintWords Go.Proofs.YtcenlehfbgnphaaW.PrintLast Go.Proofs.YtcenlehfbgnphaaW.PrintMore
set_option maxHeartbeats 2000000 in
set_option maxRecDepth 100000 in
theorem rate_u (a b : Int) (w : World) : Calls Try.prog 71 #[.int .i64 a,.int .i64 b] w fun e w' => e = .returned (.agg #[.string (⟨#[]⟩ : ByteArray),.string (⟨#[]⟩ : ByteArray),.int .i64 a,.int .i64 b]) ∧ Below w.heap.size w w' := by
  obtain ⟨B,hB⟩ : ∃ B,w.heap.size = B := ⟨_,rfl⟩
  have e0 := blk_new w (.cells #[.string (⟨#[]⟩ : ByteArray),.string (⟨#[]⟩ : ByteArray),.int .i64 0,.int .i64 0] 45)
  have eB : Below B w (w.alloc (.cells #[.string (⟨#[]⟩ : ByteArray),.string (⟨#[]⟩ : ByteArray),.int .i64 0,.int .i64 0] 45)) := by
    rw [← hB];exact below_alloc (Below.refl _ _) _
  rw [hB] at e0
  have E0 := Aside0.mk e0
  have EB := Aside0.mk eB
  have HB0 := Aside0.mk hB
  have c0 := blk_cell E0.out 0
  have c1 := blk_cell E0.out 1
  have c2 := blk_cell E0.out 2
  have c3 := blk_cell E0.out 3
  have z0 := blk_frozen E0.out 0
  have z1 := blk_frozen E0.out 1
  have z2 := blk_frozen E0.out 2
  have z3 := blk_frozen E0.out 3
  simp only [List.getElem?_toArray,List.getElem?_cons_zero,List.getElem?_cons_succ] at c0 c1 c2 c3
  clear e0 eB
  go_enter Try.func71,Try.ntmps71
  go_wp2_with (fail)
  clear hB
  refine bodyPost_ret (results_cell_row rfl _ _ B 45 #[.string (⟨#[]⟩ : ByteArray),.string (⟨#[]⟩ : ByteArray),.int .i64 a,.int .i64 b] (0,0) _ rfl (by have hz := blk_new w (.cells #[.string (⟨#[]⟩ : ByteArray),.string (⟨#[]⟩ : ByteArray),.int .i64 a,.int .i64 b] 45);rw [HB0.out] at hz;exact hz) Try.underlying45 rfl (by kernel_rfl)) rfl ?_
  exact ⟨rfl,below_alloc (Below.refl _ _) _⟩
theorem sh30 : shQ 3 0 = some 9218868437227405312 := by decide +kernel
theorem sh02 : shQ 0 (-2) = some 9223372036854775808 := by decide +kernel
theorem sh34 : shQ 3 4 = some 4604930618986332160 := by decide +kernel
theorem sh00 : shQ 0 0 = none := by decide +kernel
theorem class_at (b : Nat) (x : Int) (hb : b < 2 ^ 64) (hx : cls b = x) (w : World) : Calls Try.prog 32 #[.float .f64 b] w fun e w' => e = .returned (.int .i64 x) ∧ w = w' := by rw [← hx];exact rate_class b hb w
theorem compare_at (a b : Nat) (x : Int) (ha : a < 2 ^ 64) (hb : b < 2 ^ 64) (hx : cmpF a b = x) (w : World) : Calls Try.prog 34 #[.float .f64 a,.float .f64 b] w fun e w' => e = .returned (.int .i64 x) ∧ w = w' := by rw [← hx];exact rate_compare a b ha hb w
theorem ng_inf : ngF 9218868437227405312 = 18442240474082181120 := by decide +kernel
set_option maxHeartbeats 4000000 in
set_option maxRecDepth 100000 in
theorem rate_known (w : World) : Calls Try.prog 36 #[] w fun e w' => e = .returned (.bool true) ∧ Below w.heap.size w w' := by
  have hng : ∀ w : World,(Op.unary UnOp.neg (Value.float FloatKind.f64 9218868437227405312)).run Try.prog w = .ok (.float .f64 18442240474082181120) w := fun _ => by rw [← ng_inf];rfl
  have heq : (FloatKind.f64.format.order 4604930618986332160 4604930618986332160 == some Ordering.eq) = true := by decide +kernel
  have HB := Aside0.mk (Below.refl w.heap.size w)
  go_enter Try.func36,Try.ntmps36
  go_wp2_with (fail)
  refine (rate_u 3 0 _).mono ?_
  rintro e w1 ⟨rfl,hb⟩
  have HB1 := Aside0.mk (below_step HB.out hb)
  clear hb HB
  have HB := HB1
  clear HB1
  go_wp2_with (fail)
  refine (rate_share _ _ 3 0 _).mono ?_
  rintro e w1 ⟨ra,rfl,hra,hb⟩
  have HB1 := Aside0.mk (below_step HB.out hb)
  clear hb HB
  have HB := HB1
  clear HB1
  obtain rfl := hra.num _ sh30
  clear hra
  go_wp2_with (fail)
  refine (rate_u 0 0 _).mono ?_
  rintro e w1 ⟨rfl,hb⟩
  have HB1 := Aside0.mk (below_step HB.out hb)
  clear hb HB
  have HB := HB1
  clear HB1
  go_wp2_with (fail)
  refine (rate_share _ _ 0 0 _).mono ?_
  rintro e w1 ⟨rb,rfl,hrb,hb⟩
  have HB1 := Aside0.mk (below_step HB.out hb)
  clear hb HB
  have HB := HB1
  clear HB1
  have HR := Aside0.mk (And.intro hrb.lt (hrb.nan sh00))
  clear hrb
  go_wp2_with (fail)
  refine (rate_u 0 (-2) _).mono ?_
  rintro e w1 ⟨rfl,hb⟩
  have HB1 := Aside0.mk (below_step HB.out hb)
  clear hb HB
  have HB := HB1
  clear HB1
  go_wp2_with (fail)
  refine (rate_share _ _ 0 (-2) _).mono ?_
  rintro e w1 ⟨rc,rfl,hrc,hb⟩
  have HB1 := Aside0.mk (below_step HB.out hb)
  clear hb HB
  have HB := HB1
  clear HB1
  obtain rfl := hrc.num _ sh02
  clear hrc
  go_wp2_with (fail)
  refine (class_at 9218868437227405312 6 (by decide) (by decide +kernel) _).mono ?_
  rintro e w' ⟨rfl,rfl⟩
  go_wp2_with (fail)
  refine (class_at rb 0 HR.out.1 HR.out.2 _).mono ?_
  rintro e w' ⟨rfl,rfl⟩
  go_wp2_with (fail)
  refine (class_at 9223372036854775808 3 (by decide) (by decide +kernel) _).mono ?_
  rintro e w' ⟨rfl,rfl⟩
  go_wp2_with (fail)
  refine (class_at 0 4 (by decide) (by decide +kernel) _).mono ?_
  rintro e w' ⟨rfl,rfl⟩
  go_wp2_with (fail)
  refine (class_at 18442240474082181120 1 (by decide) (by decide +kernel) _).mono ?_
  rintro e w' ⟨rfl,rfl⟩
  go_wp2_with (fail)
  refine (class_at 4607182418800017408 5 (by decide) (by decide +kernel) _).mono ?_
  rintro e w' ⟨rfl,rfl⟩
  go_wp2_with (fail)
  refine (class_at 13830554455654793216 2 (by decide) (by decide +kernel) _).mono ?_
  rintro e w' ⟨rfl,rfl⟩
  go_wp2_with (fail)
  refine (compare_at rb 18442240474082181120 (-1) HR.out.1 (by decide) (by unfold cmpF;rw [HR.out.2,show cls 18442240474082181120 = 1 by decide +kernel];rfl) _).mono ?_
  rintro e w' ⟨rfl,rfl⟩
  go_wp2_with (fail)
  refine (compare_at 9223372036854775808 0 (-1) (by decide) (by decide) (by decide +kernel) _).mono ?_
  rintro e w' ⟨rfl,rfl⟩
  go_wp2_with (fail)
  refine (compare_at rb rb 0 HR.out.1 HR.out.1 (cmpF_self rb) _).mono ?_
  rintro e w' ⟨rfl,rfl⟩
  go_wp2_with (fail)
  refine (rate_u 3 4 _).mono ?_
  rintro e w1 ⟨rfl,hb⟩
  have HB1 := Aside0.mk (below_step HB.out hb)
  clear hb HB
  have HB := HB1
  clear HB1
  go_wp2_with (fail)
  refine (rate_share _ _ 3 4 _).mono ?_
  rintro e w1 ⟨rd,rfl,hrd,hb⟩
  have HB1 := Aside0.mk (below_step HB.out hb)
  clear hb HB
  have HB := HB1
  clear HB1
  obtain rfl := hrd.num _ sh34
  clear hrd
  go_wp2_with (fail)
  go_ret
  exact ⟨rfl,HB.out⟩
end Go.Proofs.Ytcenlehfbgnphaa.Z
end
section
namespace Go.Proofs.Ytcenlehfbgnphaa.Z
set_option linter.unusedVariables false
set_option linter.unusedSimpArgs false
open Go.RowKit Go.Proofs.YtcenlehfbgnphaaW.PrintWords Go.Proofs.YtcenlehfbgnphaaW.PrintLast Go.Proofs.YtcenlehfbgnphaaW.PrintMore
structure SameW (w w' : World) : Prop where
  heap : w'.heap = w.heap
  os : w'.os = w.os
  tape : w'.tape = w.tape
  output : w'.output = w.output
set_option maxHeartbeats 2000000 in
set_option maxRecDepth 100000 in
theorem ref_same (a b : Nat) (ha : a < 2 ^ 64) (hb : b < 2 ^ 64) (w : World) : Calls Try.prog 30 #[.float .f64 a,.float .f64 b] w fun e w' => e = .returned (.bool (cmpF a b == 0)) ∧ w = w' := by
  have CC := Aside0.mk (ref_compare a b ha hb)
  go_enter Try.func30,Try.ntmps30
  go_wp2_with (fail)
  refine (CC.out _).mono ?_
  rintro e w' ⟨rfl,rfl⟩
  go_wp2
  go_ret
  exact ⟨rfl,rfl⟩
theorem ref_same_share {a l : Int} {r1 r2 : Nat} (h1 : IsShare a l r1) (h2 : IsShare a l r2) (w : World) : Calls Try.prog 30 #[.float .f64 r1,.float .f64 r2] w fun e w' => e = .returned (.bool true) ∧ w = w' := by
  have := ref_same r1 r2 h1.lt h2.lt w
  rw [share_same h1 h2] at this
  exact this
theorem ref_class_share {a l : Int} {r1 r2 : Nat} (h1 : IsShare a l r1) (h2 : IsShare a l r2) (w : World) : Calls Try.prog 33 #[.float .f64 r2] w fun e w' => e = .returned (.int .i64 (cls r1)) ∧ w = w' := by
  rw [share_cls h1 h2]
  exact ref_class r2 h2.lt w
theorem ref_compare_share {a l : Int} {r1 r2 : Nat} (h1 : IsShare a l r1) (h2 : IsShare a l r2) (x : Nat) (hx : x < 2 ^ 64) (w : World) : Calls Try.prog 35 #[.float .f64 r2,.float .f64 x] w fun e w' => e = .returned (.int .i64 (cmpF r1 x)) ∧ w = w' := by
  rw [share_cmp h1 h2]
  exact ref_compare r2 x h2.lt hx w
structure TellS (B : Nat) (s0 s1 : ByteArray) (u l : Int) (w w' : World) : Prop where
  box : w'.heap[B]? = some (.cells #[.string s0,.string s1,.int .i64 u,.int .i64 l] 45 (0,0))
  below : Below B w w'
theorem TellS.next {B : Nat} {s0 s1 : ByteArray} {u l : Int} {w w1 w2 W : World} (h : TellS B s0 s1 u l w w1) (hb : Below W.heap.size W w2) (e : SameW w1 W := by exact ⟨rfl,rfl,rfl,rfl⟩) : TellS B s0 s1 u l w w2 := by
  have hlt : B < W.heap.size := by rw [e.heap];exact blk_lt h.box
  refine ⟨(hb.block B hlt).trans (by rw [e.heap];exact h.box),?_⟩
  have h1 : Below B w W := ⟨e.os.trans h.below.os,e.tape.trans h.below.tape,e.output.trans h.below.output,by rw [e.heap];exact h.below.size,fun k hk => by rw [e.heap];exact h.below.block k hk⟩
  exact h1.trans (hb.mono (Nat.le_of_lt hlt))
theorem TellS.cells {B : Nat} {s0 s1 : ByteArray} {u l : Int} {w w' : World} (h : TellS B s0 s1 u l w w') : w'.cell? ⟨B,0,none⟩ = some (.string s0) ∧ w'.cell? ⟨B,1,none⟩ = some (.string s1) ∧ w'.cell? ⟨B,2,none⟩ = some (.int .i64 u) ∧ w'.cell? ⟨B,3,none⟩ = some (.int .i64 l) :=
  ⟨(blk_cell h.box 0).trans rfl,(blk_cell h.box 1).trans rfl,(blk_cell h.box 2).trans rfl,(blk_cell h.box 3).trans rfl⟩
set_option maxHeartbeats 8000000 in
set_option maxRecDepth 100000 in
theorem rate_tells (s0 s1 : ByteArray) (u l : Int) (a b : Nat) (ha : a < 2 ^ 64) (hb : b < 2 ^ 64) (w : World) : Calls Try.prog 7 #[.agg #[.string s0,.string s1,.int .i64 u,.int .i64 l],.float .f64 a,.float .f64 b] w fun e w' => e = .returned (.bool true) ∧ Below w.heap.size w w' := by
  have hu45 := Try.underlying45
  obtain ⟨B,hB⟩ : ∃ B,w.heap.size = B := ⟨_,rfl⟩
  have e0 := blk_new w (.cells #[.string s0,.string s1,.int .i64 u,.int .i64 l] 45)
  have eB : Below B w (w.alloc (.cells #[.string s0,.string s1,.int .i64 u,.int .i64 l] 45)) := by
    rw [← hB];exact below_alloc (Below.refl _ _) _
  rw [hB] at e0
  have E0 := Aside0.mk e0
  have EB := Aside0.mk eB
  have HB0 := Aside0.mk hB
  have HA := Aside0.mk ha
  have HBB := Aside0.mk hb
  have c0 := blk_cell E0.out 0
  have c1 := blk_cell E0.out 1
  have c2 := blk_cell E0.out 2
  have c3 := blk_cell E0.out 3
  simp only [List.getElem?_toArray,List.getElem?_cons_zero,List.getElem?_cons_succ] at c0 c1 c2 c3
  clear e0 eB ha hb
  go_enter Try.func7,Try.ntmps7
  go_wp2_with (fail)
  clear hB
  change Calls Try.prog 29 _ (w.alloc (.cells #[.string s0,.string s1,.int .i64 u,.int .i64 l] 45)) _
  generalize w.alloc (.cells #[.string s0,.string s1,.int .i64 u,.int .i64 l] 45) = w0 at *
  refine (rate_share s0 s1 u l w0).mono ?_
  rintro e w1 ⟨r0,rfl,hr0,hb⟩
  have R0 := Aside0.mk hr0
  have F0 := Aside0.mk (blk_below E0.out hb)
  have FB := Aside0.mk (EB.out.trans (hb.mono (by have := blk_lt E0.out;omega)))
  clear c0 c1 c2 c3 hr0 hb E0 EB
  have c0 := blk_cell F0.out 0
  have c1 := blk_cell F0.out 1
  have c2 := blk_cell F0.out 2
  have c3 := blk_cell F0.out 3
  simp only [List.getElem?_toArray,List.getElem?_cons_zero,List.getElem?_cons_succ] at c0 c1 c2 c3
  go_wp2_with (fail)
  have I1 : TellS B s0 s1 u l w w1 := ⟨F0.out,FB.out⟩
  go_region_held3 (fun w' => w'.cell? ⟨B,0,none⟩ = some (.string s0) ∧ w'.cell? ⟨B,1,none⟩ = some (.string s1) ∧ w'.cell? ⟨B,2,none⟩ = some (.int .i64 u) ∧ w'.cell? ⟨B,3,none⟩ = some (.int .i64 l)) (first | go_keep | exact ⟨by assumption,by assumption,by assumption,by assumption⟩) (first | (go_at_call 31;refine (ref_share s0 s1 u l _).mono ?_;rintro e w2 ⟨r1,rfl,hr1,hb1⟩;have I2 := I1.next hb1;clear I1 hb1;have I1 := I2;clear I2;obtain ⟨c0,c1,c2,c3⟩ := I1.cells) | (go_at_call 30;first | ((with_reducible refine (ref_same_share R0.out hr1 _).mono ?_);rintro e w' ⟨rfl,rfl⟩)) | (go_at_call 32;first | ((with_reducible refine (rate_class r0 R0.out.lt _).mono ?_);rintro e w' ⟨rfl,rfl⟩) | ((with_reducible refine (rate_class a HA.out _).mono ?_);rintro e w' ⟨rfl,rfl⟩)) | (go_at_call 33;first | ((with_reducible refine (ref_class_share R0.out hr1 _).mono ?_);rintro e w' ⟨rfl,rfl⟩) | ((with_reducible refine (ref_class a HA.out _).mono ?_);rintro e w' ⟨rfl,rfl⟩)) | (go_at_call 34;first | ((with_reducible refine (rate_compare a b HA.out HBB.out _).mono ?_);rintro e w' ⟨rfl,rfl⟩) | ((with_reducible refine (rate_compare r0 a R0.out.lt HA.out _).mono ?_);rintro e w' ⟨rfl,rfl⟩)) | (go_at_call 35;first | ((with_reducible refine (ref_compare a b HA.out HBB.out _).mono ?_);rintro e w' ⟨rfl,rfl⟩) | ((with_reducible refine (ref_compare_share R0.out hr1 a HA.out _).mono ?_);rintro e w' ⟨rfl,rfl⟩)) | (go_at_call 36;refine (rate_known _).mono ?_;rintro e w3 ⟨rfl,hb3⟩;have I2 := I1.next hb3;clear I1 hb3;have I1 := I2;clear I2;obtain ⟨c0,c1,c2,c3⟩ := I1.cells))
  all_goals
    go_wp2_with (fail)
    go_ret
    exact ⟨rfl,by rw [HB0.out];exact I1.below⟩
end Go.Proofs.Ytcenlehfbgnphaa.Z
end
section
namespace Go.Proofs.Ytcenlehfbgnphaa.Z
set_option linter.unusedVariables false
open Go.RowKit Go.Proofs.YtcenlehfbgnphaaW.PrintWords Go.Proofs.YtcenlehfbgnphaaW.PrintLast Go.Proofs.YtcenlehfbgnphaaW.PrintMore
def verdererlaw35_RateTells.f (a0_0 : ByteArray) (a0_1 : ByteArray) (a0_2 : Int) (a0_3 : Int) (a1 : Nat) (a2 : Nat) : Option (Bool) := if decide (a1 < 2 ^ 64) && decide (a2 < 2 ^ 64) then some true else none
theorem verdererlaw35_RateTells.calls (a0_0 : ByteArray) (a0_1 : ByteArray) (a0_2 : Int) (a0_3 : Int) (a1 : Nat) (a2 : Nat) (r : Bool) (w : World) (h : verdererlaw35_RateTells.f a0_0 a0_1 a0_2 a0_3 a1 a2 = some r) :
    Calls Try.prog 7 #[.agg #[.string a0_0,.string a0_1,.int .i64 a0_2,.int .i64 a0_3],.float .f64 a1,.float .f64 a2] w fun e w' => e = .returned (.bool r) ∧ Below w.heap.size w w' := by
  unfold verdererlaw35_RateTells.f at h
  split at h
  · rename_i hc
    rw [Bool.and_eq_true,decide_eq_true_eq,decide_eq_true_eq] at hc
    obtain rfl := Option.some.inj h
    exact rate_tells a0_0 a0_1 a0_2 a0_3 a1 a2 hc.1 hc.2 w
  · exact absurd h (by simp)
end Go.Proofs.Ytcenlehfbgnphaa.Z
end
section
namespace Go.Proofs.YtcenlehfbgnphaaW.PrintWords
open Go.RowKit Go.ChangeShapes Go.WideShapes
section
variable {P : Program} {α β : Type}
def OfTrod (P : Program) (t : TypeId) (d : Kd α) (G : α → Prop) : Prop :=
  ∀ (H : Type) (enc : TypeId × Value → H) (w : World) (base : Nat) (spare : Nat → Bool) (held : Bool) (fuel : Nat) (cs : List Value) (x : DataW H × List MemPlace),DataW.trod enc P w base spare held fuel t cs = some x → ∃ s,d.K w s cs ∧ G s
theorem ofTrod_int {t : TypeId} {k : IntKind} (ht : P.underlying t = some (.int k)) : OfTrod P t (Kd.int k) (fun n => (Lit.int k n).wf = true) := by
  intro H enc w base spare held fuel cs x h
  obtain ⟨n,rfl,_,hw⟩ := DataW.trod_int ht h
  exact ⟨n,rfl,hw⟩
theorem ofTrod_string {t : TypeId} (ht : P.underlying t = some .string) : OfTrod P t Kd.string (fun s => s.size ≤ maxLen) := by
  intro H enc w base spare held fuel cs x h
  obtain ⟨s,rfl,_,hs⟩ := DataW.trod_string ht h
  exact ⟨s,rfl,hs⟩
def segOff (segs : List (TypeId × Nat)) (i : Nat) : Nat := ((segs.take i).map (·.2)).sum
def OfSegs (P : Program) (segs : List (TypeId × Nat)) (d : Kd α) (G : α → Prop) : Prop :=
  ∀ (H : Type) (enc : TypeId × Value → H) (w : World) (base : Nat) (spare : Nat → Bool) (held : Bool) (fuel : Nat) (cs : List Value),cs.length = segOff segs segs.length →
    (∀ i t c,segs[i]? = some (t,c) → ∃ x,DataW.trod enc P w base spare held fuel t ((cs.drop (segOff segs i)).take c) = some x) → ∃ s,d.K w s cs ∧ G s
theorem ofSegs_one {t : TypeId} {c : Nat} {d : Kd α} {G : α → Prop} (h : OfTrod P t d G) : OfSegs P [(t,c)] d G := by
  intro H enc w base spare held fuel cs hl hx
  obtain ⟨x,h1⟩ := hx 0 t c rfl
  have hl2 : cs.length = c := by simpa [segOff] using hl
  have e : ((cs.drop (segOff [(t,c)] 0)).take c) = cs := by simp [segOff,← hl2]
  rw [e] at h1
  exact h _ _ _ _ _ _ _ _ _ h1
theorem ofSegs_cons {t : TypeId} {c : Nat} {ts : List (TypeId × Nat)} {d : Kd α} {d' : Kd β} {G : α → Prop} {G' : β → Prop} (h : OfTrod P t d G) (h' : OfSegs P ts d' G') : OfSegs P ((t,c) :: ts) (Kd.pair d d') (fun x => G x.1 ∧ G' x.2) := by
  intro H enc w base spare held fuel cs hl hx
  obtain ⟨x,h1⟩ := hx 0 t c rfl
  have e : ((cs.drop (segOff ((t,c) :: ts) 0)).take c) = cs.take c := by simp [segOff]
  rw [e] at h1
  obtain ⟨s,h2,h3⟩ := h _ _ _ _ _ _ _ _ _ h1
  have hl' : (cs.drop c).length = segOff ts ts.length := by
    simp [segOff] at hl ⊢
    omega
  obtain ⟨s',h4,h5⟩ := h' H enc w base spare held fuel (cs.drop c) hl' (fun i t' c' hi => by
    obtain ⟨y,hy⟩ := hx (i + 1) t' c' (by simpa using hi)
    refine ⟨y,?_⟩
    have e2 : segOff ((t,c) :: ts) (i + 1) = c + segOff ts i := by simp [segOff]
    rw [e2] at hy
    rw [List.drop_drop]
    exact hy)
  exact ⟨(s,s'),⟨cs.take c,cs.drop c,(List.take_append_drop c cs).symm,h2,h4⟩,h3,h5⟩
theorem ofTrod_struct {t : TypeId} {fs : Array Field} {segs : List (TypeId × Nat)} {d : Kd α} {G : α → Prop} (ht : P.underlying t = some (.struct fs)) (hc : P.cellsOf t = segOff segs segs.length) (hn : fs.size = segs.length)
    (hfs : ∀ i (f : Field),fs[i]? = some f → segs[i]? = some (f.type,P.cellsOf f.type) ∧ f.offset = segOff segs i) (h : OfSegs P segs d G) : OfTrod P t d G := by
  intro H enc w base spare held fuel cs x hx
  obtain ⟨xs,n,_,_,hl,hxl,hf⟩ := DataW.trod_struct ht hx
  refine h H enc w base spare held n cs (by rw [hl,hc]) (fun i t' c' hi => ?_)
  have hlt : i < fs.size := by rw [hn];exact (List.getElem?_eq_some_iff.1 hi).1
  obtain ⟨h1,h2⟩ := hfs i fs[i] (Array.getElem?_eq_getElem hlt)
  rw [hi] at h1
  injection h1 with h1
  injection h1 with h1 h3
  have h4 := hf i fs[i] (Array.getElem?_eq_getElem hlt)
  rw [h2,← h3,← h1] at h4
  have hlt2 : i < xs.length := by omega
  rw [List.getElem?_eq_getElem hlt2] at h4
  exact ⟨_,h4⟩
theorem ofTrod_iso {t : TypeId} {d : Kd α} {G : α → Prop} (f : β → α) (g : α → β) (hg : ∀ a,f (g a) = a) (h : OfTrod P t d G) : OfTrod P t (Kd.iso d f) (fun x => G (f x)) := by
  intro H enc w base spare held fuel cs x hx
  obtain ⟨s,h1,h2⟩ := h _ _ _ _ _ _ _ _ _ hx
  exact ⟨g s,by show d.K w (f (g s)) cs;rw [hg];exact h1,by show G (f (g s));rw [hg];exact h2⟩
theorem cell_heap {w w' : World} (h : w.heap = w'.heap) (a : Addr) : w'.cell? a = w.cell? a := by unfold World.cell?;rw [h]
end
end Go.Proofs.YtcenlehfbgnphaaW.PrintWords
end
section
namespace Go.Proofs.Ytcenlehfbgnphaa.Z
open Go.RowKit Go.Proofs.YtcenlehfbgnphaaW.PrintWords Go.Proofs.YtcenlehfbgnphaaW.PrintLast Go.Proofs.YtcenlehfbgnphaaW.PrintMore
set_option maxRecDepth 100000
def G45 (x : S45) : Prop := (x.f0.size ≤ maxLen) ∧ (x.f1.size ≤ maxLen) ∧ ((Lit.int .i64 x.f2).wf = true) ∧ ((Lit.int .i64 x.f3).wf = true)
theorem of45 : OfTrod Try.prog 45 k45 G45 :=
  ofTrod_iso _ (fun a => (⟨a.1,a.2.1,a.2.2.1,a.2.2.2⟩ : S45)) (fun _ => rfl) (ofTrod_struct (segs := [(9,1),(9,1),(2,1),(2,1)]) Try.underlying45 (by kernel_rfl) rfl
    (by
      intro i f hf
      rcases i with _ | _ | _ | _ | i <;> simp at hf <;> subst hf <;> exact ⟨congrArg some (Prod.ext rfl (by kernel_rfl)),rfl⟩) (ofSegs_cons (ofTrod_string Try.underlying9) (ofSegs_cons (ofTrod_string Try.underlying9) (ofSegs_cons (ofTrod_int Try.underlying2) (ofSegs_one (ofTrod_int Try.underlying2))))))
end Go.Proofs.Ytcenlehfbgnphaa.Z
end
section
namespace Go.Proofs.Ytcenlehfbgnphaa.Z
open Go.RowKit Go.Proofs.YtcenlehfbgnphaaW.PrintWords Go.Proofs.YtcenlehfbgnphaaW.PrintLast Go.Proofs.YtcenlehfbgnphaaW.PrintMore
theorem rateTells_pure : ∀ (a0 : S45) (a1 : Nat) (a2 : Nat),G45 a0 → (Lit.float .f64 a1).wf = true → (Lit.float .f64 a2).wf = true → verdererlaw35_RateTells.f a0.f0 a0.f1 a0.f2 a0.f3 a1 a2 = some true := by
  intro a0 a1 a2 _ h1 h2
  unfold verdererlaw35_RateTells.f
  rw [if_pos]
  rw [Bool.and_eq_true,decide_eq_true_eq,decide_eq_true_eq]
  exact ⟨lt_of_wf h1,lt_of_wf h2⟩
end Go.Proofs.Ytcenlehfbgnphaa.Z
end
namespace Go.Proofs.Ytcenlehfbgnphaa.rateTells
open Go.ChangeShapes Go.WideShapes Go.ChangeAt Go.RowKit Go.Proofs.YtcenlehfbgnphaaW.PrintWords
open Go.ChangeMaps (open_string shut_string)
set_option linter.unusedVariables false
theorem own : ownKnob Try.prog.godebug = none := by kernel_rfl
theorem laidOut : laidOutB Try.prog = true := by kernel_rfl
set_option maxRecDepth 100000 in
theorem lifted (os : Os) (started : os.Started) (H : Type) (enc : TypeId × Value → H) :
    ReturnsInHanded {} Try.checked os 7 .any (Rows.rateTellsSpec.pre6 enc Try.prog Try.f7 Rows.rateTellsRow.domain false) (Rows.rateTellsSpec.post enc Try.prog Try.f7 false true false false) := by
  refine returnsInHanded_of_change (C := Try.checked) own started (by kernel_rfl) Try.func7
    (ChangeSpec.witness6 (enc := enc) (C := Try.checked) false ⟨#[],#[.agg #[.string ByteArray.empty,.string ByteArray.empty,.int .i64 0,.int .i64 0],.float .f64 0,.float .f64 0],[]⟩ 8 (by kernel_rfl) (by kernel_rfl) (by kernel_rfl) (by kernel_rfl)) ?_
  intro W base args ds gs before hval0 hW hcnd _
  have hval : ∀ (j : Nat) t v,Try.f7.params[j]? = some t → args[j]? = some v → Value.okWide Try.prog W .any base t v := hval0
  have hW' := hW
  obtain ⟨p,q,hA0,hV,rfl,hfz,hnd⟩ := hW
  have hA : DataW.TrodAll enc Try.prog W 0 (fun _ => true) true Try.f7.params.toList args.toList ds p := hA0
  rw [Try.params7] at hA hval
  obtain ⟨v0,vs0,d0,ds0,p0,q0,hargs,rfl,rfl,h0,r0⟩ := trodAll_cons hA
  obtain ⟨v1,vs1,d1,ds1,p1,q1,rfl,rfl,rfl,h1,r1⟩ := trodAll_cons r0
  obtain ⟨v2,vs2,d2,ds2,p2,q2,rfl,rfl,rfl,h2,r2⟩ := trodAll_cons r1
  obtain ⟨rfl,rfl,rfl⟩ := trodAll_nil r2
  obtain rfl : args = #[v0,v1,v2] := by cases args;simp_all
  obtain ⟨rfl,rfl⟩ := trodVars_none hV
  obtain ⟨cs0,rfl,hsz0⟩ := okWide_struct Try.underlying45 (hval 0 45 v0 rfl rfl)
  have k0 := h0
  have lt0 : ∀ x ∈ p0,x.block < W.heap.size := by obtain ⟨m,hm⟩ := k0;exact DataW.trod_lt m _ _ _ hm
  obtain ⟨a0,hK0,hG0⟩ : ∃ x,Z.k45.K W x cs0.toList ∧ Z.G45 x := by obtain ⟨fuel,hf⟩ := h0;exact Z.of45 _ _ _ _ _ _ _ _ _ hf
  obtain rfl : cs0 = #[.string a0.f0,.string a0.f1,.int .i64 a0.f2,.int .i64 a0.f3] := Array.toList_inj.1 (Z.k45_open hK0)
  obtain ⟨a1,rfl,rfl,rfl,w1⟩ := open_float Try.underlying46 (hval 1 46 v1 rfl rfl) h1
  obtain ⟨a2,rfl,rfl,rfl,w2⟩ := open_float Try.underlying46 (hval 2 46 v2 rfl rfl) h2
  clear hA0 hval0
  have h := Z.rateTells_pure a0 a1 a2 hG0 w1 w2
  refine (Z.verdererlaw35_RateTells.calls a0.f0 a0.f1 a0.f2 a0.f3 a1 a2 true W  h).mono fun e W' ⟨he,bel⟩ => ?_
  subst he
  exact ⟨_,rfl,_,_,_,[],_,[],hW',trodAll_mk1 (shut_bool Try.underlying4 _),(trodAll_cons_mk (Below.trod laidOut (by kernel_rfl) (of_decide_eq_true (by kernel_rfl)) k0 bel lt0) (trodAll_cons_mk (shut_float Try.underlying46 w1) (trodAll_cons_mk (shut_float Try.underlying46 w2) trodAll_mk0))),rfl,bel.frame _,fun h => by cases h⟩
theorem over : Rows.rateTellsRow.holds Try.pinned (OpenSpec.ofChange Rows.rateTellsSpec) :=
  OpenClaim.holds_of_wide 7 Try.f7 rfl rfl rfl rfl rfl rfl rfl ⟨rfl,rfl,rfl,rfl,rfl⟩ rfl rfl rfl rfl rfl (by kernel_rfl) Try.func7 (by kernel_rfl)
    (of_decide_eq_true (by kernel_rfl)) (by unfold Func.isWrapper;first | (rw [if_pos (by decide +kernel)];kernel_rfl) | (rw [if_neg (by decide +kernel)];exact ⟨rfl,rfl⟩))
    (fun os started H enc _ => lifted os started H enc)
theorem proved : Rows.RateTellsSaid := over
#print axioms proved
end Go.Proofs.Ytcenlehfbgnphaa.rateTells
namespace Go.Proofs.Ytcenlehfbgnphaa
theorem rateTells_holds : Rows.RateTellsSaid := rateTells.proved
end Go.Proofs.Ytcenlehfbgnphaa
