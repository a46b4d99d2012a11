/- Parts of the proof of RateRanks: what its functions answer. -/
import Derived.Below
import Derived.Deep.Draws
import Derived.Deep.AppendLies
import Derived.Maps.AppendAt
import Derived.OwnWalk
import Derived.Laws.BytesArg
import Derived.Laws.MakeOwn
import Derived.Laws.OwnMore
import Derived.Deep.OwnRows
import Derived.Tactics
import Derived.Lib.ConvBytes
import Derived.Laws.Slices
import Derived.WalkKit
import Derived.KernelRfl
import Derived.RowKit3
import Derived.Deep.LoopGhost
import Derived.Deep.QuietTactic
import Derived.BigQuiet
import Derived.WideLaws
import Derived.Deep.DeepCutAuto
import Derived.Deep.CutBlock
import Derived.Deep.RegionHeld3
import Derived.Laws.Rows
import Derived.Lib.AppendStr
import Derived.ArgAppend
import Derived.Laws.IdiomCopy
import Derived.RowKit
import Derived.OrdersHeld
import Derived.Laws.BitsLemmas
import Derived.Laws.StructEq
import Derived.Test.YtcenlehfbgnphaaProg
import Derived.RegionTactic
import Derived.BigRegion
import Derived.ChangeAlike
import Derived.Laws.Bits64
import Derived.StillTailTactics
import Derived.Outline
namespace Go.Proofs.Ytcenlehfbgnphaa.Z
theorem zA {T : Type _} (l : List T) (i : Nat) (a : T) : l.toArray.setIfInBounds i a = (l.set i a).toArray := by simp
theorem zB {T : Type _} (x : T) (xs : List T) (a : T) : (x :: xs).set 0 a = a :: xs := rfl
theorem zC {T : Type _} (x : T) (xs : List T) (n : Nat) (a : T) : (x :: xs).set (n+1) a = x :: xs.set n a := rfl
end Go.Proofs.Ytcenlehfbgnphaa.Z
section
set_option linter.unusedVariables false
set_option linter.unusedSimpArgs false
namespace Go.Proofs.YtcenlehfbgnphaaW.PrintWords
open Go.RowKit
structure Aside0 (p : Prop) : Prop where mk :: (out : p)
structure Drawn0 (w w' : World) : Prop where mk :: (out : ∃ n,w' = w.drewN n)
theorem Drawn0.refl (w : World) : Drawn0 w w := ⟨⟨0,rfl⟩⟩
theorem Drawn0.step {w w' : World} (h : Drawn0 w w') (n : Nat) : Drawn0 w (w'.drewN n) := by
  obtain ⟨m,rfl⟩ := h
  exact ⟨⟨m + n,World.drewN_drewN ..⟩⟩
theorem Drawn0.grown {w w' : World} (h : Drawn0 w w') : Grown w w' := by
  obtain ⟨n,rfl⟩ := h
  induction n with
  | zero => exact Grown.refl _
  | succ n ih => rw [← World.drew_drewN];exact Grown.drew ih
theorem Drawn0.below {w w' : World} (h : Drawn0 w w') : Below w.heap.size w w' := by
  obtain ⟨n,rfl⟩ := h
  induction n with
  | zero => exact Below.refl _ _
  | succ n ih => rw [← World.drew_drewN];exact ih.drew
def rd (xs : List Int) (i : Int) : Int := xs.getD i.toNat 0
theorem below_alloc {w W : World} (h : Below w.heap.size w W) (o : Obj) : Below w.heap.size w (W.alloc o) := h.alloc h.size o
theorem pw_below_drewN {B : Nat} {w W : World} (h : Below B w W) (n : Nat) : Below B w (W.drewN n) := ⟨h.os,h.tape,h.output,h.size,h.block⟩
theorem below_then {B : Nat} {w w1 w2 : World} (h : Below B w w1) (hB : B ≤ w1.heap.size) (k : Below w1.heap.size w1 w2) : Below B w w2 :=
  h.trans ⟨k.os,k.tape,k.output,k.size,fun i hi => k.block i (Nat.lt_of_lt_of_le hi hB)⟩
theorem grown_of_below {w w1 : World} (h : Below w.heap.size w w1) (row : Option Nat) : w.grownBy w1 row := ⟨h.os,h.tape,h.output,h.size,fun i hi _ => h.block i hi⟩
theorem pw_cell_below {w w1 : World} (h : Below w.heap.size w w1) {a : Addr} {v : Value} (hc : w.cell? a = some v) : w1.cell? a = some v := (h.cell (World.block_lt_of_cell? w a hc)).trans hc
def ReadsInt (w : World) (k : IntKind) (A : Option Addr) (n : Nat) (xs : List Int) : Prop :=
  xs.length = n ∧ n ≤ 9223372036854775807 ∧ (0 < n → ∃ ad,A = some ad ∧ ∀ j,j < n → w.cell? (ad.add j) = some (.int k (xs.getD j 0)))
theorem ReadsInt.at_ {w : World} {k : IntKind} {A : Option Addr} {n : Nat} {xs : List Int} (h : ReadsInt w k A n xs) (i : Int) (h0 : 0 ≤ i) (h1 : i < n) : ∃ ad,A = some ad ∧ w.cell? (ad.add i.toNat) = some (.int k (rd xs i)) := by
  obtain ⟨ad,e,hc⟩ := h.2.2 (by omega)
  exact ⟨ad,e,hc _ (by omega)⟩
theorem ReadsInt.below {w w1 : World} {k : IntKind} {A : Option Addr} {n : Nat} {xs : List Int} (h : ReadsInt w k A n xs) (hb : Below w.heap.size w w1) : ReadsInt w1 k A n xs :=
  ⟨h.1,h.2.1,fun hn => by
    obtain ⟨ad,e,hc⟩ := h.2.2 hn
    exact ⟨ad,e,fun j hj => pw_cell_below hb (hc j hj)⟩⟩
theorem own_nil (W : World) (base : Nat) (e : TypeId) (size : Nat) : W.ownsRow base e size (.slice none 0 0) 0 [] := ⟨by simp,.inl ⟨rfl,rfl⟩⟩
theorem own_base {w : World} {base : Nat} {e : TypeId} {size n : Nat} {v : Value} {xs : List Value} (h : w.ownsRow base e size v n xs) (k : Nat) (hk : v.ownBlock = some k) : base ≤ k := by
  rcases h.2 with ⟨rfl,_⟩ | ⟨g,cap,cur,rfl,hb,_⟩
  · simp [Value.ownBlock] at hk
  · have : g = k := by simpa [Value.ownBlock] using hk
    omega
theorem own_lt {w : World} {base : Nat} {e : TypeId} {size n : Nat} {v : Value} {xs : List Value} (h : w.ownsRow base e size v n xs) (k : Nat) (hk : v.ownBlock = some k) : k < w.heap.size := by
  rcases h.2 with ⟨rfl,_⟩ | ⟨g,cap,cur,rfl,hb,hh,_⟩
  · simp [Value.ownBlock] at hk
  · have : g = k := by simpa [Value.ownBlock] using hk
    subst this
    exact (Array.getElem?_eq_some_iff.1 hh).1
theorem pw_own_below {w w1 : World} {base : Nat} {e : TypeId} {size n : Nat} {v : Value} {xs : List Value} (h : w.ownsRow base e size v n xs) (hb : Below w.heap.size w w1) : w1.ownsRow base e size v n xs :=
  h.kept (grown_of_below hb none) (by cases v.ownBlock <;> simp)
section
variable {P : Program} {ops : Array Oper} {rest : List Oper} {o : Oper} {a : Act} {Q : Exit → Act → World → Prop}
end
section
variable {P : Program}
end
section
variable {P : Program} {ops : Array Oper} {rest : List Oper} {o : Oper} {a : Act} {Q : Exit → Act → World → Prop}
end
def LeO {α : Type} (a b : Option α) : Prop := ∀ r,a = some r → b = some r
theorem LeO.refl {α : Type} (a : Option α) : LeO a a := fun _ h => h
theorem LeO.none {α : Type} (b : Option α) : LeO Option.none b := fun _ h => by cases h
theorem LeO.trans {α : Type} {a b c : Option α} (h : LeO a b) (k : LeO b c) : LeO a c := fun r hr => k r (h r hr)
theorem LeO.ite {α : Type} {c : Prop} [Decidable c] {a a' b b' : Option α} (h : LeO a a') (k : LeO b b') : LeO (if c then a else b) (if c then a' else b') := by
  split
  · exact h
  · exact k
theorem LeO.bind {α β : Type} {a a' : Option α} {f f' : α → Option β} (h : LeO a a') (k : ∀ x,LeO (f x) (f' x)) : LeO (a.bind f) (a'.bind f') := by
  intro r hr
  obtain ⟨x,hx,hf⟩ := Option.bind_eq_some_iff.1 hr
  exact Option.bind_eq_some_iff.2 ⟨x,h x hx,k x r hf⟩
theorem LeO.map {α β : Type} {a a' : Option α} (f : α → β) (h : LeO a a') : LeO (a.map f) (a'.map f) := by
  intro r hr
  obtain ⟨x,hx,hf⟩ := Option.map_eq_some_iff.1 hr
  exact Option.map_eq_some_iff.2 ⟨x,h x hx,hf⟩
def Reps {α : Type} (R : α → List Value → Prop) (size : Nat) (ps : List α) (cs : List Value) : Prop :=
  cs.length = ps.length * size ∧ ∀ j p,ps[j]? = some p → R p ((cs.drop (j * size)).take size)
theorem Reps.none {α : Type} (R : α → List Value → Prop) (size : Nat) : Reps R size [] [] := ⟨by simp,fun j p h => by simp at h⟩
theorem Reps.snoc {α : Type} {R : α → List Value → Prop} {size : Nat} {ps : List α} {cs c : List Value} {p : α} (h : Reps R size ps cs) (hp : R p c) (hc : c.length = size) : Reps R size (ps ++ [p]) (cs ++ c) := by
  refine ⟨by rw [List.length_append,h.1,hc,List.length_append,List.length_singleton,Nat.add_mul,Nat.one_mul],fun j q hq => ?_⟩
  rcases Nat.lt_or_ge j ps.length with hj | hj
  · rw [List.getElem?_append_left hj] at hq
    have h1 : j * size + size ≤ cs.length := by rw [h.1,← Nat.succ_mul];exact Nat.mul_le_mul_right _ hj
    have h2 := h.2 j q hq
    rw [List.drop_append_of_le_length (by omega),List.take_append_of_le_length (by rw [List.length_drop];omega)]
    exact h2
  · have hj' : j = ps.length := by
      have := (List.getElem?_eq_some_iff.1 hq).1
      rw [List.length_append,List.length_singleton] at this
      omega
    subst hj'
    have hq' : p = q := by simpa using hq
    subst hq'
    rw [← h.1,List.drop_left,← hc,List.take_length]
    exact hp
theorem Reps.imp_ {α : Type} {R R' : α → List Value → Prop} {size : Nat} {ps : List α} {cs : List Value} (h : Reps R size ps cs) (hR : ∀ p c,R p c → R' p c) : Reps R' size ps cs := ⟨h.1,fun j p hj => hR _ _ (h.2 j p hj)⟩
def ReadsRow {α : Type} (R : α → List Value → Prop) (size : Nat) (w : World) (A : Option Addr) (n : Nat) (ps : List α) : Prop :=
  ps.length = n ∧ n ≤ 9223372036854775807 ∧ (0 < n → ∃ ad,A = some ad ∧ ∀ j p,ps[j]? = some p → ∃ c,c.length = size ∧ R p c ∧ ∀ i u,c[i]? = some u → w.cell? (ad.add (j * size + i)) = some u)
theorem ReadsRow.get_ {α : Type} {R : α → List Value → Prop} {size : Nat} {w : World} {A : Option Addr} {n : Nat} {ps : List α} (h : ReadsRow R size w A n ps) (d : α) (i : Int) (h0 : 0 ≤ i) (h1 : i < n) :
    ∃ ad c,A = some ad ∧ c.length = size ∧ R (ps.getD i.toNat d) c ∧ ∀ j u,c[j]? = some u → w.cell? (ad.add (i.toNat * size + j)) = some u := by
  obtain ⟨ad,e,hc⟩ := h.2.2 (by omega)
  have hl : i.toNat < ps.length := by have := h.1;omega
  obtain ⟨c,hs,hr,hcell⟩ := hc i.toNat _ (List.getElem?_eq_getElem hl)
  refine ⟨ad,c,e,hs,?_,hcell⟩
  rw [List.getD_eq_getElem?_getD,List.getElem?_eq_getElem hl]
  exact hr
theorem ReadsRow.imp_ {α : Type} {R R' : α → List Value → Prop} {size : Nat} {w w1 : World} {A : Option Addr} {n : Nat} {ps : List α} (h : ReadsRow R size w A n ps) (hb : Below w.heap.size w w1) (hR : ∀ p c,R p c → R' p c) : ReadsRow R' size w1 A n ps :=
  ⟨h.1,h.2.1,fun hn => by
    obtain ⟨ad,e,hc⟩ := h.2.2 hn
    refine ⟨ad,e,fun j p hj => ?_⟩
    obtain ⟨c,hs,hr,hcell⟩ := hc j p hj
    exact ⟨c,hs,hR _ _ hr,fun i u hu => pw_cell_below hb (hcell i u hu)⟩⟩
theorem own_reads_row {α : Type} {R : α → List Value → Prop} {w : World} {base n size : Nat} {e : TypeId} {v : Value} {ps : List α} {cs : List Value} (h : w.ownsRow base e size v n cs) (hR : Reps R size ps cs) (hn : ps.length = n) :
    ∃ A c,v = .slice A n c ∧ ReadsRow R size w A n ps := by
  rcases Nat.eq_zero_or_pos n with h0 | h0
  · rcases h.2 with ⟨rfl,rfl⟩ | ⟨g,cap,cur,rfl,_⟩
    · exact ⟨none,0,rfl,hn,by omega,fun hp => absurd hp (by omega)⟩
    · exact ⟨_,cap,rfl,hn,by omega,fun hp => absurd hp (by omega)⟩
  · obtain ⟨g,cap,rfl,_,_⟩ := h.form h0
    have hm : n ≤ 9223372036854775807 := by
      rcases h.2 with ⟨_,h1⟩ | ⟨g',cap',cur,he,_,_,h1,h2,_⟩
      · omega
      · simp only [maxLen] at h2
        omega
    refine ⟨_,cap,rfl,hn,hm,fun _ => ⟨_,rfl,fun j p hj => ⟨(cs.drop (j * size)).take size,?_,hR.2 j p hj,fun i u hu => ?_⟩⟩⟩
    · have hjl := (List.getElem?_eq_some_iff.1 hj).1
      have h1 : j * size + size ≤ cs.length := by rw [hR.1,← Nat.succ_mul];exact Nat.mul_le_mul_right _ hjl
      rw [List.length_take,List.length_drop]
      omega
    · refine h.cells (g := g) rfl _ u ?_
      rw [List.getElem?_take] at hu
      split at hu
      · rw [List.getElem?_drop] at hu
        exact hu
      · cases hu
theorem add_field (ad : Addr) (m j : Nat) (hj : 0 < j) : ad.add (m + j) = ⟨(ad.add m).block,(ad.add m).off + j,none⟩ := by
  unfold Addr.add
  by_cases hm : m = 0
  · subst hm
    simp [Nat.ne_of_gt hj]
  · simp [hm,Nat.add_assoc]
section
variable {P : Program} {ops : Array Oper} {rest : List Oper} {o : Oper} {a : Act} {Q : Exit → Act → World → Prop}
theorem print_append_cells {w0 W : World} (base : Nat) (hgd : o.guard = none) (s x : Operand) (t e : TypeId) (z : Value) (size bytes : Nat)
    (ho : o.op = .call { callee := .builtin .append,args := #[s,x],argTypes := #[t,t] })
    (ht : P.underlying t = some (.slice e)) (hinfo : (P.info? e).map (fun i => (i.zero,i.size,i.bytes)) = some (some z,size,bytes)) (hz : z.cells.size = size) (hs0 : 0 < size) (hb0 : 0 < bytes)
    (v : Value) (n : Nat) (xs ys : List Value) (hs : a.eval s = v) (hx : a.eval x = .slice (some ⟨W.heap.size,0,none⟩) 1 1) (hys : ys.length = size) (h1 : ∀ u ∈ ys,u.oneCell' = true)
    (HO : W.ownsRow base e size v n xs) (HB : Below base w0 W) (hbase : base ≤ W.heap.size) (hl : (n + 1) * bytes ≤ 140737488355328)
    (h : ∀ v1 w1,w1.ownsRow base e size v1 (n + 1) (xs ++ ys) → Below base w0 w1 → W.grownBy w1 v.ownBlock → (v1.ownBlock = v.ownBlock ∨ ∃ b,v1.ownBlock = some b ∧ W.heap.size ≤ b) → wpList P ops Q rest (a.put o.dst v1) w1) :
    wpList P ops Q (o :: rest) a (W.alloc (.cells ys.toArray e)) := by
  obtain ⟨i0,hi,hzz⟩ := Option.map_eq_some_iff.1 hinfo
  simp only [Prod.mk.injEq] at hzz
  obtain ⟨hz0,hz1,hz2⟩ := hzz
  have hlen : n + 1 ≤ 140737488355328 := Nat.le_trans (Nat.le_mul_of_pos_right _ hb0) hl
  refine wpList_append_own_at (W.alloc (.cells ys.toArray e)) hgd s x t ho base e i0 z size bytes ht hi hz0 hz1 hz2 hz hs0 v n xs hs (HO.alloc _) ⟨W.heap.size,0,none⟩ 1 1 ys hx (by rw [hys];simp)
    (by simpa using World.news_of_block (cs := ys.toArray) (t := e) (fr := (0,0)) (heap_alloc_new W (.cells ys.toArray e))) h1 (by simp only [maxLen];omega) hl (by simp;omega) ?_
  intro v1 w1 hown hg _ hat
  refine h v1 w1 hown ((HB.alloc hbase _).grown hg (by simp;omega) (own_base HO)) (World.grownBy.trans (World.grownBy_alloc W _ _) hg) ?_
  rcases hat with hat | hat
  · exact .inl hat
  · exact .inr ⟨_,hat,by simp⟩
end
theorem own_ne {w : World} {base : Nat} {e t : TypeId} {size n g : Nat} {v : Value} {xs : List Value} {cs : Array Value} (h : w.ownsRow base e size v n xs) (hg : w.heap[g]? = some (.cells cs t (0,0))) (hne : e ≠ t) : some g ≠ v.ownBlock := by
  rcases h.2 with ⟨rfl,_⟩ | ⟨g',cap,cur,rfl,_,hh,_⟩
  · simp [Value.ownBlock]
  · intro he
    have : g = g' := by simpa [Value.ownBlock] using he
    subst this
    rw [hg] at hh
    injection hh with hh
    injection hh with _ ht
    exact hne ht.symm
theorem blk_set {w : World} {g : Nat} {t : TypeId} {cs : Array Value} (h : w.heap[g]? = some (.cells cs t (0,0))) (i : Nat) (u : Value) : (w.setCell ⟨g,i,none⟩ u).heap[g]? = some (.cells (cs.setIfInBounds i u) t (0,0)) := by
  simp [World.setCell,Array.getElem?_modify,h]
theorem blk_lt {w : World} {g : Nat} {o : Obj} (h : w.heap[g]? = some o) : g < w.heap.size := (Array.getElem?_eq_some_iff.1 h).1
theorem blk_cell {w : World} {g : Nat} {t : TypeId} {cs : Array Value} (h : w.heap[g]? = some (.cells cs t (0,0))) (i : Nat) : w.cell? ⟨g,i,none⟩ = cs[i]? := cell_of_row w g i cs t (0,0) h
theorem blk_frozen {w : World} {g : Nat} {t : TypeId} {cs : Array Value} (h : w.heap[g]? = some (.cells cs t (0,0))) (i : Nat) : w.frozen? ⟨g,i,none⟩ = false := by simp [World.frozen?,h]
def KeepBut (w w' : World) (g : Nat) (row : Option Nat) : Prop := w.heap.size ≤ w'.heap.size ∧ ∀ i,i < w.heap.size → i ≠ g → some i ≠ row → w'.heap[i]? = w.heap[i]?
theorem KeepBut.refl (w : World) (g : Nat) (row : Option Nat) : KeepBut w w g row := ⟨Nat.le_refl _,fun _ _ _ _ => rfl⟩
theorem KeepBut.of_below {w w1 : World} (h : Below w.heap.size w w1) (g : Nat) (row : Option Nat) : KeepBut w w1 g row := ⟨h.size,fun i hi _ _ => h.block i hi⟩
theorem KeepBut.trans {w w1 w2 : World} {g : Nat} {row row1 : Option Nat} (h : KeepBut w w1 g row) (k : KeepBut w1 w2 g row1) (hr : row1 = row ∨ ∃ b,row1 = some b ∧ w.heap.size ≤ b) : KeepBut w w2 g row :=
  ⟨Nat.le_trans h.1 k.1,fun i hi hg hn => by
    refine (k.2 i (Nat.lt_of_lt_of_le hi h.1) hg ?_).trans (h.2 i hi hg hn)
    rcases hr with rfl | ⟨b,rfl,hb⟩
    · exact hn
    · intro e
      injection e with e
      omega⟩
theorem KeepBut.blk {w w1 : World} {g g' : Nat} {row : Option Nat} {o : Obj} (h : KeepBut w w1 g row) (hb : w.heap[g']? = some o) (hg : g' ≠ g) (hr : some g' ≠ row) : w1.heap[g']? = some o := (h.2 g' (blk_lt hb) hg hr).trans hb
theorem KeepBut.own {w w1 : World} {g : Nat} {row : Option Nat} {base : Nat} {e : TypeId} {size n : Nat} {v : Value} {xs : List Value} (h : KeepBut w w1 g row) (ho : w.ownsRow base e size v n xs) (hg : v.ownBlock ≠ some g) (hr : v.ownBlock = none ∨ v.ownBlock ≠ row) : w1.ownsRow base e size v n xs := by
  obtain ⟨h1,h2⟩ := ho
  refine ⟨h1,?_⟩
  rcases h2 with h2 | ⟨b,cap,cur,rfl,hb,hh,r⟩
  · exact .inl h2
  · refine .inr ⟨b,cap,cur,rfl,hb,h.blk hh ?_ ?_,r⟩
    · intro e
      exact hg (by rw [← e];rfl)
    · rcases hr with hr | hr
      · simp [Value.ownBlock] at hr
      · exact hr
def Ev {α : Type} (g : Nat → Option α) (r : α) : Prop := ∃ K,∀ k,K ≤ k → g k = some r
theorem Ev.bind {α β : Type} {g : Nat → Option α} {f : Nat → α → Option β} {a : α} {r : β} (h : Ev g a) (k : Ev (fun n => f n a) r) : Ev (fun n => (g n).bind (f n)) r := by
  obtain ⟨K,h⟩ := h
  obtain ⟨K',k⟩ := k
  refine ⟨max K K',fun n hn => ?_⟩
  have h1 := h n (by omega)
  have h2 := k n (by omega)
  simp only [h1,Option.bind_some]
  exact h2
theorem Ev.step {α : Type} {g f : Nat → Option α} {r : α} (h : ∀ k,g (k + 1) = f k) (k : Ev f r) : Ev g r := by
  obtain ⟨K,k⟩ := k
  refine ⟨K + 1,fun n hn => ?_⟩
  obtain ⟨m,rfl⟩ : ∃ m,n = m + 1 := ⟨n - 1,by omega⟩
  rw [h]
  exact k m (by omega)
theorem Ev.congr {α : Type} {g f : Nat → Option α} {r : α} (h : ∀ k,g k = f k) (k : Ev f r) : Ev g r := by
  obtain ⟨K,k⟩ := k
  exact ⟨K,fun n hn => (h n).trans (k n hn)⟩
section
variable {P : Program} {ops : Array Oper} {o : Oper} {a : Act} {Q : Exit → Act → World → Prop} {K : Act → World → Prop}
end
theorem own_weaken {w : World} {base base' : Nat} {e : TypeId} {size n : Nat} {v : Value} {xs : List Value} (h : w.ownsRow base e size v n xs) (hb : base' ≤ base) : w.ownsRow base' e size v n xs := by
  obtain ⟨h1,h2⟩ := h
  refine ⟨h1,?_⟩
  rcases h2 with h2 | ⟨g,cap,cur,rfl,hg,r⟩
  · exact .inl h2
  · exact .inr ⟨g,cap,cur,rfl,Nat.le_trans hb hg,r⟩
section
variable {α : Type} {enc : α → Value} {d : α}
def rdOf (d : α) (xs : List α) (i : Int) : α := xs.getD i.toNat d
def ReadsOf (enc : α → Value) (d : α) (w : World) (A : Option Addr) (n : Nat) (xs : List α) : Prop :=
  xs.length = n ∧ n ≤ 9223372036854775807 ∧ (0 < n → ∃ ad,A = some ad ∧ ∀ j,j < n → w.cell? (ad.add j) = some (enc (xs.getD j d)))
theorem ReadsOf.at_ {w : World} {A : Option Addr} {n : Nat} {xs : List α} (h : ReadsOf enc d w A n xs) (i : Int) (h0 : 0 ≤ i) (h1 : i < n) : ∃ ad,A = some ad ∧ w.cell? (ad.add i.toNat) = some (enc (rdOf d xs i)) := by
  obtain ⟨ad,e,hc⟩ := h.2.2 (by omega)
  exact ⟨ad,e,hc _ (by omega)⟩
theorem ReadsOf.below {w w1 : World} {A : Option Addr} {n : Nat} {xs : List α} (h : ReadsOf enc d w A n xs) (hb : Below w.heap.size w w1) : ReadsOf enc d w1 A n xs :=
  ⟨h.1,h.2.1,fun hn => by
    obtain ⟨ad,e,hc⟩ := h.2.2 hn
    exact ⟨ad,e,fun j hj => pw_cell_below hb (hc j hj)⟩⟩
end
section
variable {α : Type} {P : Program} {ops : Array Oper} {rest : List Oper} {o : Oper} {a : Act} {Q : Exit → Act → World → Prop}
end
theorem blk_alloc {w : World} {g : Nat} {o : Obj} (h : w.heap[g]? = some o) (o' : Obj) : (w.alloc o').heap[g]? = some o := (Below.heap_alloc w o' g (blk_lt h)).trans h
theorem blk_new (w : World) (o : Obj) : (w.alloc o).heap[w.heap.size]? = some o := heap_alloc_new w o
section
variable {P : Program}
end
theorem own_le {w : World} {base n m c size : Nat} {e : TypeId} {A : Option Addr} {xs : List Value} (h : w.ownsRow base e size (.slice A m c) n xs) : m ≤ c := by
  rcases h.2 with ⟨he,_⟩ | ⟨g,cap,cur,he,_,_,hnc,_⟩
  · injection he with _ h2 h3
    omega
  · injection he with _ h2 h3
    omega
def OwnRow {α : Type} (R : α → List Value → Prop) (e : TypeId) (size : Nat) (w : World) (base : Nat) (v : Value) (ps : List α) : Prop :=
  ∃ inner,w.ownsRow base e size v ps.length inner ∧ Reps R size ps inner
section
variable {α : Type} {R R' : α → List Value → Prop} {e : TypeId} {size : Nat} {w w1 : World} {base : Nat} {v : Value} {ps : List α}
theorem OwnRow.none_ (R : α → List Value → Prop) (e : TypeId) (size : Nat) (w : World) (base : Nat) : OwnRow R e size w base (.slice none 0 0) [] := ⟨[],own_nil _ _ _ _,Reps.none _ _⟩
theorem OwnRow.imp_ (h : OwnRow R e size w base v ps) (hR : ∀ p c,R p c → R' p c) : OwnRow R' e size w base v ps := by
  obtain ⟨inner,ho,hr⟩ := h
  exact ⟨inner,ho,hr.imp_ hR⟩
theorem OwnRow.below (h : OwnRow R e size w base v ps) (hb : Below w.heap.size w w1) : OwnRow R e size w1 base v ps := by
  obtain ⟨inner,ho,hr⟩ := h
  exact ⟨inner,pw_own_below ho hb,hr⟩
theorem OwnRow.keep (h : OwnRow R e size w base v ps) {g : Nat} {t : TypeId} {cells : Array Value} (hb : w.heap[g]? = some (.cells cells t (0,0))) (ht : e ≠ t) (hk : KeepBut w w1 g none) : OwnRow R e size w1 base v ps := by
  obtain ⟨inner,ho,hr⟩ := h
  exact ⟨inner,hk.own ho (Ne.symm (own_ne ho hb ht)) (by cases v.ownBlock <;> simp),hr⟩
theorem OwnRow.reads (h : OwnRow R e size w base v ps) : ∃ A c,v = .slice A ps.length c ∧ ps.length ≤ c ∧ ReadsRow R size w A ps.length ps := by
  obtain ⟨inner,ho,hr⟩ := h
  obtain ⟨A,c,rfl,hrow⟩ := own_reads_row ho hr rfl
  exact ⟨A,c,rfl,own_le ho,hrow⟩
end
section
variable {P : Program} {ops : Array Oper} {rest : List Oper} {o : Oper} {a : Act} {Q : Exit → Act → World → Prop} {α : Type} {R : α → List Value → Prop}
theorem OwnRow.append {w0 W : World} (base : Nat) (hgd : o.guard = none) (s x : Operand) (t e : TypeId) (z : Value) (size bytes : Nat)
    (ho : o.op = .call { callee := .builtin .append,args := #[s,x],argTypes := #[t,t] })
    (ht : P.underlying t = some (.slice e)) (hinfo : (P.info? e).map (fun i => (i.zero,i.size,i.bytes)) = some (some z,size,bytes)) (hz : z.cells.size = size) (hs0 : 0 < size) (hb0 : 0 < bytes)
    (v : Value) (ps : List α) (p : α) (cs : List Value) (hs : a.eval s = v) (hx : a.eval x = .slice (some ⟨W.heap.size,0,none⟩) 1 1) (hp : R p cs) (hcs : cs.length = size) (h1 : ∀ u ∈ cs,u.oneCell' = true)
    (HO : OwnRow R e size W base v ps) (HB : Below base w0 W) (hbase : base ≤ W.heap.size) (hl : (ps.length + 1) * bytes ≤ 140737488355328)
    (h : ∀ v1 w1,OwnRow R e size w1 base v1 (ps ++ [p]) → Below base w0 w1 → W.grownBy w1 v.ownBlock → (v1.ownBlock = v.ownBlock ∨ ∃ b,v1.ownBlock = some b ∧ W.heap.size ≤ b) → wpList P ops Q rest (a.put o.dst v1) w1) :
    wpList P ops Q (o :: rest) a (W.alloc (.cells cs.toArray e)) := by
  obtain ⟨inner,hown,hr⟩ := HO
  refine print_append_cells base hgd s x t e z size bytes ho ht hinfo hz hs0 hb0 v ps.length inner cs hs hx hcs h1 hown HB hbase hl ?_
  intro v1 w1 hown1 hb1 hg1 hat1
  exact h v1 w1 ⟨inner ++ cs,by rw [List.length_append,List.length_singleton];exact hown1,hr.snoc hp hcs⟩ hb1 hg1 hat1
end
section
variable {P : Program} {ops : Array Oper} {o : Oper} {a : Act} {Q : Exit → Act → World → Prop} {K : Act → World → Prop} {α : Type} {R : α → List Value → Prop}
end
theorem ReadsRow.inner_ {α : Type} {R : α → List Value → Prop} {size : Nat} {w : World} {ad : Addr} {n : Nat} {ps : List α} (h : ReadsRow R size w (some ad) n ps) :
    ∃ inner,Reps R size ps inner ∧ ∀ j u,inner[j]? = some u → w.cell? (ad.add j) = some u := by
  have key : ∀ m,m ≤ ps.length → ∃ inner,Reps R size (ps.take m) inner ∧ ∀ j u,inner[j]? = some u → w.cell? (ad.add j) = some u := by
    intro m
    induction m with
    | zero => exact fun _ => ⟨[],Reps.none _ _,fun j u hu => by simp at hu⟩
    | succ m ih =>
      intro hm
      obtain ⟨inner,hr,hc⟩ := ih (by omega)
      obtain ⟨ad',he,hcell⟩ := h.2.2 (by have := h.1;omega)
      injection he with he
      subst he
      obtain ⟨c,hcl,hp,hcc⟩ := hcell m _ (List.getElem?_eq_getElem (show m < ps.length by omega))
      refine ⟨inner ++ c,?_,fun j u hu => ?_⟩
      · rw [List.take_succ_eq_append_getElem (show m < ps.length by omega)]
        exact hr.snoc hp hcl
      · have hil : inner.length = m * size := by rw [hr.1,List.length_take,Nat.min_eq_left (by omega)]
        rcases Nat.lt_or_ge j inner.length with hj | hj
        · rw [List.getElem?_append_left hj] at hu
          exact hc j u hu
        · rw [List.getElem?_append_right hj] at hu
          have := hcc (j - inner.length) u hu
          rwa [hil,Nat.add_sub_cancel' (by omega)] at this
  obtain ⟨inner,hr,hc⟩ := key ps.length (Nat.le_refl _)
  rw [List.take_length] at hr
  exact ⟨inner,hr,hc⟩
section
variable {α : Type} {P : Program}
end
section
variable {P : Program} {ops : Array Oper} {rest : List Oper} {o : Oper} {a : Act} {Q : Exit → Act → World → Prop}
end
structure Kd (α : Type) where
  sz : Nat
  E : List Nat
  K : World → α → List Value → Prop
  M : World → Nat → (Nat → Prop) → α → List Value → Prop
  K_len : ∀ {w x cs},K w x cs → cs.length = sz
  K_one : ∀ {w x cs},K w x cs → ∀ u ∈ cs,u.oneCell' = true
  K_below : ∀ {w w1 : World} {x cs},Below w.heap.size w w1 → K w x cs → K w1 x cs
  K_of_M : ∀ {w base ok x cs},M w base ok x cs → K w x cs
  M_mono : ∀ {w base ok ok' x cs},(∀ k,ok k → ok' k) → M w base ok x cs → M w base ok' x cs
  M_bound : ∀ {w : World} {base ok x cs},M w base ok x cs → M w base (fun k => ok k ∧ base ≤ k ∧ k < w.heap.size ∧ ∃ q,q ∈ E ∧ ∃ cells,w.heap[k]? = some (.cells cells q (0,0))) x cs
  M_move : ∀ {w w1 : World} {base ok x cs},(∀ k,ok k → w1.heap[k]? = w.heap[k]?) → M w base ok x cs → M w1 base ok x cs
  M_lower : ∀ {w base base' ok x cs},base' ≤ base → M w base ok x cs → M w base' ok x cs
theorem own_move {w w1 : World} {base : Nat} {e : TypeId} {size n : Nat} {v : Value} {xs : List Value} (h : w.ownsRow base e size v n xs) (hm : ∀ k,v.ownBlock = some k → w1.heap[k]? = w.heap[k]?) : w1.ownsRow base e size v n xs := by
  obtain ⟨h1,h2⟩ := h
  refine ⟨h1,?_⟩
  rcases h2 with h2 | ⟨g,cap,cur,rfl,hg,hh,r⟩
  · exact .inl h2
  · exact .inr ⟨g,cap,cur,rfl,hg,(hm g (by simp [Value.ownBlock])).trans hh,r⟩
theorem own_typed {w : World} {base : Nat} {e : TypeId} {size n : Nat} {v : Value} {xs : List Value} (h : w.ownsRow base e size v n xs) (k : Nat) (hk : v.ownBlock = some k) : ∃ cells,w.heap[k]? = some (.cells cells e (0,0)) := by
  rcases h.2 with ⟨rfl,_⟩ | ⟨g,cap,cur,rfl,hg,hh,r⟩
  · simp [Value.ownBlock] at hk
  · have : g = k := by simpa [Value.ownBlock] using hk
    subst this
    exact ⟨cur,hh⟩
namespace Kd
def C {α : Type} (d : Kd α) (w : World) (A : Option Addr) (n : Nat) (xs : List α) : Prop := ReadsRow (d.K w) d.sz w A n xs
def R {α : Type} (d : Kd α) (e : Nat) (w : World) (base : Nat) (ok : Nat → Prop) (v : Value) (xs : List α) : Prop :=
  (∀ k,v.ownBlock = some k → ok k) ∧ OwnRow (d.M w base (fun k => ok k ∧ some k ≠ v.ownBlock)) e d.sz w base v xs
section
variable {α : Type} {d : Kd α} {e : Nat} {w w1 : World} {base : Nat} {ok ok' : Nat → Prop} {v : Value} {xs : List α}
theorem C_below {A : Option Addr} {n : Nat} (h : d.C w A n xs) (hb : Below w.heap.size w w1) : d.C w1 A n xs := ReadsRow.imp_ h hb (fun _ _ hp => d.K_below hb hp)
theorem R_nil (d : Kd α) (e : Nat) (w : World) (base : Nat) (ok : Nat → Prop) : d.R e w base ok (.slice none 0 0) [] := ⟨fun k hk => by simp [Value.ownBlock] at hk,OwnRow.none_ _ _ _ _ _⟩
theorem R_mono (h : d.R e w base ok v xs) (hok : ∀ k,ok k → ok' k) : d.R e w base ok' v xs := ⟨fun k hk => hok k (h.1 k hk),h.2.imp_ (fun _ _ hp => d.M_mono (fun k hk => ⟨hok k hk.1,hk.2⟩) hp)⟩
theorem R_bound (h : d.R e w base ok v xs) : d.R e w base (fun k => ok k ∧ base ≤ k ∧ k < w.heap.size ∧ ∃ q,q ∈ e :: d.E ∧ ∃ cells,w.heap[k]? = some (.cells cells q (0,0))) v xs := by
  obtain ⟨h0,inner,ho,hr⟩ := h
  refine ⟨fun k hk => ?_,inner,ho,hr.imp_ (fun _ _ hp => d.M_mono (fun k hk => ?_) (d.M_bound hp))⟩
  · obtain ⟨cells,hc⟩ := own_typed ho k hk
    exact ⟨h0 k hk,own_base ho k hk,own_lt ho k hk,e,List.mem_cons_self,cells,hc⟩
  · obtain ⟨⟨h1,h2⟩,h3,h4,q,hq,hc⟩ := hk
    exact ⟨⟨h1,h3,h4,q,List.mem_cons_of_mem _ hq,hc⟩,h2⟩
theorem R_move (h : d.R e w base ok v xs) (hm : ∀ k,ok k → w1.heap[k]? = w.heap[k]?) : d.R e w1 base ok v xs := by
  obtain ⟨h0,inner,ho,hr⟩ := h
  exact ⟨h0,inner,own_move ho (fun k hk => hm k (h0 k hk)),hr.imp_ (fun _ _ hp => d.M_move (fun k hk => hm k hk.1) hp)⟩
theorem R_lower {base' : Nat} (h : d.R e w base ok v xs) (hb : base' ≤ base) : d.R e w base' ok v xs := by
  obtain ⟨h0,inner,ho,hr⟩ := h
  exact ⟨h0,inner,own_weaken ho hb,hr.imp_ (fun _ _ hp => d.M_lower hb hp)⟩
theorem R_reads (h : d.R e w base ok v xs) : ∃ A c,v = .slice A xs.length c ∧ xs.length ≤ c ∧ d.C w A xs.length xs := by
  obtain ⟨A,c,he,hl,hr⟩ := OwnRow.reads h.2
  exact ⟨A,c,he,hl,hr.imp_ (Below.refl _ _) (fun _ _ hp => d.K_of_M hp)⟩
theorem R_slice (h : d.R e w base ok v xs) : ∃ A c,v = .slice A xs.length c := by
  obtain ⟨A,c,he,_⟩ := R_reads h
  exact ⟨A,c,he⟩
end
def scalar {α : Type} (enc : α → Value) (h1 : ∀ x,(enc x).oneCell' = true) : Kd α where
  sz := 1
  E := []
  K := fun _ x cs => cs = [enc x]
  M := fun _ _ _ x cs => cs = [enc x]
  K_len := fun h => by rw [h];rfl
  K_one := fun h u hu => by
    rw [h] at hu
    rw [List.mem_singleton.1 hu]
    exact h1 _
  K_below := fun _ h => h
  K_of_M := fun h => h
  M_mono := fun _ h => h
  M_bound := fun h => h
  M_move := fun _ h => h
  M_lower := fun _ h => h
def int (k : IntKind) : Kd Int := scalar (Value.int k) (fun _ => rfl)
def bool : Kd Bool := scalar Value.bool (fun _ => rfl)
def string : Kd ByteArray := scalar Value.string (fun _ => rfl)
def slice {α : Type} (e : Nat) (d : Kd α) : Kd (List α) where
  sz := 1
  E := e :: d.E
  K := fun w xs cs => ∃ A c,cs = [.slice A xs.length c] ∧ xs.length ≤ c ∧ d.C w A xs.length xs
  M := fun w base ok xs cs => ∃ v,cs = [v] ∧ d.R e w base ok v xs
  K_len := by
    rintro w x cs ⟨A,c,rfl,_⟩
    rfl
  K_one := by
    rintro w x cs ⟨A,c,rfl,_⟩ u hu
    rw [List.mem_singleton.1 hu]
    rfl
  K_below := by
    rintro w w1 x cs hb ⟨A,c,rfl,hl,hr⟩
    exact ⟨A,c,rfl,hl,C_below hr hb⟩
  K_of_M := by
    rintro w base ok x cs ⟨v,rfl,h⟩
    obtain ⟨A,c,rfl,hl,hr⟩ := R_reads h
    exact ⟨A,c,rfl,hl,hr⟩
  M_mono := by
    rintro w base ok ok' x cs hok ⟨v,rfl,h⟩
    exact ⟨v,rfl,R_mono h hok⟩
  M_bound := by
    rintro w base ok x cs ⟨v,rfl,h⟩
    exact ⟨v,rfl,R_bound h⟩
  M_move := by
    rintro w w1 base ok x cs hm ⟨v,rfl,h⟩
    exact ⟨v,rfl,R_move h hm⟩
  M_lower := by
    rintro w base base' ok x cs hb ⟨v,rfl,h⟩
    exact ⟨v,rfl,R_lower h hb⟩
def pair {α β : Type} (a : Kd α) (b : Kd β) : Kd (α × β) where
  sz := a.sz + b.sz
  E := a.E ++ b.E
  K := fun w x cs => ∃ c0 c1,cs = c0 ++ c1 ∧ a.K w x.1 c0 ∧ b.K w x.2 c1
  M := fun w base ok x cs => ∃ c0 c1,cs = c0 ++ c1 ∧ a.M w base ok x.1 c0 ∧ b.M w base ok x.2 c1
  K_len := by
    rintro w x cs ⟨c0,c1,rfl,h0,h1⟩
    rw [List.length_append,a.K_len h0,b.K_len h1]
  K_one := by
    rintro w x cs ⟨c0,c1,rfl,h0,h1⟩ u hu
    rcases List.mem_append.1 hu with hu | hu
    · exact a.K_one h0 u hu
    · exact b.K_one h1 u hu
  K_below := by
    rintro w w1 x cs hb ⟨c0,c1,rfl,h0,h1⟩
    exact ⟨c0,c1,rfl,a.K_below hb h0,b.K_below hb h1⟩
  K_of_M := by
    rintro w base ok x cs ⟨c0,c1,rfl,h0,h1⟩
    exact ⟨c0,c1,rfl,a.K_of_M h0,b.K_of_M h1⟩
  M_mono := by
    rintro w base ok ok' x cs hok ⟨c0,c1,rfl,h0,h1⟩
    exact ⟨c0,c1,rfl,a.M_mono hok h0,b.M_mono hok h1⟩
  M_bound := by
    rintro w base ok x cs ⟨c0,c1,rfl,h0,h1⟩
    refine ⟨c0,c1,rfl,a.M_mono ?_ (a.M_bound h0),b.M_mono ?_ (b.M_bound h1)⟩
    · rintro k ⟨h2,h3,h4,q,hq,hc⟩
      exact ⟨h2,h3,h4,q,List.mem_append_left _ hq,hc⟩
    · rintro k ⟨h2,h3,h4,q,hq,hc⟩
      exact ⟨h2,h3,h4,q,List.mem_append_right _ hq,hc⟩
  M_move := by
    rintro w w1 base ok x cs hm ⟨c0,c1,rfl,h0,h1⟩
    exact ⟨c0,c1,rfl,a.M_move hm h0,b.M_move hm h1⟩
  M_lower := by
    rintro w base base' ok x cs hb ⟨c0,c1,rfl,h0,h1⟩
    exact ⟨c0,c1,rfl,a.M_lower hb h0,b.M_lower hb h1⟩
def iso {α β : Type} (d : Kd α) (f : β → α) : Kd β where
  sz := d.sz
  E := d.E
  K := fun w x cs => d.K w (f x) cs
  M := fun w base ok x cs => d.M w base ok (f x) cs
  K_len := d.K_len
  K_one := d.K_one
  K_below := d.K_below
  K_of_M := d.K_of_M
  M_mono := d.M_mono
  M_bound := d.M_bound
  M_move := d.M_move
  M_lower := d.M_lower
def bot {α : Type} (sz : Nat) (E : List Nat) : Kd α where
  sz := sz
  E := E
  K := fun _ _ _ => False
  M := fun _ _ _ _ _ => False
  K_len := fun h => h.elim
  K_one := fun h => h.elim
  K_below := fun _ h => h
  K_of_M := fun h => h
  M_mono := fun _ h => h
  M_bound := fun h => h
  M_move := fun _ h => h
  M_lower := fun _ h => h
def upto {α : Type} (F : Kd α → Kd α) (sz : Nat) (E : List Nat) : Nat → Kd α
  | 0 => bot sz E
  | n + 1 => F (upto F sz E n)
theorem C_get {α : Type} {d : Kd α} {w : World} {A : Option Addr} {n : Nat} {xs : List α} (h : d.C w A n xs) (z : α) (i : Int) (h0 : 0 ≤ i) (h1 : i < n) :
    ∃ ad c,A = some ad ∧ c.length = d.sz ∧ d.K w (xs.getD i.toNat z) c ∧ ∀ j u,c[j]? = some u → w.cell? (ad.add (i.toNat * d.sz + j)) = some u := ReadsRow.get_ h z i h0 h1
theorem R_appended {α : Type} {d : Kd α} {e base : Nat} {ok okp : Nat → Prop} {W w1 : World} {v v1 : Value} {xs : List α} {p : α} {inner cs : List Value} (h0 : ∀ k,v.ownBlock = some k → ok k) (hr : Reps (d.M W base (fun k => ok k ∧ some k ≠ v.ownBlock)) d.sz xs inner) (hp : d.M W base okp p cs) (hokp : ∀ k,okp k → ok k ∧ some k ≠ v.ownBlock) (hfresh : ∀ k,W.heap.size ≤ k → ok k)
    (hown : w1.ownsRow base e d.sz v1 (xs.length + 1) (inner ++ cs)) (hg : W.grownBy w1 v.ownBlock) (hat : v1.ownBlock = v.ownBlock ∨ ∃ b,v1.ownBlock = some b ∧ W.heap.size ≤ b) : d.R e w1 base ok v1 (xs ++ [p]) := by
  have hne : ∀ k,some k ≠ v.ownBlock → k < W.heap.size → some k ≠ v1.ownBlock := by
    intro k hk hlt
    rcases hat with hat | ⟨b,hb,hle⟩
    · rw [hat];exact hk
    · rw [hb]
      intro he
      injection he with he
      omega
  have step : ∀ {q : α} {c : List Value} {o : Nat → Prop},d.M W base o q c → (∀ k,o k → ok k ∧ some k ≠ v.ownBlock) → d.M w1 base (fun k => ok k ∧ some k ≠ v1.ownBlock) q c := by
    intro q c o hq ho
    have h1 := d.M_move (w1 := w1) (fun k hk => hg.block k hk.2.2.1 (ho k hk.1).2) (d.M_bound hq)
    exact d.M_mono (fun k hk => ⟨(ho k hk.1).1,hne k (ho k hk.1).2 hk.2.2.1⟩) h1
  refine ⟨fun k hk => ?_,inner ++ cs,by rw [List.length_append,List.length_singleton];exact hown,?_⟩
  · rcases hat with hat | ⟨b,hb,hle⟩
    · exact h0 k (hat ▸ hk)
    · rw [hb] at hk
      injection hk with hk
      exact hfresh k (by omega)
  · exact (hr.imp_ (fun _ _ hq => step hq (fun _ hk => hk))).snoc (step hp hokp) (d.K_len (d.K_of_M hp))
section
variable {P : Program} {ops : Array Oper} {rest : List Oper} {o : Oper} {a : Act} {Q : Exit → Act → World → Prop} {α : Type}
theorem R_append (d : Kd α) {w0 W : World} (base : Nat) (hgd : o.guard = none) (s x : Operand) (t e : TypeId) (z : Value) (bytes : Nat)
    (ho : o.op = .call { callee := .builtin .append,args := #[s,x],argTypes := #[t,t] })
    (ht : P.underlying t = some (.slice e)) (hinfo : (P.info? e).map (fun i => (i.zero,i.size,i.bytes)) = some (some z,d.sz,bytes)) (hz : z.cells.size = d.sz) (hs0 : 0 < d.sz) (hb0 : 0 < bytes)
    (v : Value) (xs : List α) (p : α) (cs : List Value) (ok okp : Nat → Prop) (hs : a.eval s = v) (hx : a.eval x = .slice (some ⟨W.heap.size,0,none⟩) 1 1) (hp : d.M W base okp p cs) (hokp : ∀ k,okp k → ok k ∧ some k ≠ v.ownBlock) (hfresh : ∀ k,W.heap.size ≤ k → ok k)
    (HO : d.R e W base ok v xs) (HB : Below base w0 W) (hbase : base ≤ W.heap.size) (hl : (xs.length + 1) * bytes ≤ 140737488355328)
    (h : ∀ v1 w1,d.R e w1 base ok v1 (xs ++ [p]) → Below base w0 w1 → W.grownBy w1 v.ownBlock → (v1.ownBlock = v.ownBlock ∨ ∃ b,v1.ownBlock = some b ∧ W.heap.size ≤ b) → wpList P ops Q rest (a.put o.dst v1) w1) :
    wpList P ops Q (o :: rest) a (W.alloc (.cells cs.toArray e)) := by
  obtain ⟨h0,inner,hown,hr⟩ := HO
  refine print_append_cells base hgd s x t e z d.sz bytes ho ht hinfo hz hs0 hb0 v xs.length inner cs hs hx (d.K_len (d.K_of_M hp)) (d.K_one (d.K_of_M hp)) hown HB hbase hl ?_
  intro v1 w1 hown1 hb1 hg1 hat1
  exact h v1 w1 (R_appended h0 hr hp hokp hfresh hown1 hg1 hat1) hb1 hg1 hat1
end
section
variable {P : Program} {ops : Array Oper} {o : Oper} {a : Act} {Q : Exit → Act → World → Prop} {Kc : Act → World → Prop} {α : Type}
end
end Kd
namespace Kd
structure Mono {α β : Type} (F : Kd α → Kd β) : Prop where
  sz : ∀ d d' : Kd α,d.sz = d'.sz → (F d).sz = (F d').sz
  K : ∀ d d' : Kd α,d.sz = d'.sz → (∀ w x cs,d.K w x cs → d'.K w x cs) → ∀ w x cs,(F d).K w x cs → (F d').K w x cs
  M : ∀ d d' : Kd α,d.sz = d'.sz → (∀ w base ok x cs,d.M w base ok x cs → d'.M w base ok x cs) → ∀ w base ok x cs,(F d).M w base ok x cs → (F d').M w base ok x cs
section
variable {α : Type} {F : Kd α → Kd α} {sz : Nat} {E : List Nat} {hs : ∀ n,(upto F sz E n).sz = sz} {hE : ∀ n q,q ∈ (upto F sz E n).E → q ∈ E}
end
end Kd
namespace Kd
end Kd
namespace Kd
section
variable {α β : Type} {d : Kd α} {d' : Kd β} {e e' : Nat} {w w1 W : World} {base b b' : Nat} {ok ok' okv oku : Nat → Prop} {v u : Value} {xs : List α} {ys : List β}
theorem C_alloc {A : Option Addr} {n : Nat} (h : d.C w A n xs) (o : Obj) : d.C (w.alloc o) A n xs := C_below h (below_alloc (Below.refl _ _) o)
theorem C_nil (d : Kd α) (w : World) : d.C w none ([] : List α).length [] := ⟨rfl,by simp,fun h => absurd h (Nat.lt_irrefl 0)⟩
theorem R_reads' {A : Option Addr} {n c : Nat} (h : d.R e w base ok (.slice A n c) xs) : n = xs.length ∧ n ≤ c ∧ d.C w A xs.length xs := by
  obtain ⟨A',c',he,hl,hr⟩ := R_reads h
  injection he with h1 h2 h3
  subst h1
  exact ⟨h2,by omega,hr⟩
end
section
variable {w W : World} {A : Option Addr} {n : Nat}
variable {α : Type} {enc : α → Value} {h1 : ∀ x,(enc x).oneCell' = true} {e base g cap : Nat} {ok : Nat → Prop} {xs : List α}
end
section
variable {P : Program} {ops : Array Oper} {rest : List Oper} {o : Oper} {a : Act} {Q : Exit → Act → World → Prop}
variable {α : Type}
end
end Kd
section
variable {P : Program}
end
def QRow (w : World) (base : Nat) (e : TypeId) (size : Nat) (v : Value) (n : Nat) (xs : List Value) : Prop :=
  xs.length = n * size ∧
  ((n = 0 ∧ ∃ A,v = .slice A 0 0 ∧ ∀ a,A = some a → base ≤ a.block ∧ ∃ cur,w.heap[a.block]? = some (.cells cur e (0,0))) ∨
   ∃ g off cap cur,v = .slice (some ⟨g,off * size,none⟩) n cap ∧ base ≤ g ∧ w.heap[g]? = some (.cells cur e (0,0)) ∧ n ≤ cap ∧ off + cap ≤ maxLen ∧ cur.size = (off + cap) * size ∧ (cur.toList.drop (off * size)).take (n * size) = xs)
section
variable {w w1 : World} {base n size : Nat} {e : TypeId} {v : Value} {xs : List Value}
end
section
variable {P : Program}
end
namespace Kd
def Q {α : Type} (d : Kd α) (e : Nat) (w : World) (base : Nat) (ok : Nat → Prop) (v : Value) (xs : List α) : Prop :=
  (∀ k,v.ownBlock = some k → ok k) ∧ ∃ inner,QRow w base e d.sz v xs.length inner ∧ Reps (d.M w base (fun k => ok k ∧ some k ≠ v.ownBlock)) d.sz xs inner
section
variable {α : Type} {d : Kd α} {e : Nat} {w w1 W : World} {base : Nat} {ok ok' : Nat → Prop} {v : Value} {xs : List α}
end
section
variable {P : Program} {ops : Array Oper} {rest : List Oper} {o : Oper} {a : Act} {Q' : Exit → Act → World → Prop} {Kc : Act → World → Prop} {α : Type}
end
end Kd
namespace Kd
section
variable {α : Type} {d : Kd α} {e e' : Nat} {w w1 W : World} {base : Nat} {ok : Nat → Prop} {u v : Value} {xs : List α}
end
end Kd
namespace Kd
section
variable {α : Type} {d : Kd α} {e base g n cap : Nat} {ok okp : Nat → Prop} {W : World} {xs : List α}
end
end Kd
namespace Kd
section
variable {α : Type} {F : Kd α → Kd α} {sz : Nat} {E : List Nat} {hs : ∀ n,(upto F sz E n).sz = sz} {hE : ∀ n q,q ∈ (upto F sz E n).E → q ∈ E}
end
end Kd
namespace Kd
theorem reps_append {α : Type} {R : α → List Value → Prop} {size : Nat} {ps qs : List α} {cs ds : List Value} (h : Reps R size ps cs) (h' : Reps R size qs ds) : Reps R size (ps ++ qs) (cs ++ ds) := by
  refine ⟨by rw [List.length_append,List.length_append,h.1,h'.1,Nat.add_mul],fun j p hj => ?_⟩
  rcases Nat.lt_or_ge j ps.length with hlt | hge
  · rw [List.getElem?_append_left hlt] at hj
    have hle : j * size + size ≤ cs.length := by rw [h.1,← Nat.succ_mul];exact Nat.mul_le_mul_right _ hlt
    rw [List.drop_append_of_le_length (by omega),List.take_append_of_le_length (by rw [List.length_drop];omega)]
    exact h.2 j p hj
  · rw [List.getElem?_append_right hge] at hj
    have h2 := h'.2 (j - ps.length) p hj
    have hle : ps.length * size ≤ j * size := Nat.mul_le_mul_right _ hge
    rw [List.drop_append,List.drop_eq_nil_of_le (by rw [h.1];exact hle),List.nil_append,h.1,← Nat.sub_mul]
    exact h2
section
variable {P : Program} {ops : Array Oper} {rest : List Oper} {o : Oper} {a : Act} {Q : Exit → Act → World → Prop} {α : Type}
theorem R_append_rows (d : Kd α) {Rr : α → List Value → Prop} {w0 W : World} (base : Nat) (hgd : o.guard = none) (s x : Operand) (t e : TypeId) (z : Value) (bytes : Nat)
    (ho : o.op = .call { callee := .builtin .append,args := #[s,x],argTypes := #[t,t] })
    (ht : P.underlying t = some (.slice e)) (hinfo : (P.info? e).map (fun i => (i.zero,i.size,i.bytes)) = some (some z,d.sz,bytes)) (hz : z.cells.size = d.sz) (hs0 : 0 < d.sz) (hb0 : 0 < bytes)
    (v : Value) (xs ys : List α) (A : Option Addr) (m c : Nat) (ok okp : Nat → Prop) (hs : a.eval s = v) (hx : a.eval x = .slice A m c)
    (HO : d.R e W base ok v xs) (HR : ReadsRow Rr d.sz W A m ys) (hKM : ∀ x cs,Rr x cs → d.M W base okp x cs) (hokp : ∀ k,okp k → ok k ∧ some k ≠ v.ownBlock) (hfresh : ∀ k,W.heap.size ≤ k → ok k)
    (HB : Below base w0 W) (hbase : base ≤ W.heap.size) (hl : (xs.length + m) * bytes ≤ 140737488355328)
    (h : ∀ v1 w1,d.R e w1 base ok v1 (xs ++ ys) → Below base w0 w1 → W.grownBy w1 v.ownBlock → (v1.ownBlock = v.ownBlock ∨ ∃ b,v1.ownBlock = some b ∧ W.heap.size ≤ b) → wpList P ops Q rest (a.put o.dst v1) w1) :
    wpList P ops Q (o :: rest) a W := by
  obtain ⟨i0,hi,hzz⟩ := Option.map_eq_some_iff.1 hinfo
  simp only [Prod.mk.injEq] at hzz
  obtain ⟨hz0,hz1,hz2⟩ := hzz
  have hm : ys.length = m := HR.1
  have hlen : xs.length + m ≤ 140737488355328 := Nat.le_trans (Nat.le_mul_of_pos_right _ hb0) hl
  obtain ⟨hok,inner,hown,hr⟩ := HO
  have hrun : ∃ v1 w1,(Builtin.append_ #[t,t] o.type #[v,.slice A m c]).run P W = .ok v1 w1 ∧ d.R e w1 base ok v1 (xs ++ ys) ∧ W.grownBy w1 v.ownBlock ∧ (v1.ownBlock = v.ownBlock ∨ ∃ b,v1.ownBlock = some b ∧ W.heap.size ≤ b) := by
    rcases A with _ | ad
    · have h0 : m = 0 := by
        rcases Nat.eq_zero_or_pos m with h0 | h0
        · exact h0
        · obtain ⟨ad,h,_⟩ := HR.2.2 h0
          cases h
      subst h0
      obtain rfl : ys = [] := List.eq_nil_of_length_eq_zero hm
      refine ⟨v,W,?_,by rw [List.append_nil];exact ⟨hok,inner,hown,hr⟩,World.grownBy.refl W _,.inl rfl⟩
      rcases hown.2 with ⟨rfl,hn⟩ | ⟨g,cap,cur,rfl,_,_,hnc,_⟩
      · simp [Builtin.append_,run_underlying ht,sizeOf,typeInfo,hi,Builtin.lenOf,Builtin.firstCells]
      · simp [Builtin.append_,run_underlying ht,sizeOf,typeInfo,hi,Builtin.lenOf,Builtin.firstCells,hnc,storeCells]
    · obtain ⟨news,hnr,hnc⟩ := ReadsRow.inner_ HR
      have hnM : Reps (d.M W base okp) d.sz ys news := hnr.imp_ (fun p c hp => hKM p c hp)
      have hone : ∀ u ∈ news,u.oneCell' = true := by
        intro u hu
        obtain ⟨q,hq,rfl⟩ := List.mem_iff_getElem.1 hu
        have hql : q / d.sz < ys.length := by
          rw [Nat.div_lt_iff_lt_mul hs0]
          rw [← hnM.1]
          exact hq
        have hc := hnM.2 (q / d.sz) _ (List.getElem?_eq_getElem hql)
        refine d.K_one (d.K_of_M hc) _ ?_
        rw [List.mem_iff_getElem?]
        refine ⟨q % d.sz,?_⟩
        rw [List.getElem?_take,if_pos (Nat.mod_lt _ hs0),List.getElem?_drop,Nat.mul_comm,Nat.div_add_mod,List.getElem?_eq_getElem hq]
      obtain ⟨v1,w1,hrun,h2,hg,_,hat⟩ := run_append_own_at (P := P) W base t o.type e i0 z d.sz bytes ht hi hz0 hz1 hz2 hz hs0 v xs.length inner hown ad m c news (by rw [hnM.1,hm]) hnc hone (by simp only [maxLen];omega) hl hbase
      have hat' : v1.ownBlock = v.ownBlock ∨ ∃ b,v1.ownBlock = some b ∧ W.heap.size ≤ b := by
        rcases hat with hat | hat
        · exact .inl hat
        · exact .inr ⟨_,hat,Nat.le_refl _⟩
      have hne : ∀ k,some k ≠ v.ownBlock → k < W.heap.size → some k ≠ v1.ownBlock := by
        intro k hk hlt
        rcases hat' with hat | ⟨b,hb,hle⟩
        · rw [hat];exact hk
        · rw [hb]
          intro he
          injection he with he
          omega
      have step : ∀ {q : α} {c : List Value} {o : Nat → Prop},d.M W base o q c → (∀ k,o k → ok k ∧ some k ≠ v.ownBlock) → d.M w1 base (fun k => ok k ∧ some k ≠ v1.ownBlock) q c := by
        intro q c o hq ho
        have h1 := d.M_move (w1 := w1) (fun k hk => hg.block k hk.2.2.1 (ho k hk.1).2) (d.M_bound hq)
        exact d.M_mono (fun k hk => ⟨(ho k hk.1).1,hne k (ho k hk.1).2 hk.2.2.1⟩) h1
      refine ⟨v1,w1,hrun,⟨fun k hk => ?_,inner ++ news,by rw [List.length_append,hm];exact h2,reps_append (hr.imp_ (fun _ _ hq => step hq (fun _ hk => hk))) (hnM.imp_ (fun _ _ hq => step hq hokp))⟩,hg,hat'⟩
      rcases hat' with hat | ⟨b,hb,hle⟩
      · exact hok k (hat ▸ hk)
      · rw [hb] at hk
        injection hk with hk
        exact hfresh k (by omega)
  obtain ⟨v1,w1,hr1,h1,hg,hat⟩ := hrun
  refine wpList_plain hgd fun K hK => ?_
  unfold Oper.wp execOp
  simp only [ho,resolve,invoke,builtin,Sem.run_bind,Sem.run_pure,Result.andThen_ok,List.map_toArray,List.map_cons,List.map_nil,hs,hx,hr1]
  exact hK _ _ (h v1 w1 h1 (HB.grown hg hbase (own_base hown)) hg hat)
end
end Kd
namespace Kd
section
variable {P : Program} {ops : Array Oper} {rest : List Oper} {o : Oper} {a : Act} {Q : Exit → Act → World → Prop} {α : Type}
end
end Kd
theorem add_add (a : Addr) (i j : Nat) : (a.add i).add j = a.add (i + j) := by
  unfold Addr.add
  by_cases h1 : i = 0 <;> by_cases h2 : j = 0 <;> simp [h1,h2,Nat.add_assoc]
namespace Kd
section
variable {α : Type} {k : Kd α} {w : World} {A : Option Addr} {xs : List α} {m c : Nat}
theorem C_take (h : k.C w A xs.length xs) (hm : m ≤ xs.length) : k.C w A (xs.take m).length (xs.take m) := by
  have hl : (xs.take m).length = m := by rw [List.length_take];omega
  refine ⟨rfl,by rw [hl];have := h.2.1;omega,fun hp => ?_⟩
  obtain ⟨ad,e,hc⟩ := h.2.2 (by omega)
  refine ⟨ad,e,fun j p hj => hc j p ?_⟩
  rw [List.getElem?_take] at hj
  split at hj
  · exact hj
  · cases hj
theorem C_drop (h : k.C w A xs.length xs) (hm : m ≤ xs.length) (hc : xs.length ≤ c) : k.C w (if c = m then A else A.map (·.add (m * k.sz))) (xs.drop m).length (xs.drop m) := by
  have hl : (xs.drop m).length = xs.length - m := List.length_drop
  refine ⟨rfl,by rw [hl];have := h.2.1;omega,fun hp => ?_⟩
  rw [hl] at hp
  obtain ⟨ad,rfl,hcell⟩ := h.2.2 (by omega)
  rw [if_neg (by omega)]
  refine ⟨ad.add (m * k.sz),rfl,fun j p hj => ?_⟩
  rw [List.getElem?_drop] at hj
  obtain ⟨cs,h1,h2,h3⟩ := hcell (m + j) p hj
  refine ⟨cs,h1,h2,fun i u hu => ?_⟩
  rw [add_add,show m * k.sz + (j * k.sz + i) = (m + j) * k.sz + i by rw [Nat.add_mul];omega]
  exact h3 i u hu
end
end Kd
section
variable {P : Program}
end
theorem below_step {w W w2 : World} (h : Below w.heap.size w W) (k : Below W.heap.size W w2) : Below w.heap.size w w2 := below_then h h.size k
theorem ReadsInt.nil (W : World) (k : IntKind) : ReadsInt W k none ([] : List Int).length [] := ⟨rfl,by simp,fun h => absurd h (Nat.lt_irrefl 0)⟩
theorem ReadsInt.drewN {W : World} {k : IntKind} {A : Option Addr} {n : Nat} {xs : List Int} (h : ReadsInt W k A n xs) (m : Nat) : ReadsInt (W.drewN m) k A n xs := h
theorem keep_cell {w W : World} {g : Nat} (h : KeepBut w W g none) {a : Addr} {v : Value} (hc : w.cell? a = some v) (hne : a.block ≠ g) : W.cell? a = some v := by
  have := h.2 a.block (World.block_lt_of_cell? w a hc) hne (by simp)
  simpa [World.cell?,this] using hc
theorem add_block (a : Addr) (i : Nat) : (a.add i).block = a.block := by unfold Addr.add;split <;> rfl
theorem ReadsOf.nil {α : Type} (enc : α → Value) (d : α) (W : World) : ReadsOf enc d W none ([] : List α).length [] := ⟨rfl,by simp,fun h => absurd h (Nat.lt_irrefl 0)⟩
theorem ReadsOf.drewN {α : Type} {enc : α → Value} {d : α} {W : World} {A : Option Addr} {n : Nat} {xs : List α} (h : ReadsOf enc d W A n xs) (m : Nat) : ReadsOf enc d (W.drewN m) A n xs := h
theorem ReadsInt.keep {w W : World} {k : IntKind} {A : Option Addr} {n g : Nat} {xs : List Int} (h : ReadsInt w k A n xs) (hk : KeepBut w W g none) (hf : ∀ ad,A = some ad → 0 < n → ad.block ≠ g) : ReadsInt W k A n xs :=
  ⟨h.1,h.2.1,fun hn => by
    obtain ⟨ad,e,hc⟩ := h.2.2 hn
    exact ⟨ad,e,fun j hj => keep_cell hk (hc j hj) (by rw [add_block];exact hf ad e hn)⟩⟩
theorem ReadsOf.keep {α : Type} {enc : α → Value} {d : α} {w W : World} {A : Option Addr} {n g : Nat} {xs : List α} (h : ReadsOf enc d w A n xs) (hk : KeepBut w W g none) (hf : ∀ ad,A = some ad → 0 < n → ad.block ≠ g) : ReadsOf enc d W A n xs :=
  ⟨h.1,h.2.1,fun hn => by
    obtain ⟨ad,e,hc⟩ := h.2.2 hn
    exact ⟨ad,e,fun j hj => keep_cell hk (hc j hj) (by rw [add_block];exact hf ad e hn)⟩⟩
theorem blk_put {w : World} {g : Nat} {t : TypeId} {cs cs' : Array Value} (h : w.heap[g]? = some (.cells cs t (0,0))) (i : Nat) (u : Value) (e : cs.setIfInBounds i u = cs') : (w.setCell ⟨g,i,none⟩ u).heap[g]? = some (.cells cs' t (0,0)) := e ▸ blk_set h i u
theorem below_drew1 {base : Nat} {w W : World} (h : Below base w W) : Below base w W.drew := h.drew
namespace Kd
section
variable {α β : Type} {d : Kd α} {d' : Kd β} {e e' base base' n : Nat} {ok ok' : Nat → Prop} {w W w1 W1 : World} {v u : Value} {xs : List α} {ys : List β} {A : Option Addr} {c : Nat}
end
section
variable {α : Type} {enc : α → Value} {h1 : ∀ x,(enc x).oneCell' = true} {w W : World} {A : Option Addr} {n g : Nat} {xs : List α}
end
end Kd
namespace Kd
section
variable {α : Type} {d : Kd α} {e base g : Nat} {ok : Nat → Prop} {w w1 : World} {v : Value} {xs : List α} {o : Obj}
end
end Kd
section
variable {P : Program} {ops : Array Oper} {rest : List Oper} {o : Oper} {a : Act} {Q : Exit → Act → World → Prop}
end
namespace Kd
section
variable {α : Type} {enc : α → Value} {h1 : ∀ x,(enc x).oneCell' = true} {e base g n cap : Nat} {ok : Nat → Prop} {W : World} {xs : List α}
end
end Kd
section
variable {P : Program} {ops : Array Oper} {rest : List Oper} {o : Oper} {a : Act} {Q : Exit → Act → World → Prop}
end
namespace Kd
section
variable {α : Type} {enc : α → Value} {h1 : ∀ x,(enc x).oneCell' = true} {e base g n cap : Nat} {ok : Nat → Prop} {W : World} {xs : List α}
end
end Kd
section
variable {P : Program} {ops : Array Oper} {rest : List Oper} {o : Oper} {a : Act} {Q : Exit → Act → World → Prop} {W : World}
end
section
variable {P : Program} {ops : Array Oper} {o : Oper} {a : Act} {Q : Exit → Act → World → Prop} {Kc : Act → World → Prop}
namespace Kd
variable {α : Type}
end Kd
end
inductive Vals (P : Program) (tmps : Array Value) (w : World) : List ResultVar → List Value → Prop where
  | nil : Vals P tmps w [] []
  | tmp {u : Tmp} {rs : List ResultVar} {vs : List Value} (h : Vals P tmps w rs vs) : Vals P tmps w (.tmp u :: rs) (tmps.getD u undef :: vs)
  | cell {p : Tmp} {ty : TypeId} {rs : List ResultVar} {vs : List Value} (g : Nat) (t : TypeId) (cs : Array Value) (fr : Nat × Nat) (d : TypeDesc)
      (hp : tmps.getD p undef = .pointer (some ⟨g,0,none⟩)) (hg : w.heap[g]? = some (.cells cs t fr))
      (hu : P.underlying ty = some d) (hd : (match d with | .struct _ | .array _ _ => true | _ => false) = true) (hi : (P.info? ty).map (·.size) = some cs.size)
      (h : Vals P tmps w rs vs) : Vals P tmps w (.cell p ty :: rs) (.agg cs :: vs)
section
variable {P : Program} {tmps : Array Value} {w : World}
end
namespace Kd
section
variable {P : Program} {α : Type}
end
section
variable {P : Program} {ops : Array Oper} {rest : List Oper} {o : Oper} {a : Act} {Q : Exit → Act → World → Prop} {Kc : Act → World → Prop} {α : Type}
end
end Kd
end Go.Proofs.YtcenlehfbgnphaaW.PrintWords
end
section
namespace Go.Proofs.YtcenlehfbgnphaaW.PrintLast
section
variable {P : Program} {ops : Array Oper} {Q : Exit → Act → World → Prop} {md : Region.Mode} {S : World → Prop} {ds : List Nat}
def ListedClosed (md : Region.Mode) (ops : Array Oper) (listed : Array Bool) : Prop :=
  ∀ j oj,ops[j]? = some oj → listed.getD j false = true → ∀ e ∈ oj.after,Region.binds md e = true → listed.getD e.on false = true
theorem ListedClosed.set {listed : Array Bool} {i : Nat} (h : ListedClosed md ops listed) (hi : i ∈ Region.ready md ops listed) : ListedClosed md ops (listed.setIfInBounds i true) := by
  obtain ⟨_,oi,hoi,hall⟩ := mem_ready.1 hi
  intro j oj hj hl e he hb
  by_cases hij : i = j
  · subst hij
    have : oj = oi := Option.some.inj (hj.symm.trans hoi)
    subst this
    exact getD_set_true (hall e he hb)
  · rw [getD_set_ne false hij] at hl
    exact getD_set_true (h j oj hj hl e he hb)
def wpAnyLast (P : Program) (md : Region.Mode) (ops : Array Oper) (Q : Exit → Act → World → Prop) (S : World → Prop) (ds : List Nat) : Nat → Array Bool → Act → World → Prop
  | 0,listed,a,w => Region.ready md ops listed = [] ∧ Q .normal a w
  | fuel + 1,listed,a,w =>
    (Region.ready md ops listed = [] → Q .normal a w) ∧
    ∀ i ∈ Region.ready md ops listed,wpOp P ops Q i (fun a' w' => (i ∉ ds → S w → S w') ∧ wpAnyLast P md ops Q S ds fuel (listed.setIfInBounds i true) a' w') a w
end
section
variable {P : Program} {ops : Array Oper} {Q : Exit → Act → World → Prop} {md : Region.Mode} {S : World → Prop} {ds : List Nat}
def AllReadyL (P : Program) (md : Region.Mode) (ops : Array Oper) (Q : Exit → Act → World → Prop) (S : World → Prop) (ds : List Nat) (fuel : Nat) (listed : Array Bool) (a : Act) (w : World) (rs : List Nat) : Prop :=
  ∀ i ∈ rs,wpOp P ops Q i (fun a' w' => (i ∉ ds → S w → S w') ∧ wpAnyLast P md ops Q S ds fuel (listed.setIfInBounds i true) a' w') a w
theorem AllReadyL.nil {fuel : Nat} {listed : Array Bool} {a : Act} {w : World} : AllReadyL P md ops Q S ds fuel listed a w [] := fun _ h => by cases h
theorem AllReadyL.cons {fuel : Nat} {listed : Array Bool} {a : Act} {w : World} {i : Nat} {o : Oper} {rs : List Nat} (ho : ops[i]? = some o) (hd : i ∉ ds)
    (h : ∀ K' : Act → World → Prop,Shut (∀ a w,S w → (S w → wpAnyLast P md ops Q S ds fuel (listed.setIfInBounds i true) a w) → K' a w) → if Region.wanted o (yielded ops a.tmps) = true then Oper.wp P o a w K' Q else K' (a.put o.dst undef) w)
    (hs : AllReadyL P md ops Q S ds fuel listed a w rs) : AllReadyL P md ops Q S ds fuel listed a w (i :: rs) := fun j hj => by
  rcases List.mem_cons.1 hj with rfl | hj
  · exact wpOp_step ho (fun K' hK => h K' (fun a w hS hW => hK a w ⟨fun _ _ => hS,hW hS⟩))
  · exact hs j hj
theorem enters_ {f : FuncId} {fn : Func} (hf : P.funcs[f]? = some fn) (hname : (fn.name == "runtime.NumGoroutine") = false) (hb : fn.body.isSome = true) (args : Array Value) (w : World) : (callFunc f args).run P w = .ok (.enter f args) w := by
  have h1 : fn.name ≠ "runtime.NumGoroutine" := by simpa using hname
  obtain ⟨c,hc⟩ := Option.isSome_iff_exists.1 hb
  simp [callFunc,hf,h1,hc]
theorem goesL_ {rest : List Oper} {oi : Oper} {a : Act} {w : World} (N : Option Tmp) (hd : oi.dst = N) (hg : oi.guard = none) {f : FuncId} {fn : Func} {as0 : Array Operand} {ts : Array TypeId} (hf : P.funcs[f]? = some fn) (hname : (fn.name == "runtime.NumGoroutine") = false) (hb : fn.body.isSome = true) (args : Array Value)
    (hop : oi.op = .call { callee := .value (.func f),args := as0,argTypes := ts }) (hargs : as0.map a.eval = args)
    (h : Calls P f args w fun e w' => ∃ v,e = .returned v ∧ wpList P ops Q rest (a.put N v) w') : wpList P ops Q (oi :: rest) a w := by
  refine wpList_plain hg fun K hK => ?_
  have he := enters_ hf hname hb args w
  have hrun : (execOp a.eval oi).run P w = .ok (.enter f args) w := by
    unfold execOp
    simp [hop,resolve,Deferred.ofValue,invoke,Act.eval,hargs,he]
  unfold Oper.wp
  rw [hrun,Oper.upon_enter]
  refine h.mono fun e w'' hh => ?_
  obtain ⟨v,rfl,hk⟩ := hh
  subst hd
  exact hK _ _ hk
end
end Go.Proofs.YtcenlehfbgnphaaW.PrintLast
end
section
namespace Go.Proofs.YtcenlehfbgnphaaW.PrintLast
open Go.Proofs.YtcenlehfbgnphaaW.PrintWords (Aside0)
section
variable {md : Region.Mode} {ops : Array Oper} {T : Bool × List (List Nat × List Nat)} {l l' li lj lk : Array Bool} {ds : List Nat} {i j k : Nat}
end
end Go.Proofs.YtcenlehfbgnphaaW.PrintLast
end
section
namespace Go.Proofs.YtcenlehfbgnphaaW.PrintLast
section
variable {P : Program} {ops : Array Oper} {Q : Exit → Act → World → Prop} {md : Region.Mode} {S : World → Prop} {ds : List Nat} {T : Bool × List (List Nat × List Nat)}
end
end Go.Proofs.YtcenlehfbgnphaaW.PrintLast
end
section
namespace Go.Proofs.YtcenlehfbgnphaaW.PrintWords
open Go.RowKit
namespace Kd
section
variable {α : Type} {d : Kd α} {e base g o n cap : Nat} {ok okp : Nat → Prop} {w W : World} {v : Value} {xs : List α}
end
section
variable {α : Type} {enc : α → Value} {h1 : ∀ x,(enc x).oneCell' = true} {e base g o n cap : Nat} {ok : Nat → Prop} {W : World} {xs : List α}
end
end Kd
end Go.Proofs.YtcenlehfbgnphaaW.PrintWords
end
section
namespace Go.Proofs.YtcenlehfbgnphaaW.PrintWords
open Go.RowKit
namespace Kd
def tag {α : Type} (f : Nat → Nat) (d : Kd α) : Kd (α × Nat) where
  sz := d.sz
  E := d.E
  K := fun w x cs => d.K w x.1 cs
  M := fun w base ok x cs => d.M w base (fun k => ok k ∧ f k = x.2) x.1 cs
  K_len := fun h => d.K_len h
  K_one := fun h => d.K_one h
  K_below := fun hb h => d.K_below hb h
  K_of_M := fun h => d.K_of_M h
  M_mono := fun hok h => d.M_mono (fun k hk => ⟨hok k hk.1,hk.2⟩) h
  M_bound := fun h => d.M_mono (fun _ hk => ⟨⟨hk.1.1,hk.2⟩,hk.1.2⟩) (d.M_bound h)
  M_move := fun hm h => d.M_move (fun k hk => hm k hk.1) h
  M_lower := fun hb h => d.M_lower hb h
def raw (sz : Nat) : Kd (List Value) where
  sz := sz
  E := []
  K := fun _ x cs => cs = x ∧ cs.length = sz ∧ ∀ u ∈ cs,u.oneCell' = true
  M := fun _ _ _ x cs => cs = x ∧ cs.length = sz ∧ ∀ u ∈ cs,u.oneCell' = true
  K_len := fun h => h.2.1
  K_one := fun h => h.2.2
  K_below := fun _ h => h
  K_of_M := fun h => h
  M_mono := fun _ h => h
  M_bound := fun h => h
  M_move := fun _ h => h
  M_lower := fun _ h => h
def S {α : Type} (d : Kd α) (e : Nat) (w : World) (base : Nat) (ok : Nat → Prop) (v : Value) (xs : List α) : Prop := ∃ f,(tag f d).R e w base ok v xs.zipIdx
section
variable {α β : Type} {d : Kd α} {d' : Kd β} {e e' : Nat} {w w1 W : World} {base b : Nat} {ok ok' okv oku : Nat → Prop} {u v : Value} {xs : List α} {ys : List β}
end
section
variable {α β : Type} {d : Kd α} {d' : Kd β} {e e' g : Nat} {w w1 W : World} {base b : Nat} {ok ok' okv oku : Nat → Prop} {u v : Value} {xs : List α} {ys : List β}
end
section
variable {P : Program} {ops : Array Oper} {rest : List Oper} {o : Oper} {a : Act} {Q : Exit → Act → World → Prop} {Kc : Act → World → Prop} {α : Type}
end
def gap {α : Type} (f : Nat → Nat) (d : Kd α) (i : Nat) (c : List Value) : Kd (α × Nat) where
  sz := d.sz
  E := d.E
  K := fun w x cs => (x.2 = i → cs = c ∧ cs.length = d.sz ∧ ∀ u ∈ cs,u.oneCell' = true) ∧ (x.2 ≠ i → d.K w x.1 cs)
  M := fun w base ok x cs => (x.2 = i → cs = c ∧ cs.length = d.sz ∧ ∀ u ∈ cs,u.oneCell' = true) ∧ (x.2 ≠ i → d.M w base (fun k => ok k ∧ f k = x.2) x.1 cs)
  K_len := fun {w x cs} h => by
    by_cases hx : x.2 = i
    · exact (h.1 hx).2.1
    · exact d.K_len (h.2 hx)
  K_one := fun {w x cs} h => by
    by_cases hx : x.2 = i
    · exact (h.1 hx).2.2
    · exact d.K_one (h.2 hx)
  K_below := fun hb h => ⟨h.1,fun hx => d.K_below hb (h.2 hx)⟩
  K_of_M := fun h => ⟨h.1,fun hx => d.K_of_M (h.2 hx)⟩
  M_mono := fun hok h => ⟨h.1,fun hx => d.M_mono (fun k hk => ⟨hok k hk.1,hk.2⟩) (h.2 hx)⟩
  M_bound := fun h => ⟨h.1,fun hx => d.M_mono (fun _ hk => ⟨⟨hk.1.1,hk.2⟩,hk.1.2⟩) (d.M_bound (h.2 hx))⟩
  M_move := fun hm h => ⟨h.1,fun hx => d.M_move (fun k hk => hm k hk.1) (h.2 hx)⟩
  M_lower := fun hb h => ⟨h.1,fun hx => d.M_lower hb (h.2 hx)⟩
def H {α : Type} (d : Kd α) (e : Nat) (w : World) (base : Nat) (ok : Nat → Prop) (v : Value) (xs : List α) (i : Int) (oki : Nat → Prop) (c : List Value) : Prop :=
  (∀ k,oki k → ok k) ∧ ∃ f,(gap f d i.toNat c).R e w base (fun k => ok k ∧ ¬ oki k) v xs.zipIdx
section
variable {α β : Type} {d : Kd α} {e e' g n cap : Nat} {w w1 W : World} {base : Nat} {ok ok' oki okp : Nat → Prop} {u v : Value} {xs : List α} {i : Int} {c : List Value}
end
section
variable {P : Program} {ops : Array Oper} {rest : List Oper} {o : Oper} {a : Act} {Q : Exit → Act → World → Prop} {α : Type}
end
end Kd
end Go.Proofs.YtcenlehfbgnphaaW.PrintWords
end
section
namespace Go.Proofs.YtcenlehfbgnphaaW.PrintWords
open Go.RowKit
namespace Kd
section
variable {α : Type} {n : Nat} {d : Kd α} {hs : 0 < d.sz} {w : World} {base : Nat} {ok : Nat → Prop} {xs : List α} {cs : List Value}
end
section
variable {α : Type} {n : Nat} {enc : α → Value} {h1 : ∀ x,(enc x).oneCell' = true} {hs : 0 < (scalar enc h1).sz} {w : World} {base : Nat} {ok : Nat → Prop} {xs : List α} {cs : List Value}
end
end Kd
end Go.Proofs.YtcenlehfbgnphaaW.PrintWords
end
section
namespace Go.Proofs.YtcenlehfbgnphaaW.PrintWords
open Go.RowKit
section
variable {P : Program}
end
namespace Kd
section
variable {P : Program} {ops : Array Oper} {rest : List Oper} {o : Oper} {a : Act} {Q : Exit → Act → World → Prop} {Kc : Act → World → Prop} {α : Type}
end
section
variable {α : Type} {d : Kd α} {e : Nat} {w : World} {base : Nat} {ok : Nat → Prop} {v : Value} {xs : List α}
end
section
variable {P : Program} {ops : Array Oper} {rest : List Oper} {o : Oper} {a : Act} {Q : Exit → Act → World → Prop} {Kc : Act → World → Prop} {α : Type}
end
end Kd
end Go.Proofs.YtcenlehfbgnphaaW.PrintWords
end
section
namespace Go.Proofs.YtcenlehfbgnphaaW.PrintWords
open Go.RowKit
namespace Kd
structure Heap {α : Type} (d : Kd α) : Prop where
  K : ∀ {w w1 : World} {x : α} {cs : List Value},(∀ k,k < w.heap.size → w1.heap[k]? = w.heap[k]?) → d.K w x cs → d.K w1 x cs
theorem cell_heap {w w1 : World} (hb : ∀ k,k < w.heap.size → w1.heap[k]? = w.heap[k]?) {a : Addr} {v : Value} (h : w.cell? a = some v) : w1.cell? a = some v := by
  have := hb a.block (World.block_lt_of_cell? w a h)
  simpa [World.cell?,this] using h
theorem Heap.C {α : Type} {d : Kd α} (hd : Heap d) {w w1 : World} {A : Option Addr} {n : Nat} {xs : List α} (hb : ∀ k,k < w.heap.size → w1.heap[k]? = w.heap[k]?) (h : d.C w A n xs) : d.C w1 A n xs :=
  ⟨h.1,h.2.1,fun hn => by
    obtain ⟨ad,e,hc⟩ := h.2.2 hn
    refine ⟨ad,e,fun j p hj => ?_⟩
    obtain ⟨c,hs,hr,hcell⟩ := hc j p hj
    exact ⟨c,hs,hd.K hb hr,fun i u hu => cell_heap hb (hcell i u hu)⟩⟩
section
variable {α : Type} {d : Kd α} {e base g n c : Nat} {ok : Nat → Prop} {w w0 W : World} {A : Option Addr} {xs : List α}
end
end Kd
end Go.Proofs.YtcenlehfbgnphaaW.PrintWords
end
section
namespace Go.Proofs.YtcenlehfbgnphaaW.PrintWords
open Go.RowKit
def Kept (w W : World) (S : Nat → Prop) : Prop := w.heap.size ≤ W.heap.size ∧ ∀ i,i < w.heap.size → ¬ S i → W.heap[i]? = w.heap[i]?
section
variable {w W W2 : World} {S S2 S' : Nat → Prop}
theorem Kept.refl (w : World) (S : Nat → Prop) : Kept w w S := ⟨Nat.le_refl _,fun _ _ _ => rfl⟩
theorem Kept.of_below (h : Below w.heap.size w W) (S : Nat → Prop) : Kept w W S := ⟨h.size,fun i hi _ => h.block i hi⟩
theorem Kept.mono (h : Kept w W S) (hs : ∀ k,S k → S' k) : Kept w W S' := ⟨h.1,fun i hi hn => h.2 i hi (fun hk => hn (hs i hk))⟩
theorem Kept.then_ (h : Kept w W S) (k : Kept W W2 S2) (hs : ∀ k,S2 k → S k ∨ w.heap.size ≤ k) : Kept w W2 S :=
  ⟨Nat.le_trans h.1 k.1,fun i hi hn => (k.2 i (Nat.lt_of_lt_of_le hi h.1) (fun h2 => (hs i h2).elim hn (fun h3 => by omega))).trans (h.2 i hi hn)⟩
theorem Kept.below (h : Kept w W S) (hb : Below W.heap.size W W2) : Kept w W2 S := h.then_ (Kept.of_below hb (fun _ => False)) (fun _ hk => hk.elim)
theorem Kept.alloc (h : Kept w W S) (o : Obj) : Kept w (W.alloc o) S := h.below (below_alloc (Below.refl _ _) o)
theorem Kept.drew (h : Kept w W S) : Kept w W.drew S := h
theorem Kept.drewN (h : Kept w W S) (m : Nat) : Kept w (W.drewN m) S := h
theorem Kept.setCell (h : Kept w W S) {p : Addr} (hp : S p.block ∨ w.heap.size ≤ p.block) (u : Value) : Kept w (W.setCell p u) S :=
  h.then_ (S2 := fun k => k = p.block) ⟨by simp [World.setCell],fun i _ hn => Below.heap_setCell W p u i hn⟩ (fun k hk => by rw [hk];exact hp)
theorem Kept.keep {g : Nat} (h : KeepBut w W g none) (k : Kept W W2 S2) (hs : ∀ k,S2 k → w.heap.size ≤ k) : KeepBut w W2 g none :=
  ⟨Nat.le_trans h.1 k.1,fun i hi hg hr => (k.2 i (Nat.lt_of_lt_of_le hi h.1) (fun h2 => by have := hs i h2;omega)).trans (h.2 i hi hg hr)⟩
end
namespace Kd
section
variable {α : Type} {d : Kd α} {e base n c : Nat} {ok oki S S2 : Nat → Prop} {w w0 W W1 W2 : World} {v : Value} {A : Option Addr} {xs : List α} {i : Int} {cs : List Value}
end
end Kd
end Go.Proofs.YtcenlehfbgnphaaW.PrintWords
end
section
namespace Go.Proofs.YtcenlehfbgnphaaW.PrintWords
open Go.RowKit
def Foot (P : World → Prop) (W : World) (ok : Nat → Prop) : Prop := ∀ W' : World,(∀ k,ok k → k < W.heap.size → W'.heap[k]? = W.heap[k]?) → P W'
theorem heap_lt {W W1 : World} {k : Nat} (h : W1.heap[k]? = W.heap[k]?) (hlt : k < W.heap.size) : k < W1.heap.size := by
  rw [Array.getElem?_eq_getElem hlt] at h
  exact (Array.getElem?_eq_some_iff.1 h).1
namespace Foot
variable {P Q : World → Prop} {W W1 : World} {ok ok' : Nat → Prop}
theorem mono (h : Foot P W ok) (hok : ∀ k,ok k → ok' k) : Foot P W ok' := fun W' hW => h W' (fun k hk hlt => hW k (hok k hk) hlt)
theorem step (h : Foot P W ok) (hm : ∀ k,ok k → k < W.heap.size → W1.heap[k]? = W.heap[k]?) : Foot P W1 ok := fun W' hW => h W' (fun k hk hlt => (hW k hk (heap_lt (hm k hk hlt) hlt)).trans (hm k hk hlt))
end Foot
namespace Kd
def F {α : Type} (d : Kd α) (W : World) (ok : Nat → Prop) (A : Option Addr) (n : Nat) (xs : List α) : Prop := Foot (fun W => d.C W A n xs) W ok
def FK {α : Type} (d : Kd α) (W : World) (ok : Nat → Prop) (x : α) (c : List Value) : Prop := Foot (fun W => d.K W x c) W ok
section
variable {α β : Type} {d : Kd α} {e base n n' cc g N : Nat} {ok ok' okp S : Nat → Prop} {w w0 w1 W W1 : World} {A A' : Option Addr} {u v v1 : Value} {xs : List α} {xs' : List β} {d' : Kd β} {x : α} {c : List Value}
end
end Kd
end Go.Proofs.YtcenlehfbgnphaaW.PrintWords
end
section
namespace Go.Proofs.YtcenlehfbgnphaaW.PrintWords
open Go.RowKit
namespace Kd
section
variable {α : Type} {d : Kd α} {e base n cc g : Nat} {ok ok' okp S : Nat → Prop} {w w1 W W1 : World} {A : Option Addr} {u v v1 : Value} {xs : List α} {x : α} {c : List Value}
def N {α : Type} (d : Kd α) (e : Nat) (w : World) (base : Nat) (ok : Nat → Prop) (v : Value) (xs : List α) : Prop :=
  (∀ k,v.ownBlock = some k → ok k) ∧ ∃ rows : List (List Value),rows.length = xs.length ∧ (raw d.sz).R e w base (fun k => some k = v.ownBlock) v rows ∧ ∀ (j : Nat) (x : α) (c : List Value),xs[j]? = some x → rows[j]? = some c → FK d w (fun k => ok k ∧ some k ≠ v.ownBlock) x c
end
end Kd
end Go.Proofs.YtcenlehfbgnphaaW.PrintWords
end
section
namespace Go.Proofs.YtcenlehfbgnphaaW.PrintWords
open Go.RowKit
namespace Kd
section
variable {α : Type} {d : Kd α} {W : World} {g n : Nat} {S ok : Nat → Prop} {A : Option Addr} {ad : Addr} {xs : List α}
end
end Kd
end Go.Proofs.YtcenlehfbgnphaaW.PrintWords
end
section
namespace Go.Proofs.YtcenlehfbgnphaaW.PrintWords
open Go.RowKit
section
variable {w w' u : World} {m B g : Nat} {o : Obj} {row : Option Nat} {S : Nat → Prop} {a : Addr} {v : Value}
end
namespace Kd
section
variable {α : Type} {d : Kd α} {e base n m : Nat} {ok : Nat → Prop} {w w' : World} {v : Value} {A : Option Addr} {xs : List α}
end
end Kd
end Go.Proofs.YtcenlehfbgnphaaW.PrintWords
end
section
namespace Go.Proofs.YtcenlehfbgnphaaW.PrintWords
open Go.RowKit
section
variable {P : Program} {d : Nat} {xs ys : Array Value} {f : Field} {fs : List Field} {a b : Value} {r s : Bool} {w : World}
theorem eqf_last (hn : (f.name == "_") = false) (ha : (part f.type xs f.offset).run P w = .ok a w) (hb : (part f.type ys f.offset).run P w = .ok b w) (he : (Op.equalIn d f.type a b).run P w = .ok r w) : (Op.eqFields d xs ys [f]).run P w = .ok r w := by
  have hn' : f.name ≠ "_" := by simpa using hn
  simp only [Op.eqFields,if_pos hn',Sem.run_bind,ha,hb,he,Result.andThen_ok]
  cases r <;> simp
theorem eqf_cons (hn : (f.name == "_") = false) (ha : (part f.type xs f.offset).run P w = .ok a w) (hb : (part f.type ys f.offset).run P w = .ok b w) (he : (Op.equalIn d f.type a b).run P w = .ok r w) (hr : (Op.eqFields d xs ys fs).run P w = .ok s w) : (Op.eqFields d xs ys (f :: fs)).run P w = .ok (r && s) w := by
  have hn' : f.name ≠ "_" := by simpa using hn
  rw [Op.eqFields]
  simp only [if_pos hn',Sem.run_bind,ha,hb,he,Result.andThen_ok]
  cases r
  · simp
  · simpa using hr
theorem eqA_of {t : TypeId} {fs : Array Field} (hu : P.underlying t = some (.struct fs)) (hp : P.stoodInHeld t = false) (h : (Op.eqFields d xs ys fs.toList).run P w = .ok r w) : (Op.equalIn (d + 1) t (.agg xs) (.agg ys)).run P w = .ok r w := by
  have hf : P.fieldsOf t = fs := by simp [Program.fieldsOf,hu]
  rw [run_equalIn_struct (P := P) w d t xs ys (by rw [hf];exact hu) hp,hf]
  exact h
end
end Go.Proofs.YtcenlehfbgnphaaW.PrintWords
end
section
namespace Go.Proofs.YtcenlehfbgnphaaW.PrintWords
theorem Reps.front {α : Type} {R : α → List Value → Prop} {size : Nat} {ps : List α} {cs c all : List Value} {p : α} (hp : R p c) (hc : c.length = size) (h : Reps R size ps cs) (ha : c ++ cs = all) : Reps R size (p :: ps) all := by
  subst ha
  refine ⟨by rw [List.length_append,hc,h.1,List.length_cons,Nat.succ_mul,Nat.add_comm],fun j q hq => ?_⟩
  cases j with
  | zero =>
    simp only [List.getElem?_cons_zero,Option.some.injEq] at hq
    subst hq
    rw [Nat.zero_mul,List.drop_zero,List.take_append_of_le_length (by omega),List.take_of_length_le (by omega)]
    exact hp
  | succ j =>
    simp only [List.getElem?_cons_succ] at hq
    have h1 := h.2 j q hq
    rw [Nat.succ_mul,List.drop_append,List.drop_of_length_le (by rw [hc];exact Nat.le_add_left _ _),List.nil_append,hc,Nat.add_sub_cancel]
    exact h1
theorem Reps.c2 {α : Type} {R : α → List Value → Prop} {ps : List α} {cs : List Value} {p : α} {va vb : Value} (hp : R p [va,vb]) (h : Reps R 2 ps cs) : Reps R 2 (p :: ps) (va :: vb :: cs) := Reps.front hp rfl h rfl
theorem Reps.c3 {α : Type} {R : α → List Value → Prop} {ps : List α} {cs : List Value} {p : α} {va vb vc : Value} (hp : R p [va,vb,vc]) (h : Reps R 3 ps cs) : Reps R 3 (p :: ps) (va :: vb :: vc :: cs) := Reps.front hp rfl h rfl
theorem Reps.c4 {α : Type} {R : α → List Value → Prop} {ps : List α} {cs : List Value} {p : α} {va vb vc vd : Value} (hp : R p [va,vb,vc,vd]) (h : Reps R 4 ps cs) : Reps R 4 (p :: ps) (va :: vb :: vc :: vd :: cs) := Reps.front hp rfl h rfl
theorem Reps.c5 {α : Type} {R : α → List Value → Prop} {ps : List α} {cs : List Value} {p : α} {va vb vc vd ve : Value} (hp : R p [va,vb,vc,vd,ve]) (h : Reps R 5 ps cs) : Reps R 5 (p :: ps) (va :: vb :: vc :: vd :: ve :: cs) := Reps.front hp rfl h rfl
theorem Reps.c6 {α : Type} {R : α → List Value → Prop} {ps : List α} {cs : List Value} {p : α} {va vb vc vd ve vf : Value} (hp : R p [va,vb,vc,vd,ve,vf]) (h : Reps R 6 ps cs) : Reps R 6 (p :: ps) (va :: vb :: vc :: vd :: ve :: vf :: cs) := Reps.front hp rfl h rfl
theorem Reps.c7 {α : Type} {R : α → List Value → Prop} {ps : List α} {cs : List Value} {p : α} {va vb vc vd ve vf vg : Value} (hp : R p [va,vb,vc,vd,ve,vf,vg]) (h : Reps R 7 ps cs) : Reps R 7 (p :: ps) (va :: vb :: vc :: vd :: ve :: vf :: vg :: cs) := Reps.front hp rfl h rfl
end Go.Proofs.YtcenlehfbgnphaaW.PrintWords
end
section
namespace Go.Proofs.YtcenlehfbgnphaaW.PrintLast
def up (b : Nat → Bool) (i : Nat) : Nat → Bool := fun j => if j = i then true else b j
section
variable {P : Program} {ops : Array Oper} {Q : Exit → Act → World → Prop} {md : Region.Mode} {T : Bool × List (List Nat × List Nat)} {B : List Nat} {O : List Nat} {b : Nat → Bool} {i j n : Nat}
end
end Go.Proofs.YtcenlehfbgnphaaW.PrintLast
end
section
namespace Go.Proofs.YtcenlehfbgnphaaW.PrintWords
open Go.RowKit
end Go.Proofs.YtcenlehfbgnphaaW.PrintWords
namespace Go.Proofs.YtcenlehfbgnphaaW.PrintLast
section
variable {ops : Array Oper} {a : Act} {o og : Oper} {g : Nat} {t : Tmp} {u : Bool}
end
end Go.Proofs.YtcenlehfbgnphaaW.PrintLast
end
section
namespace Go.Proofs.YtcenlehfbgnphaaW.PrintWords
open Go.RowKit
section
variable {P : Program} {ops : Array Oper} {rest : List Oper} {o : Oper} {a : Act} {Q : Exit → Act → World → Prop} {W : World}
end
end Go.Proofs.YtcenlehfbgnphaaW.PrintWords
end
section
namespace Go.Proofs.YtcenlehfbgnphaaW.PrintWords
open Go.RowKit
namespace Kd
section
variable {α : Type} {d : Kd α} {e base n cap g : Nat} {ok ok' okp : Nat → Prop} {w w1 W : World} {v v1 : Value} {xs ys : List α}
end
section
variable {P : Program} {ops : Array Oper} {rest : List Oper} {o : Oper} {a : Act} {Q : Exit → Act → World → Prop} {Kc : Act → World → Prop} {α : Type}
end
end Kd
end Go.Proofs.YtcenlehfbgnphaaW.PrintWords
end
section
namespace Go.Proofs.YtcenlehfbgnphaaW.PrintMore
open Go.RowKit Go.Proofs.YtcenlehfbgnphaaW.PrintWords
namespace Kd
open Go.Proofs.YtcenlehfbgnphaaW.PrintWords.Kd
end Kd
namespace Kd
open Go.Proofs.YtcenlehfbgnphaaW.PrintWords.Kd
section
variable {α : Type} {d : Kd α} {e base g N : Nat} {ok : Nat → Prop} {W w1 : World} {u v : Value} {xs : List α}
end
end Kd
theorem max2_int (k k' : IntKind) (x y : Int) : Builtin.max2 (.int k x) (.int k' y) = pure (.int k (if x < y then y else x)) := by simp only [Builtin.max2,gt_iff_lt]
theorem min2_int (k k' : IntKind) (x y : Int) : Builtin.min2 (.int k x) (.int k' y) = pure (.int k (if y < x then y else x)) := by simp only [Builtin.min2]
theorem max_two (ats : Array TypeId) (ty : TypeId) (a b : Value) : Builtin.max_ ats ty #[a,b] = (Builtin.max2 a b >>= fun s => pure s) := by simp only [Builtin.max_,List.foldlM_cons,List.foldlM_nil]
theorem min_two (ats : Array TypeId) (ty : TypeId) (a b : Value) : Builtin.min_ ats ty #[a,b] = (Builtin.min2 a b >>= fun s => pure s) := by simp only [Builtin.min_,List.foldlM_cons,List.foldlM_nil]
theorem max_three (ats : Array TypeId) (ty : TypeId) (a b c : Value) : Builtin.max_ ats ty #[a,b,c] = (Builtin.max2 a b >>= fun s => Builtin.max2 s c >>= fun s => pure s) := by simp only [Builtin.max_,List.foldlM_cons,List.foldlM_nil]
theorem min_three (ats : Array TypeId) (ty : TypeId) (a b c : Value) : Builtin.min_ ats ty #[a,b,c] = (Builtin.min2 a b >>= fun s => Builtin.min2 s c >>= fun s => pure s) := by simp only [Builtin.min_,List.foldlM_cons,List.foldlM_nil]
theorem max_four (ats : Array TypeId) (ty : TypeId) (a b c d : Value) : Builtin.max_ ats ty #[a,b,c,d] = (Builtin.max2 a b >>= fun s => Builtin.max2 s c >>= fun s => Builtin.max2 s d >>= fun s => pure s) := by simp only [Builtin.max_,List.foldlM_cons,List.foldlM_nil]
theorem min_four (ats : Array TypeId) (ty : TypeId) (a b c d : Value) : Builtin.min_ ats ty #[a,b,c,d] = (Builtin.min2 a b >>= fun s => Builtin.min2 s c >>= fun s => Builtin.min2 s d >>= fun s => pure s) := by simp only [Builtin.min_,List.foldlM_cons,List.foldlM_nil]
end Go.Proofs.YtcenlehfbgnphaaW.PrintMore
namespace Go.Proofs.YtcenlehfbgnphaaW.PrintWords
open Go.RowKit
section
variable {P : Program} {ops : Array Oper} {rest : List Oper} {o : Oper} {a : Act} {Q : Exit → Act → World → Prop} {W : World}
theorem gate_callee {f : FuncId} {as0 : Array Operand} {ts : Array TypeId} (_ho : o.op = .call { callee := .value (.func f),args := as0,argTypes := ts }) (h : wpList P ops Q (o :: rest) a W) : wpList P ops Q (o :: rest) a W := h
theorem gate_builtin {b : Builtin} {xs : Array Operand} {ts : Array TypeId} (_ho : o.op = .call { callee := .builtin b,args := xs,argTypes := ts }) (h : wpList P ops Q (o :: rest) a W) : wpList P ops Q (o :: rest) a W := h
end
def mn (a b : Int) : Int := if b < a then b else a
namespace Kd
section
variable {α : Type} {d : Kd α} {e base : Nat} {ok : Nat → Prop} {W w1 : World} {v : Value} {xs : List α}
end
section
variable {α : Type} {d : Kd α} {e base g n cap : Nat} {ok oki okp : Nat → Prop} {W : World} {xs : List α} {i : Int} {c : List Value}
end
section
variable {α : Type} {d : Kd α} {e base b b' g N : Nat} {ok ok1 : Nat → Prop} {W W2 w1 : World} {u v : Value} {xs ys : List α} {S : Nat → Prop}
end
end Kd
end Go.Proofs.YtcenlehfbgnphaaW.PrintWords
namespace Go.Proofs.YtcenlehfbgnphaaW.PrintWords
open Go.RowKit
namespace Kd
def V {α : Type} (d : Kd α) (_e : Nat) (W : World) (_base : Nat) (ok : Nat → Prop) (v : Value) (xs : List α) : Prop := ∃ A c,v = .slice A xs.length c ∧ xs.length ≤ c ∧ F d W ok A xs.length xs
section
variable {α β : Type} {d : Kd α} {e base base' n m c g N' lo hi : Nat} {ok ok' S : Nat → Prop} {w W w1 : World} {A : Option Addr} {ad : Addr} {u v v1 : Value} {xs : List α}
end
end Kd
end Go.Proofs.YtcenlehfbgnphaaW.PrintWords
end
section
namespace Go.Proofs.Ytcenlehfbgnphaa.Z
open Go.RowKit Go.Proofs.YtcenlehfbgnphaaW.PrintWords Go.Proofs.YtcenlehfbgnphaaW.PrintLast Go.Proofs.YtcenlehfbgnphaaW.PrintMore
attribute [local go_sem] max2_int min2_int max_two min_two max_three min_three max_four min_four
set_option linter.unusedVariables false
set_option linter.unusedSimpArgs false
theorem info45 : (Try.prog.info? 45).map (fun i => (i.zero,i.size,i.bytes)) = some (some (.agg #[(.string ⟨#[]⟩),(.string ⟨#[]⟩),(.int .i64 0),(.int .i64 0)]),4,48) := by kernel_rfl
structure S45 where
  f0 : ByteArray
  f1 : ByteArray
  f2 : Int
  f3 : Int
def z45 : S45 := ⟨(⟨#[]⟩ : ByteArray),(⟨#[]⟩ : ByteArray),(0 : Int),(0 : Int)⟩
def k45 : Kd S45 := Kd.iso (Kd.pair Kd.string (Kd.pair Kd.string (Kd.pair (Kd.int .i64) (Kd.int .i64)))) (fun x : S45 => (x.f0,x.f1,x.f2,x.f3))
theorem k45_open {w : World} {x : S45} {cs : List Value} (h : k45.K w x cs) : cs = [.string x.f0,.string x.f1,.int .i64 x.f2,.int .i64 x.f3] := by
  obtain ⟨_,_,rfl,rfl,⟨_,_,rfl,rfl,⟨_,_,rfl,rfl,rfl⟩⟩⟩ := h
  exact rfl
theorem k45_openM {w : World} {base : Nat} {ok : Nat → Prop} {x : S45} {cs : List Value} (h : k45.M w base ok x cs) : cs = [.string x.f0,.string x.f1,.int .i64 x.f2,.int .i64 x.f3] := by
  obtain ⟨_,_,rfl,rfl,⟨_,_,rfl,rfl,⟨_,_,rfl,rfl,rfl⟩⟩⟩ := h
  exact rfl
theorem k45_mk (w : World) (x : S45)  : k45.K w x [.string x.f0,.string x.f1,.int .i64 x.f2,.int .i64 x.f3] := ⟨[.string x.f0],[.string x.f1,.int .i64 x.f2,.int .i64 x.f3],rfl,rfl,⟨[.string x.f1],[.int .i64 x.f2,.int .i64 x.f3],rfl,rfl,⟨[.int .i64 x.f2],[.int .i64 x.f3],rfl,rfl,rfl⟩⟩⟩
theorem k45_mkM (w : World) (base : Nat) (ok : Nat → Prop) (x : S45)  : k45.M w base ok x [.string x.f0,.string x.f1,.int .i64 x.f2,.int .i64 x.f3] := ⟨[.string x.f0],[.string x.f1,.int .i64 x.f2,.int .i64 x.f3],rfl,rfl,⟨[.string x.f1],[.int .i64 x.f2,.int .i64 x.f3],rfl,rfl,⟨[.int .i64 x.f2],[.int .i64 x.f3],rfl,rfl,rfl⟩⟩⟩
def rd_T45 (xs : List S45) (i : Int) : S45 := xs.getD i.toNat z45
theorem at_T45 {w : World} {A : Option Addr} {n : Nat} {xs : List S45} (h : Kd.C k45 w A n xs) (i : Int) (h0 : 0 ≤ i) (h1 : i < n) : ∃ ad ,A = some ad ∧ w.cell? (ad.add (i.toNat * 4)) = some (.string (rd_T45 xs i).f0) ∧ w.cell? ⟨(ad.add (i.toNat * 4)).block,(ad.add (i.toNat * 4)).off + 1,none⟩ = some (.string (rd_T45 xs i).f1) ∧ w.cell? ⟨(ad.add (i.toNat * 4)).block,(ad.add (i.toNat * 4)).off + 2,none⟩ = some (.int .i64 (rd_T45 xs i).f2) ∧ w.cell? ⟨(ad.add (i.toNat * 4)).block,(ad.add (i.toNat * 4)).off + 3,none⟩ = some (.int .i64 (rd_T45 xs i).f3) := by
  obtain ⟨ad,c,e,_,hK,hc0⟩ := Kd.C_get h z45 i h0 h1
  have hc : ∀ j u,c[j]? = some u → w.cell? (ad.add (i.toNat * 4 + j)) = some u := hc0
  obtain rfl := k45_open hK
  exact ⟨ad,e,hc 0 _ rfl,by rw [← add_field _ _ 1 (by omega)];exact hc 1 _ rfl,by rw [← add_field _ _ 2 (by omega)];exact hc 2 _ rfl,by rw [← add_field _ _ 3 (by omega)];exact hc 3 _ rfl⟩
end Go.Proofs.Ytcenlehfbgnphaa.Z
end
section
namespace Go.Proofs.Ytcenlehfbgnphaa.Z
open Go.RowKit Go.Proofs.YtcenlehfbgnphaaW.PrintWords Go.Proofs.YtcenlehfbgnphaaW.PrintLast Go.Proofs.YtcenlehfbgnphaaW.PrintMore
attribute [local go_sem] max2_int min2_int max_two min_two max_three min_three max_four min_four
set_option linter.unusedVariables false
set_option linter.unusedSimpArgs false
def safe_fits.f (a0 : Int) (a1 : Bool) : Option (Int × Int) := if a1 = true then (some (a0,0)) else (some (0,10))
set_option maxHeartbeats 8000000 in
set_option maxRecDepth 100000 in
theorem safe_fits.calls (a0 : Int) (a1 : Bool) (r1 : Int) (r2 : Int) (w : World) (h : safe_fits.f a0 a1 = some (r1,r2)) :
    Calls Try.prog 62 #[.int .i64 a0,.bool a1] w fun e w' => e = .returned (.tuple #[.int .i64 r1,.int .i64 r2]) ∧ Drawn0 w w' := by
  have H : (if a1 = true then (some (a0,0)) else (some (0,10))) = some (r1,r2) := h
  clear h
  by_cases c3 : a1 = true
  · subst c3
    have H1 : (some (a0,0)) = some (r1,r2) := by rw [if_pos rfl] at H;exact H
    clear H
    have H := H1
    clear H1
    simp only [Option.some.injEq,Prod.mk.injEq] at H
    obtain ⟨rfl,rfl⟩ := H
    go_enter Try.func62,Try.ntmps62
    go_wp2
    go_ret2
    exact ⟨by first | rfl | (simp;done) | (simp [*];done),by repeat (first | exact Drawn0.refl _ | apply Drawn0.step)⟩
  · replace c3 := Bool.eq_false_iff.mpr c3
    subst c3
    have H1 : (some (0,10)) = some (r1,r2) := by rw [if_neg (show ¬ (false = true) by decide)] at H;exact H
    clear H
    have H := H1
    clear H1
    simp only [Option.some.injEq,Prod.mk.injEq] at H
    obtain ⟨rfl,rfl⟩ := H
    go_enter Try.func62,Try.ntmps62
    go_wp2
    go_ret2
    exact ⟨by first | rfl | (simp;done) | (simp [*];done),by repeat (first | exact Drawn0.refl _ | apply Drawn0.step)⟩
end Go.Proofs.Ytcenlehfbgnphaa.Z
end
section
namespace Go.Proofs.Ytcenlehfbgnphaa.Z
set_option linter.unusedVariables false
set_option linter.unusedSimpArgs false
open Go.RowKit Go.Proofs.YtcenlehfbgnphaaW.PrintWords Go.Proofs.YtcenlehfbgnphaaW.PrintLast Go.Proofs.YtcenlehfbgnphaaW.PrintMore
end Go.Proofs.Ytcenlehfbgnphaa.Z
end
section
namespace Go.Proofs.Ytcenlehfbgnphaa.Z
open Go.RowKit Go.Proofs.YtcenlehfbgnphaaW.PrintWords Go.Proofs.YtcenlehfbgnphaaW.PrintLast Go.Proofs.YtcenlehfbgnphaaW.PrintMore
attribute [local go_sem] max2_int min2_int max_two min_two max_three min_three max_four min_four
set_option linter.unusedVariables false
set_option linter.unusedSimpArgs false
def safe_Add.f (a0 : Int) (a1 : Int) : Option (Int × Int) := (safe_fits.f (wrap64 (a0 + a1)) (decide ((Go.bits .and .i64 (Go.bits .xor .i64 a0 (wrap64 (a0 + a1))) (Go.bits .xor .i64 a1 (wrap64 (a0 + a1)))) ≥ 0))).bind fun bt101 => (some (bt101.1,bt101.2))
set_option maxHeartbeats 8000000 in
set_option maxRecDepth 100000 in
theorem safe_Add.calls (a0 : Int) (a1 : Int) (r1 : Int) (r2 : Int) (w : World) (h : safe_Add.f a0 a1 = some (r1,r2)) :
    Calls Try.prog 23 #[.int .i64 a0,.int .i64 a1] w fun e w' => e = .returned (.tuple #[.int .i64 r1,.int .i64 r2]) ∧ Drawn0 w w' := by
  have H : ((safe_fits.f (wrap64 (a0 + a1)) (decide ((Go.bits .and .i64 (Go.bits .xor .i64 a0 (wrap64 (a0 + a1))) (Go.bits .xor .i64 a1 (wrap64 (a0 + a1)))) ≥ 0))).bind fun bt101 => (some (bt101.1,bt101.2))) = some (r1,r2) := h
  clear h
  replace H := Option.bind_eq_some_iff.mp H
  obtain ⟨⟨t101,t102⟩,A30,H⟩ := H
  replace H : (some (t101,t102)) = some (r1,r2) := H
  have A3 := Aside0.mk A30
  clear A30
  simp only [Option.some.injEq,Prod.mk.injEq] at H
  obtain ⟨rfl,rfl⟩ := H
  go_enter Try.func23,Try.ntmps23
  go_wp2_with (first | ((with_reducible refine gate_callee (f := 62) rfl ?_);refine goesL_ (some 19) rfl rfl Try.func62 (by kernel_rfl) rfl #[.int .i64 (wrap64 (a0 + a1)),.bool (decide ((Go.bits .and .i64 (Go.bits .xor .i64 a0 (wrap64 (a0 + a1))) (Go.bits .xor .i64 a1 (wrap64 (a0 + a1)))) ≥ 0))] rfl (by (try simp only [List.map_toArray,List.map_cons,List.map_nil]);first | done | rfl | (simp only [List.length_drop,List.length_take];rfl)) ?_;(with_reducible refine (safe_fits.calls (wrap64 (a0 + a1)) (decide ((Go.bits .and .i64 (Go.bits .xor .i64 a0 (wrap64 (a0 + a1))) (Go.bits .xor .i64 a1 (wrap64 (a0 + a1)))) ≥ 0)) t101 t102 _ A3.out).mono ?_);rintro e w' ⟨rfl,⟨nd,rfl⟩⟩;refine ⟨_,rfl,?_⟩))
  go_ret2
  exact ⟨by first | rfl | (simp;done) | (simp [*];done),by repeat (first | exact Drawn0.refl _ | apply Drawn0.step)⟩
end Go.Proofs.Ytcenlehfbgnphaa.Z
end
section
namespace Go.Proofs.Ytcenlehfbgnphaa.Z
open Go.RowKit Go.Proofs.YtcenlehfbgnphaaW.PrintWords Go.Proofs.YtcenlehfbgnphaaW.PrintLast Go.Proofs.YtcenlehfbgnphaaW.PrintMore
attribute [local go_sem] max2_int min2_int max_two min_two max_three min_three max_four min_four
set_option linter.unusedVariables false
set_option linter.unusedSimpArgs false
def safe_Sub.f (a0 : Int) (a1 : Int) : Option (Int × Int) := (safe_fits.f (wrap64 (a0 - a1)) (decide ((Go.bits .and .i64 (Go.bits .xor .i64 a0 a1) (Go.bits .xor .i64 a0 (wrap64 (a0 - a1)))) ≥ 0))).bind fun bt153 => (some (bt153.1,bt153.2))
set_option maxHeartbeats 8000000 in
set_option maxRecDepth 100000 in
theorem safe_Sub.calls (a0 : Int) (a1 : Int) (r1 : Int) (r2 : Int) (w : World) (h : safe_Sub.f a0 a1 = some (r1,r2)) :
    Calls Try.prog 25 #[.int .i64 a0,.int .i64 a1] w fun e w' => e = .returned (.tuple #[.int .i64 r1,.int .i64 r2]) ∧ Drawn0 w w' := by
  have H : ((safe_fits.f (wrap64 (a0 - a1)) (decide ((Go.bits .and .i64 (Go.bits .xor .i64 a0 a1) (Go.bits .xor .i64 a0 (wrap64 (a0 - a1)))) ≥ 0))).bind fun bt153 => (some (bt153.1,bt153.2))) = some (r1,r2) := h
  clear h
  replace H := Option.bind_eq_some_iff.mp H
  obtain ⟨⟨t153,t154⟩,A30,H⟩ := H
  replace H : (some (t153,t154)) = some (r1,r2) := H
  have A3 := Aside0.mk A30
  clear A30
  simp only [Option.some.injEq,Prod.mk.injEq] at H
  obtain ⟨rfl,rfl⟩ := H
  go_enter Try.func25,Try.ntmps25
  go_wp2_with (first | ((with_reducible refine gate_callee (f := 62) rfl ?_);refine goesL_ (some 19) rfl rfl Try.func62 (by kernel_rfl) rfl #[.int .i64 (wrap64 (a0 - a1)),.bool (decide ((Go.bits .and .i64 (Go.bits .xor .i64 a0 a1) (Go.bits .xor .i64 a0 (wrap64 (a0 - a1)))) ≥ 0))] rfl (by (try simp only [List.map_toArray,List.map_cons,List.map_nil]);first | done | rfl | (simp only [List.length_drop,List.length_take];rfl)) ?_;(with_reducible refine (safe_fits.calls (wrap64 (a0 - a1)) (decide ((Go.bits .and .i64 (Go.bits .xor .i64 a0 a1) (Go.bits .xor .i64 a0 (wrap64 (a0 - a1)))) ≥ 0)) t153 t154 _ A3.out).mono ?_);rintro e w' ⟨rfl,⟨nd,rfl⟩⟩;refine ⟨_,rfl,?_⟩))
  go_ret2
  exact ⟨by first | rfl | (simp;done) | (simp [*];done),by repeat (first | exact Drawn0.refl _ | apply Drawn0.step)⟩
end Go.Proofs.Ytcenlehfbgnphaa.Z
end
section
namespace Go.Proofs.Ytcenlehfbgnphaa.Z
open Go.RowKit Go.Proofs.YtcenlehfbgnphaaW.PrintWords Go.Proofs.YtcenlehfbgnphaaW.PrintLast Go.Proofs.YtcenlehfbgnphaaW.PrintMore
end Go.Proofs.Ytcenlehfbgnphaa.Z
end
section
namespace Go.Proofs.Ytcenlehfbgnphaa.Z
set_option linter.unusedVariables false
set_option linter.unusedSimpArgs false
open Go.RowKit Go.Proofs.YtcenlehfbgnphaaW.PrintWords Go.Proofs.YtcenlehfbgnphaaW.PrintLast Go.Proofs.YtcenlehfbgnphaaW.PrintMore
theorem only_refl (a : World) (g : Nat) : a.grownBy a (some g) := ⟨rfl,rfl,rfl,Nat.le_refl _,fun _ _ _ => rfl⟩
theorem only_drewN {a w : World} {row : Option Nat} (h : a.grownBy w row) (n : Nat) : a.grownBy (w.drewN n) row := ⟨h.os,h.tape,h.output,h.size,h.block⟩
theorem only_drew {a w : World} {row : Option Nat} (h : a.grownBy w row) : a.grownBy w.drew row := ⟨h.os,h.tape,h.output,h.size,h.block⟩
theorem only_setCell {a w : World} {g : Nat} {p : Addr} (h : a.grownBy w (some g)) (hp : p.block = g ∨ a.heap.size ≤ p.block) (u : Value) : a.grownBy (w.setCell p u) (some g) :=
  ⟨h.os,h.tape,h.output,by simpa [World.setCell] using h.size,fun i hi hne => (Below.heap_setCell w p u i (by
    rintro rfl
    rcases hp with hp | hp
    · exact hne (by rw [hp])
    · omega)).trans (h.block i hi hne)⟩
end Go.Proofs.Ytcenlehfbgnphaa.Z
end
section
namespace Go.Proofs.Ytcenlehfbgnphaa.Z
set_option linter.unusedVariables false
set_option linter.unusedSimpArgs false
open Go.RowKit Go.Proofs.YtcenlehfbgnphaaW.PrintWords Go.Proofs.YtcenlehfbgnphaaW.PrintLast Go.Proofs.YtcenlehfbgnphaaW.PrintMore
abbrev El := S45 × Nat
def zEl : El := (z45,0)
def atL (L : List El) (i : Nat) : El := L.getD i zEl
structure RowAt (w : World) (blk : Nat) (L : List El) : Prop where
  out : ∃ cells : Array Value,w.heap[blk]? = some (.cells cells 45 (0,0)) ∧ ∀ i,i < L.length → cells[i * 4]? = some (.string (atL L i).1.f0) ∧ cells[i * 4 + 1]? = some (.string (atL L i).1.f1) ∧ cells[i * 4 + 2]? = some (.int .i64 (atL L i).1.f2) ∧ cells[i * 4 + 3]? = some (.int .i64 (atL L i).1.f3)
theorem RowAt.cell {w : World} {blk : Nat} {L : List El} (h : RowAt w blk L) {i : Nat} (hi : i < L.length) : w.cell? ⟨blk,i * 4,none⟩ = some (.string (atL L i).1.f0) ∧ w.cell? ⟨blk,i * 4 + 1,none⟩ = some (.string (atL L i).1.f1) ∧ w.cell? ⟨blk,i * 4 + 2,none⟩ = some (.int .i64 (atL L i).1.f2) ∧ w.cell? ⟨blk,i * 4 + 3,none⟩ = some (.int .i64 (atL L i).1.f3) ∧ (∀ o,w.frozen? ⟨blk,o,none⟩ = false) ∧ blk < w.heap.size := by
  obtain ⟨cells,hb,hc⟩ := h.out
  obtain ⟨h0,h1,h2,h3⟩ := hc i hi
  exact ⟨(blk_cell hb _).trans h0,(blk_cell hb _).trans h1,(blk_cell hb _).trans h2,(blk_cell hb _).trans h3,fun o => blk_frozen hb o,blk_lt hb⟩
theorem RowAt.heap {w w' : World} {blk : Nat} {L : List El} (h : RowAt w blk L) (e : w'.heap[blk]? = w.heap[blk]?) : RowAt w' blk L := by
  obtain ⟨cells,hb,hc⟩ := h.out
  exact ⟨cells,e.trans hb,hc⟩
theorem RowAt.drew {w : World} {blk : Nat} {L : List El} (h : RowAt w blk L) : RowAt w.drew blk L := h.heap rfl
def put4 (w : World) (blk i : Nat) (u : S45) : World := (((w.setCell ⟨blk,i * 4,none⟩ (.string u.f0)).setCell ⟨blk,i * 4 + 1,none⟩ (.string u.f1)).setCell ⟨blk,i * 4 + 2,none⟩ (.int .i64 u.f2)).setCell ⟨blk,i * 4 + 3,none⟩ (.int .i64 u.f3)
theorem atL_set (L : List El) (i : Nat) (x : El) (hi : i < L.length) (j : Nat) : atL (L.set i x) j = if j = i then x else atL L j := by
  unfold atL
  by_cases e : j = i
  · subst e;simp [List.getD,hi]
  · rw [if_neg e];simp [List.getD,List.getElem?_set_ne (fun q => e q.symm)]
theorem RowAt.put {w : World} {blk : Nat} {L : List El} (h : RowAt w blk L) {i : Nat} (hi : i < L.length) (x : El) : RowAt (put4 w blk i x.1) blk (L.set i x) := by
  obtain ⟨cells,hb,hc⟩ := h.out
  refine ⟨(((cells.setIfInBounds (i * 4) (.string x.1.f0)).setIfInBounds (i * 4 + 1) (.string x.1.f1)).setIfInBounds (i * 4 + 2) (.int .i64 x.1.f2)).setIfInBounds (i * 4 + 3) (.int .i64 x.1.f3),?_,?_⟩
  · exact blk_put (blk_put (blk_put (blk_put hb _ _ rfl) _ _ rfl) _ _ rfl) _ _ rfl
  · intro j hj
    rw [List.length_set] at hj
    obtain ⟨g0,g1,g2,g3⟩ := hc i hi
    have s0 := (Array.getElem?_eq_some_iff.1 g0).1
    have s1 := (Array.getElem?_eq_some_iff.1 g1).1
    have s2 := (Array.getElem?_eq_some_iff.1 g2).1
    have s3 := (Array.getElem?_eq_some_iff.1 g3).1
    rw [atL_set L i x hi]
    by_cases e : j = i
    · subst e
      rw [if_pos rfl]
      simp only [Array.getElem?_setIfInBounds,Array.size_setIfInBounds]
      refine ⟨?_,?_,?_,?_⟩ <;> simp <;> omega
    · rw [if_neg e]
      obtain ⟨k0,k1,k2,k3⟩ := hc j hj
      simp only [Array.getElem?_setIfInBounds,Array.size_setIfInBounds]
      refine ⟨?_,?_,?_,?_⟩ <;> (repeat rw [if_neg (by omega)]) <;> assumption
def swp (L : List El) (i j : Nat) : List El := (L.set i (atL L j)).set j (atL L i)
def swpR (L : List El) (a b : Nat) : Nat → List El
  | 0 => L
  | k + 1 => swp (swpR L a b k) (a + k) (b + k)
theorem swp_len (L : List El) (i j : Nat) : (swp L i j).length = L.length := by unfold swp;simp
theorem swpR_len (L : List El) (a b : Nat) : ∀ k,(swpR L a b k).length = L.length := by
  intro k
  induction k with
  | zero => rfl
  | succ k ih => rw [swpR,swp_len,ih]
theorem RowAt.swap {w : World} {blk : Nat} {L : List El} (h : RowAt w blk L) {i j : Nat} (hi : i < L.length) (hj : j < L.length) : RowAt (put4 (put4 w blk i (atL L j).1) blk j (atL L i).1) blk (swp L i j) :=
  (h.put hi (atL L j)).put (by simpa using hj) (atL L i)
theorem only_put4 {a w : World} {blk i : Nat} {u : S45} (h : a.grownBy w (some blk)) : a.grownBy (put4 w blk i u) (some blk) := only_setCell (only_setCell (only_setCell (only_setCell h (.inl rfl) _) (.inl rfl) _) (.inl rfl) _) (.inl rfl) _
set_option maxHeartbeats 4000000 in
set_option maxRecDepth 100000 in
theorem swap_range (blk cap a b m : Nat) (fv : Value) (L : List El) (w : World) (h : RowAt w blk L) (hb : b + m ≤ L.length) (hL : L.length ≤ 1000000) (hab : a + m ≤ b) :
    Calls Try.prog 137 #[.slice (some ⟨blk,0,none⟩) L.length cap,.int .i64 a,.int .i64 b,.int .i64 m,fv] w fun e w' => e = .returned (.tuple #[]) ∧ RowAt w' blk (swpR L a b m) ∧ w.grownBy w' (some blk) := by
  have H := Aside0.mk h
  have HG := Aside0.mk (only_refl w blk)
  clear h
  go_enter Try.func137,Try.ntmps137
  go_wp2
  go_loopw [10] (fun i wr => ∃ k : Nat,i = .int .i64 (k : Int) ∧ k ≤ m ∧ Aside0 (RowAt wr blk (swpR L a b k)) ∧ Aside0 (w.grownBy wr (some blk))) (fun i _ => m - (intOf i).toNat)
  case atStart => exact ⟨0,rfl,Nat.zero_le _,H,HG⟩
  case round =>
    clear H HG
    obtain ⟨k,rfl,hk,H,HG⟩ := hrel
    by_cases hlt : k < m
    · have q1 : a + k < (swpR L a b k).length := by rw [swpR_len];omega
      have q2 : b + k < (swpR L a b k).length := by rw [swpR_len];omega
      obtain ⟨x0,x1,x2,x3,z,hbl⟩ := H.out.cell q1
      obtain ⟨y0,y1,y2,y3,_,_⟩ := H.out.cell q2
      have SW := Aside0.mk (H.out.swap q1 q2)
      have p1 : a + k < L.length := by omega
      have p2 : b + k < L.length := by omega
      have n00 : ¬ ((b + k) * 4 = (a + k) * 4) := by omega
      generalize hx : atL (swpR L a b k) (a + k) = ex at *
      generalize hy : atL (swpR L a b k) (b + k) = ey at *
      have SN := Aside0.mk (show swp (swpR L a b k) (a + k) (b + k) = swpR L a b (k + 1) from rfl)
      clear hx hy q1 q2
      go_wp2
      go_region
      rw [SN.out] at SW
      have R1 : Aside0 (RowAt (put4 (put4 wr blk (a + k) ey.1) blk (b + k) ex.1) blk (swpR L a b (k + 1))) := SW
      have G1 := Aside0.mk (only_put4 (i := b + k) (u := ex.1) (only_put4 (i := a + k) (u := ey.1) HG.out))
      clear SW SN x0 x1 x2 x3 y0 y1 y2 y3 z H HG
      have R2 := R1.out.drew
      have G2 := only_drew G1.out
      unfold put4 at R2 G2
      have R3 := Aside0.mk R2
      have G3 := Aside0.mk G2
      clear R1 G1 R2 G2
      go_wp2
      go_roundw
      case rel => exact ⟨k + 1,by go_num,by omega,R3,G3⟩
      case measure => simp [intOf];omega
    · have hkm : k = m := by omega
      subst hkm
      go_wp2
      go_end0
      exact ⟨rfl,H.out,HG.out⟩
end Go.Proofs.Ytcenlehfbgnphaa.Z
end
section
namespace Go.Proofs.Ytcenlehfbgnphaa.Z
set_option linter.unusedVariables false
set_option linter.unusedSimpArgs false
set_option linter.unnecessarySimpa false
theorem atL_mid (P S : List El) (x : El) : atL (P ++ x :: S) P.length = x := by
  unfold atL
  rw [List.getD_eq_getElem?_getD,List.getElem?_append_right (Nat.le_refl _),Nat.sub_self]
  rfl
theorem atL_app (P S : List El) (n : Nat) : atL (P ++ S) (P.length + n) = atL S n := by
  unfold atL
  rw [List.getD_eq_getElem?_getD,List.getD_eq_getElem?_getD,List.getElem?_append_right (Nat.le_add_right _ _),Nat.add_sub_cancel_left]
theorem set_mid (P S : List El) (x y : El) : (P ++ x :: S).set P.length y = P ++ y :: S := by
  rw [List.set_append_right _ _ (Nat.le_refl _),Nat.sub_self]
  rfl
theorem swp_split (P M S : List El) (x y : El) : swp (P ++ x :: (M ++ y :: S)) P.length (P.length + (M.length + 1)) = P ++ y :: (M ++ x :: S) := by
  have e1 : atL (P ++ x :: (M ++ y :: S)) P.length = x := atL_mid _ _ _
  have e2 : atL (P ++ x :: (M ++ y :: S)) (P.length + (M.length + 1)) = y := by
    rw [atL_app]
    show atL (x :: (M ++ y :: S)) (M.length + 1) = y
    have := atL_mid (x :: M) S y
    simpa using this
  unfold swp
  rw [e1,e2,set_mid]
  have := set_mid (P ++ y :: M) S y x
  rw [List.length_append,List.length_cons] at this
  simpa using this
theorem swpR_split (m : Nat) : ∀ (P X M Y S : List El),X.length = m → Y.length = m → swpR (P ++ X ++ M ++ Y ++ S) P.length (P.length + X.length + M.length) m = P ++ Y ++ M ++ X ++ S := by
  induction m with
  | zero =>
    intro P X M Y S hx hy
    obtain rfl := List.length_eq_zero_iff.1 hx
    obtain rfl := List.length_eq_zero_iff.1 hy
    rfl
  | succ m ih =>
    intro P X M Y S hx hy
    rcases List.eq_nil_or_concat X with rfl | ⟨X1,x,rfl⟩
    · simp at hx
    rcases List.eq_nil_or_concat Y with rfl | ⟨Y1,y,rfl⟩
    · simp at hy
    rw [List.concat_eq_append] at *
    rw [List.concat_eq_append] at *
    have hx1 : X1.length = m := by simpa using hx
    have hy1 : Y1.length = m := by simpa using hy
    have h := ih P X1 ([x] ++ M) Y1 ([y] ++ S) hx1 hy1
    have e : P ++ X1 ++ ([x] ++ M) ++ Y1 ++ ([y] ++ S) = P ++ (X1 ++ [x]) ++ M ++ (Y1 ++ [y]) ++ S := by simp
    rw [e] at h
    have eb : P.length + X1.length + ([x] ++ M).length = P.length + (X1 ++ [x]).length + M.length := by simp;omega
    rw [eb] at h
    rw [swpR,h]
    have h2 := swp_split (P ++ Y1) (M ++ X1) S x y
    have e1 : P.length + m = (P ++ Y1).length := by simp [hy1]
    have e2 : P.length + (X1 ++ [x]).length + M.length + m = (P ++ Y1).length + ((M ++ X1).length + 1) := by simp [hx1,hy1];omega
    rw [e1,e2]
    have e3 : P ++ Y1 ++ ([x] ++ M) ++ X1 ++ ([y] ++ S) = P ++ Y1 ++ x :: (M ++ X1 ++ y :: S) := by simp
    rw [e3,h2]
    simp
structure Ord3 (cf : S45 → S45 → Int) : Prop where
  anti : ∀ x y,cf y x = -cf x y
  trans : ∀ x y z,cf x y ≤ 0 → cf y z ≤ 0 → cf x z ≤ 0
def Lx (cf : S45 → S45 → Int) (x y : El) : Prop := cf x.1 y.1 < 0 ∨ (cf x.1 y.1 = 0 ∧ x.2 < y.2)
theorem Lx.trans {cf : S45 → S45 → Int} (o : Ord3 cf) {x y z : El} (h1 : Lx cf x y) (h2 : Lx cf y z) : Lx cf x z := by
  unfold Lx at *
  have a1 := o.trans x.1 y.1 z.1
  have a2 := o.trans z.1 x.1 y.1
  have a3 := o.trans y.1 z.1 x.1
  have b1 := o.anti x.1 y.1
  have b2 := o.anti y.1 z.1
  have b3 := o.anti x.1 z.1
  omega
theorem Lx.asymm {cf : S45 → S45 → Int} (o : Ord3 cf) {x y : El} (h1 : Lx cf x y) (h2 : Lx cf y x) : False := by
  unfold Lx at *
  have b1 := o.anti x.1 y.1
  omega
theorem Lx.total {cf : S45 → S45 → Int} (o : Ord3 cf) {x y : El} (h : x.2 < y.2) : (cf y.1 x.1 < 0 ↔ Lx cf y x) ∧ (¬ cf y.1 x.1 < 0 ↔ Lx cf x y) := by
  unfold Lx
  have b1 := o.anti x.1 y.1
  omega
def Sorted (cf : S45 → S45 → Int) (l : List El) : Prop := l.Pairwise (Lx cf)
theorem perm_eq {cf : S45 → S45 → Int} (o : Ord3 cf) : ∀ (l l' : List El),l.Perm l' → Sorted cf l → Sorted cf l' → l = l' := by
  intro l
  induction l with
  | nil => intro l' hp _ _;exact (List.Perm.nil_eq hp)
  | cons x t ih =>
    intro l' hp h1 h2
    cases l' with
    | nil => exact absurd hp.length_eq (by simp)
    | cons y t' =>
      have hx : x ∈ y :: t' := hp.subset List.mem_cons_self
      have hy : y ∈ x :: t := hp.symm.subset List.mem_cons_self
      have e : x = y := by
        rcases List.mem_cons.1 hx with e | hx'
        · exact e
        rcases List.mem_cons.1 hy with e | hy'
        · exact e.symm
        exact (Lx.asymm o ((List.pairwise_cons.1 h1).1 y hy') ((List.pairwise_cons.1 h2).1 x hx')).elim
      subst e
      rw [ih t' (List.Perm.cons_inv hp) (List.pairwise_cons.1 h1).2 (List.pairwise_cons.1 h2).2]
end Go.Proofs.Ytcenlehfbgnphaa.Z
end
section
namespace Go.Proofs.Ytcenlehfbgnphaa.Z
set_option linter.unusedVariables false
set_option linter.unusedSimpArgs false
open Go.RowKit Go.Proofs.YtcenlehfbgnphaaW.PrintWords Go.Proofs.YtcenlehfbgnphaaW.PrintLast Go.Proofs.YtcenlehfbgnphaaW.PrintMore
theorem only_trans {a b c : World} {g : Nat} (h : a.grownBy b (some g)) (k : b.grownBy c (some g)) : a.grownBy c (some g) :=
  ⟨k.os.trans h.os,k.tape.trans h.tape,k.output.trans h.output,Nat.le_trans h.size k.size,fun i hi hne => (k.block i (Nat.lt_of_lt_of_le hi h.size) hne).trans (h.block i hi hne)⟩
structure Turn (R : List El) (m i j : Nat) (L : List El) : Prop where
  out : ∃ P X Y S,L = P ++ X ++ Y ++ S ∧ X.length = i ∧ Y.length = j ∧ P.length + i = m ∧ 0 < i ∧ 0 < j ∧ P ++ Y ++ X ++ S = R
theorem Turn.len {R : List El} {m i j : Nat} {L : List El} (h : Turn R m i j L) : i ≤ m ∧ m + j ≤ L.length ∧ 0 < i ∧ 0 < j ∧ R.length = L.length := by
  obtain ⟨P,X,Y,S,rfl,hx,hy,hp,h0,h1,hR⟩ := h.out
  have := congrArg List.length hR
  simp at this ⊢
  omega
theorem Turn.left {R : List El} {m i j : Nat} {L : List El} (h : Turn R m i j L) (hij : j < i) : Turn R m (i - j) j (swpR L (m - i) m j) := by
  obtain ⟨P,X,Y,S,rfl,hx,hy,hp,h0,h1,hR⟩ := h.out
  have e : X = X.take j ++ X.drop j := (List.take_append_drop j X).symm
  have l1 : (X.take j).length = j := by simp;omega
  have l2 : (X.drop j).length = i - j := by simp;omega
  generalize X.take j = X1 at *
  generalize X.drop j = X2 at *
  subst e
  have hs := swpR_split j P X1 X2 Y S l1 hy
  have e1 : P ++ (X1 ++ X2) ++ Y ++ S = P ++ X1 ++ X2 ++ Y ++ S := by simp
  have e2 : m - i = P.length := by omega
  have e3 : m = P.length + X1.length + X2.length := by simp at hx;omega
  rw [e1,e2]
  rw [← e3] at hs
  rw [hs]
  refine ⟨P ++ Y,X2,X1,S,by simp,l2,l1,by simp;omega,by omega,h1,?_⟩
  rw [← hR]
  simp
theorem Turn.right {R : List El} {m i j : Nat} {L : List El} (h : Turn R m i j L) (hij : i < j) : Turn R m i (j - i) (swpR L (m - i) (m + j - i) i) := by
  obtain ⟨P,X,Y,S,rfl,hx,hy,hp,h0,h1,hR⟩ := h.out
  have e : Y = Y.take (j - i) ++ Y.drop (j - i) := (List.take_append_drop (j - i) Y).symm
  have l1 : (Y.take (j - i)).length = j - i := by simp;omega
  have l2 : (Y.drop (j - i)).length = i := by simp;omega
  generalize Y.take (j - i) = Y1 at *
  generalize Y.drop (j - i) = Y2 at *
  subst e
  have hs := swpR_split i P X Y1 Y2 S hx l2
  have e1 : P ++ X ++ (Y1 ++ Y2) ++ S = P ++ X ++ Y1 ++ Y2 ++ S := by simp
  have e2 : m - i = P.length := by omega
  have e3 : m + j - i = P.length + X.length + Y1.length := by omega
  rw [e1,e2,e3,hs]
  refine ⟨P,Y2,Y1,X ++ S,by simp,l2,l1,hp,h0,by omega,?_⟩
  rw [← hR]
  simp
theorem Turn.done {R : List El} {m i : Nat} {L : List El} (h : Turn R m i i L) : swpR L (m - i) m i = R := by
  obtain ⟨P,X,Y,S,rfl,hx,hy,hp,h0,h1,hR⟩ := h.out
  have hs := swpR_split i P X [] Y S hx hy
  have e2 : m - i = P.length := by omega
  have e3 : m = P.length + X.length + ([] : List El).length := by simp;omega
  rw [e2]
  rw [← e3] at hs
  rw [List.append_nil] at hs
  rw [hs,← hR]
  simp
theorem swap_rangeI (blk cap a b m n : Nat) (ai bi mi : Int) (fv : Value) (L : List El) (w : World) (h : RowAt w blk L) (hn : L.length = n) (hb : b + m ≤ n) (hL : n ≤ 1000000) (hab : a + m ≤ b) (e1 : ai = a) (e2 : bi = b) (e3 : mi = m) :
    Calls Try.prog 137 #[.slice (some ⟨blk,0,none⟩) n cap,.int .i64 ai,.int .i64 bi,.int .i64 mi,fv] w fun e w' => e = .returned (.tuple #[]) ∧ RowAt w' blk (swpR L a b m) ∧ w.grownBy w' (some blk) := by
  subst e1;subst e2;subst e3;subst hn
  exact swap_range blk cap a b m fv L w h hb hL hab
set_option maxHeartbeats 4000000 in
set_option maxRecDepth 100000 in
theorem rotate (blk cap a m b n : Nat) (fv : Value) (L R : List El) (w : World) (h : RowAt w blk L) (hL : L.length ≤ 1000000) (hT : Turn R m (m - a) (b - m) L) (ha : a ≤ m) (hb : m ≤ b) (hlen : L.length = n) :
    Calls Try.prog 123 #[.slice (some ⟨blk,0,none⟩) n cap,.int .i64 a,.int .i64 m,.int .i64 b,fv] w fun e w' => e = .returned (.tuple #[]) ∧ RowAt w' blk R ∧ w.grownBy w' (some blk) := by
  have H := Aside0.mk h
  have HG := Aside0.mk (only_refl w blk)
  have HT := Aside0.mk hT
  obtain ⟨t1,t2,t3,t4,_⟩ := hT.len
  have hn : n ≤ 1000000 := by omega
  have hbn : b ≤ 1000000 := by omega
  have HL := Aside0.mk hlen
  clear h hT t1 t2 t3 t4 hlen hL
  go_enter Try.func123,Try.ntmps123
  go_wp2
  go_loopw [10,11] (fun iv jv wr => ∃ (i j : Nat) (Lk : List El),iv = .int .i64 (i : Int) ∧ jv = .int .i64 (j : Int) ∧ i ≤ 1000000 ∧ j ≤ 1000000 ∧ 0 < i ∧ 0 < j ∧ i ≤ m ∧ Aside0 (m + j ≤ n) ∧ Aside0 (Lk.length = n) ∧ Aside0 (Turn R m i j Lk) ∧ Aside0 (RowAt wr blk Lk) ∧ Aside0 (w.grownBy wr (some blk))) (fun iv jv _ => (intOf iv).toNat + (intOf jv).toNat)
  case atStart =>
    obtain ⟨t1,t2,t3,t4,_⟩ := HT.out.len
    exact ⟨m - a,b - m,L,by congr 1;omega,by congr 1;omega,by omega,by omega,t3,t4,t1,⟨by have := HL.out;omega⟩,HL,HT,H,HG⟩
  case round =>
    clear H HG HT
    obtain ⟨i,j,Lk,rfl,rfl,hi,hj,i0,j0,him,HM,HLk,HT,H,HG⟩ := hrel
    rcases Nat.lt_trichotomy i j with hij | hij | hij
    · have b0 : ((i : Int) != (j : Int)) = true := by rw [bne_iff_ne];omega
      have b1 : decide ((j : Int) < (i : Int)) = false := decide_eq_false (by omega)
      have HR := Aside0.mk (HT.out.right hij)
      go_wp2_with (fail)
      refine (swap_rangeI blk cap (m - i) (m + j - i) i n _ _ _ fv Lk wr H.out HLk.out (by have := HM.out;omega) hn (by omega) (by omega) (by omega) rfl).mono ?_
      rintro e w1 ⟨rfl,h1,hg⟩
      have H1 := Aside0.mk h1
      have G1 := Aside0.mk (only_trans HG.out hg)
      have L1 := Aside0.mk ((swpR_len Lk (m - i) (m + j - i) i).trans HLk.out)
      have M1 := Aside0.mk (show m + (j - i) ≤ n by have := HM.out;omega)
      clear h1 hg H HG HT HLk HM
      go_wp2_with (fail)
      go_roundw
      case rel => exact ⟨i,j - i,_,rfl,by congr 1;omega,hi,by omega,i0,by omega,him,M1,L1,HR,H1,G1⟩
      case measure => simp [intOf];omega
    · subst hij
      have b0 : ((i : Int) != (i : Int)) = false := by simp
      have HD := Aside0.mk HT.out.done
      go_wp2_with (fail)
      refine (swap_rangeI blk cap (m - i) m i n _ _ _ fv Lk wr H.out HLk.out HM.out hn (by omega) (by omega) rfl rfl).mono ?_
      rintro e w1 ⟨rfl,h1,hg⟩
      rw [HD.out] at h1
      have H1 := Aside0.mk h1
      have G1 := Aside0.mk (only_trans HG.out hg)
      clear h1 hg H HG HT HLk HM HD
      go_wp2_with (fail)
      go_end0
      exact ⟨rfl,H1.out,G1.out⟩
    · have b0 : ((i : Int) != (j : Int)) = true := by rw [bne_iff_ne];omega
      have b1 : decide ((j : Int) < (i : Int)) = true := decide_eq_true (by omega)
      have HR := Aside0.mk (HT.out.left hij)
      go_wp2_with (fail)
      refine (swap_rangeI blk cap (m - i) m j n _ _ _ fv Lk wr H.out HLk.out HM.out hn (by omega) (by omega) rfl rfl).mono ?_
      rintro e w1 ⟨rfl,h1,hg⟩
      have H1 := Aside0.mk h1
      have G1 := Aside0.mk (only_trans HG.out hg)
      have L1 := Aside0.mk ((swpR_len Lk (m - i) m j).trans HLk.out)
      clear h1 hg H HG HT HLk
      go_wp2_with (fail)
      go_roundw
      case rel => exact ⟨i - j,j,_,by congr 1;omega,rfl,by omega,hj,by omega,j0,by omega,HM,L1,HR,H1,G1⟩
      case measure => simp [intOf];omega
end Go.Proofs.Ytcenlehfbgnphaa.Z
end
section
namespace Go.Proofs.Ytcenlehfbgnphaa.Z
set_option linter.unusedVariables false
set_option linter.unusedSimpArgs false
set_option linter.unnecessarySimpa false
def Tags (X : List El) : Prop := X.Pairwise (fun x y => x.2 < y.2)
theorem swp_comm (L : List El) {i j : Nat} (h : i ≠ j) : swp L i j = swp L j i := by
  unfold swp
  rw [List.set_comm _ _ h]
structure InsO (cf : S45 → S45 → Int) (P X S : List El) (i : Nat) (L : List El) : Prop where
  out : ∃ X1 X2 Y1,L = P ++ X1 ++ X2 ++ S ∧ P.length + X1.length = i ∧ Sorted cf X1 ∧ X = Y1 ++ X2 ∧ X1.Perm Y1
structure InsI (cf : S45 → S45 → Int) (P X S : List El) (i j : Nat) (L : List El) : Prop where
  out : ∃ L1 x R1 X2 Y1,L = P ++ L1 ++ x :: (R1 ++ X2 ++ S) ∧ P.length + L1.length = j ∧ P.length + L1.length + R1.length = i ∧ Sorted cf (L1 ++ R1) ∧ (∀ r ∈ R1,Lx cf x r) ∧ X = Y1 ++ x :: X2 ∧ (L1 ++ R1).Perm Y1
theorem InsO.start {cf : S45 → S45 → Int} {P X S : List El} (h : X ≠ []) : InsO cf P X S (P.length + 1) (P ++ X ++ S) := by
  obtain ⟨x,X2,rfl⟩ := List.exists_cons_of_ne_nil h
  exact ⟨[x],X2,[x],by simp,by simp,List.pairwise_singleton _ _,rfl,List.Perm.refl _⟩
theorem InsO.enter {cf : S45 → S45 → Int} {P X S L : List El} {i : Nat} (h : InsO cf P X S i L) (hi : i < P.length + X.length) : InsI cf P X S i i L := by
  obtain ⟨X1,X2,Y1,rfl,h1,h2,rfl,h3⟩ := h.out
  have := h3.length_eq
  cases X2 with
  | nil => simp at hi;omega
  | cons x X2 => exact ⟨X1,x,[],X2,Y1,by simp,h1,by simpa using h1,by simpa using h2,fun r hr => (by cases hr),rfl,by simpa using h3⟩
theorem InsI.len {cf : S45 → S45 → Int} {P X S L : List El} {i j : Nat} (h : InsI cf P X S i j L) : P.length ≤ j ∧ j ≤ i ∧ i < L.length := by
  obtain ⟨L1,x,R1,X2,Y1,rfl,h1,h2,h3,h4,rfl,h5⟩ := h.out
  simp
  omega
theorem InsI.test {cf : S45 → S45 → Int} {P X S L : List El} {i j : Nat} (o : Ord3 cf) (ht : Tags X) (h : InsI cf P X S i (j + 1) L) (hj : P.length < j + 1) :
    ∃ L1 y x R1 X2 Y1,L = P ++ L1 ++ y :: ([] ++ x :: (R1 ++ X2 ++ S)) ∧ P.length + L1.length = j ∧ P.length + L1.length + 1 + R1.length = i ∧ Sorted cf (L1 ++ y :: R1) ∧ (∀ r ∈ R1,Lx cf x r) ∧ X = Y1 ++ x :: X2 ∧ (L1 ++ y :: R1).Perm Y1 ∧ atL L (j + 1) = x ∧ atL L j = y ∧ y.2 < x.2 := by
  obtain ⟨L1,x,R1,X2,Y1,rfl,h1,h2,h3,h4,rfl,h5⟩ := h.out
  rcases List.eq_nil_or_concat L1 with rfl | ⟨L0,y,rfl⟩
  · simp at h1;omega
  rw [List.concat_eq_append] at *
  have e : P ++ (L0 ++ [y]) ++ x :: (R1 ++ X2 ++ S) = P ++ L0 ++ y :: ([] ++ x :: (R1 ++ X2 ++ S)) := by simp
  have a1 : P.length + L0.length = j := by simp at h1;omega
  have h3' : Sorted cf (L0 ++ y :: R1) := by simpa using h3
  have h5' : (L0 ++ y :: R1).Perm Y1 := by simpa using h5
  refine ⟨L0,y,x,R1,X2,Y1,e,a1,by simp at h2;omega,h3',h4,rfl,h5',?_,?_,?_⟩
  · rw [e]
    have := atL_mid (P ++ L0 ++ [y]) (R1 ++ X2 ++ S) x
    have e2 : (P ++ L0 ++ [y]).length = j + 1 := by simp;omega
    rw [e2] at this
    simpa using this
  · rw [e]
    have := atL_mid (P ++ L0) ([] ++ x :: (R1 ++ X2 ++ S)) y
    have e2 : (P ++ L0).length = j := by simp;omega
    rw [e2] at this
    exact this
  · have hy : y ∈ Y1 := h5'.subset (by simp)
    unfold Tags at ht
    rw [List.pairwise_append] at ht
    exact ht.2.2 y hy x List.mem_cons_self
theorem InsI.swap {cf : S45 → S45 → Int} {P X S L : List El} {i j : Nat} (o : Ord3 cf) (ht : Tags X) (h : InsI cf P X S i (j + 1) L) (hj : P.length < j + 1) (hc : cf (atL L (j + 1)).1 (atL L j).1 < 0) : InsI cf P X S i j (swp L (j + 1) j) := by
  obtain ⟨L1,y,x,R1,X2,Y1,e,h1,h2,h3,h4,h5,h6,ex,ey,hlt⟩ := h.test o ht hj
  rw [ex,ey] at hc
  have hx : Lx cf x y := (Lx.total o hlt).1.1 hc
  rw [swp_comm _ (by omega),e]
  have hs := swp_split (P ++ L1) [] (R1 ++ X2 ++ S) y x
  have e1 : (P ++ L1).length = j := by simp;omega
  rw [e1] at hs
  rw [show j + (([] : List El).length + 1) = j + 1 by rfl] at hs
  rw [hs]
  refine ⟨L1,x,y :: R1,X2,Y1,by simp,h1,by simp;omega,h3,?_,h5,h6⟩
  intro r hr
  rcases List.mem_cons.1 hr with rfl | hr
  · exact hx
  · exact h4 r hr
theorem InsI.stop {cf : S45 → S45 → Int} {P X S L : List El} {i j : Nat} (o : Ord3 cf) (ht : Tags X) (h : InsI cf P X S i j L) (hc : j = P.length ∨ ¬ cf (atL L j).1 (atL L (j - 1)).1 < 0) : InsO cf P X S (i + 1) L := by
  obtain ⟨b1,b2,b3⟩ := h.len
  by_cases hj : j = P.length
  · obtain ⟨L1,x,R1,X2,Y1,e,h1,h2,h3,h4,h5,h6⟩ := h.out
    have : L1 = [] := List.length_eq_zero_iff.1 (by omega)
    subst this
    simp only [List.nil_append,List.append_nil] at *
    refine ⟨x :: R1,X2,Y1 ++ [x],by rw [e];simp,by simp at h2 ⊢;omega,?_,by rw [h5];simp,?_⟩
    · exact List.pairwise_cons.2 ⟨h4,h3⟩
    · exact (List.Perm.cons x h6).trans (List.perm_append_comm (l₁ := [x]) (l₂ := Y1))
  · have hc := hc.resolve_left hj
    obtain ⟨j,rfl⟩ : ∃ q,j = q + 1 := ⟨j - 1,by omega⟩
    obtain ⟨L1,y,x,R1,X2,Y1,e,h1,h2,h3,h4,h5,h6,ex,ey,hlt⟩ := h.test o ht (by omega)
    rw [Nat.add_sub_cancel,ex,ey] at hc
    have hx : Lx cf y x := (Lx.total o hlt).2.1 hc
    refine ⟨L1 ++ y :: x :: R1,X2,Y1 ++ [x],by rw [e];simp,by simp;omega,?_,by rw [h5];simp,?_⟩
    · unfold Sorted at *
      rw [List.pairwise_append] at h3 ⊢
      obtain ⟨g1,g2,g3⟩ := h3
      rw [List.pairwise_cons] at g2
      refine ⟨g1,List.pairwise_cons.2 ⟨?_,List.pairwise_cons.2 ⟨h4,g2.2⟩⟩,?_⟩
      · intro r hr
        rcases List.mem_cons.1 hr with rfl | hr
        · exact hx
        · exact g2.1 r hr
      · intro l hl r hr
        rcases List.mem_cons.1 hr with rfl | hr
        · exact g3 l hl _ List.mem_cons_self
        rcases List.mem_cons.1 hr with rfl | hr
        · exact (g3 l hl y List.mem_cons_self).trans o hx
        · exact g3 l hl r (List.mem_cons_of_mem _ hr)
    · have p1 : (L1 ++ y :: x :: R1).Perm (x :: (L1 ++ y :: R1)) := by
        have : L1 ++ y :: x :: R1 = (L1 ++ [y]) ++ x :: R1 := by simp
        rw [this]
        refine List.perm_middle.trans ?_
        simp
      exact p1.trans ((List.Perm.cons x h6).trans (List.perm_append_comm (l₁ := [x]) (l₂ := Y1)))
theorem InsO.final {cf : S45 → S45 → Int} {P X S L : List El} {i : Nat} (h : InsO cf P X S i L) (hi : P.length + X.length ≤ i) : ∃ C,L = P ++ C ++ S ∧ C.Perm X ∧ Sorted cf C := by
  obtain ⟨X1,X2,Y1,rfl,h1,h2,rfl,h3⟩ := h.out
  have := h3.length_eq
  have : X2 = [] := List.length_eq_zero_iff.1 (by simp at hi;omega)
  subst this
  exact ⟨X1,by simp,by simpa using h3,h2⟩
end Go.Proofs.Ytcenlehfbgnphaa.Z
end
section
namespace Go.Proofs.Ytcenlehfbgnphaa.Z
set_option linter.unusedVariables false
set_option linter.unusedSimpArgs false
open Go.RowKit Go.Proofs.YtcenlehfbgnphaaW.PrintWords Go.Proofs.YtcenlehfbgnphaaW.PrintLast Go.Proofs.YtcenlehfbgnphaaW.PrintMore
structure CmpOk (g : Nat) (cf : S45 → S45 → Int) : Prop where
  ord : Ord3 cf
  calls : ∀ (u v : S45) (W : World),Calls Try.prog g #[.agg #[.string u.f0,.string u.f1,.int .i64 u.f2,.int .i64 u.f3],.agg #[.string v.f0,.string v.f1,.int .i64 v.f2,.int .i64 v.f3]] W fun e w' => e = .returned (.int .i64 (cf u v)) ∧ Below W.heap.size W w'
theorem RowAt.below {w w' : World} {blk : Nat} {L : List El} (h : RowAt w blk L) (hb : Below w.heap.size w w') : RowAt w' blk L := by
  obtain ⟨cells,hc,_⟩ := h.out
  exact h.heap (hb.block blk (blk_lt hc))
theorem RowAt.lt {w : World} {blk : Nat} {L : List El} (h : RowAt w blk L) : blk < w.heap.size := by
  obtain ⟨cells,hc,_⟩ := h.out
  exact blk_lt hc
theorem only_belowT {a w w' : World} {g : Nat} (h : a.grownBy w (some g)) (hb : Below w.heap.size w w') : a.grownBy w' (some g) :=
  only_trans h ⟨hb.os,hb.tape,hb.output,hb.size,fun i hi _ => hb.block i hi⟩
structure SameX (w w' : World) : Prop where
  heap : w'.heap = w.heap
  os : w'.os = w.os
  tape : w'.tape = w.tape
  output : w'.output = w.output
theorem sameW_next {w1 W w2 : World} (hb : Below W.heap.size W w2) (e : SameX w1 W := by exact ⟨rfl,rfl,rfl,rfl⟩) : Below w1.heap.size w1 w2 :=
  ⟨hb.os.trans e.os,hb.tape.trans e.tape,hb.output.trans e.output,by rw [← e.heap];exact hb.size,fun k hk => by rw [hb.block k (by rw [e.heap];exact hk),e.heap]⟩
set_option maxHeartbeats 8000000 in
set_option maxRecDepth 100000 in
theorem insertion (cf : S45 → S45 → Int) (hC : CmpOk 74 cf) (blk cap a b n : Nat) (P X S L : List El) (w : World) (h : RowAt w blk L) (hlen : L.length = n) (hn : n ≤ 1000000) (eL : L = P ++ X ++ S) (hP : P.length = a) (hX : a + X.length = b) (hne : X ≠ []) (ht : Tags X) :
    Calls Try.prog 114 #[.slice (some ⟨blk,0,none⟩) n cap,.int .i64 a,.int .i64 b,.func (.func 74) #[] #[]] w fun e w' => e = .returned (.tuple #[]) ∧ (∃ C,RowAt w' blk (P ++ C ++ S) ∧ C.Perm X ∧ Sorted cf C) ∧ w.grownBy w' (some blk) := by
  have H := Aside0.mk h
  have HG := Aside0.mk (only_refl w blk)
  have HO := Aside0.mk (show InsO cf P X S (a + 1) L by rw [eL,← hP];exact InsO.start hne)
  have HP := Aside0.mk hP
  have HX := Aside0.mk hX
  have HT := Aside0.mk ht
  have HL := Aside0.mk hlen
  have hab : a + 1 ≤ b := by have := List.length_pos_iff.2 hne;omega
  have hbn : b ≤ n := by rw [eL] at hlen;simp at hlen;omega
  clear h eL hP hX hne ht hlen
  go_enter Try.func114,Try.ntmps114
  go_wp2
  go_loopw [8] (fun iv wr => ∃ (i : Nat) (Lk : List El),iv = .int .i64 (i : Int) ∧ a + 1 ≤ i ∧ i ≤ b ∧ Aside0 (InsO cf P X S i Lk) ∧ Aside0 (Lk.length = n) ∧ Aside0 (RowAt wr blk Lk) ∧ Aside0 (w.grownBy wr (some blk))) (fun iv _ => b - (intOf iv).toNat)
  case atStart => exact ⟨a + 1,L,by go_num,Nat.le_refl _,hab,HO,HL,H,HG⟩
  case round =>
    clear H HG HO HL
    obtain ⟨i,Lk,rfl,hai,hib,HO,HL,H,HG⟩ := hrel
    by_cases hlt : i < b
    · have HI := Aside0.mk (HO.out.enter (by have := HP.out;have := HX.out;omega))
      clear HO
      go_wp2
      obtain ⟨wo,rfl⟩ : ∃ wo : World,wo = wr := ⟨_,rfl⟩
      go_loopw [9] (fun jv wq => ∃ (j : Nat) (Lj : List El),jv = .int .i64 (j : Int) ∧ a ≤ j ∧ j ≤ i ∧ Aside0 (InsI cf P X S i j Lj) ∧ Aside0 (Lj.length = n) ∧ Aside0 (RowAt wq blk Lj) ∧ Aside0 (w.grownBy wq (some blk))) (fun jv _ => (intOf jv).toNat)
      case atStart => exact ⟨i,Lk,rfl,by omega,Nat.le_refl _,HI,HL,H,HG⟩
      case round =>
        clear HI HL H HG
        obtain ⟨j,Lj,rfl,haj,hji,HI,HL,H,HG⟩ := hrel
        by_cases hja : a < j
        · obtain ⟨jp,rfl⟩ : ∃ jp,j = jp + 1 := ⟨j - 1,by omega⟩
          have lj : jp + 1 < n := by have := HI.out.len;have := HL.out;omega
          obtain ⟨x0,x1,x2,x3,z,hbl⟩ := H.out.cell (i := jp + 1) (by have := HL.out;omega)
          obtain ⟨y0,y1,y2,y3,_,_⟩ := H.out.cell (i := jp) (by have := HL.out;omega)
          have QQ : Aside0 (jp + 1 < Lj.length ∧ jp < Lj.length) := ⟨by have := HL.out;omega⟩
          have SJ := Aside0.mk (fun hc => HI.out.swap hC.ord HT.out (by have := HP.out;omega) (show cf (atL Lj (jp + 1)).1 (atL Lj jp).1 < 0 from hc))
          have SO := Aside0.mk (fun hc => HI.out.stop hC.ord HT.out (.inr (show ¬ cf (atL Lj (jp + 1)).1 (atL Lj (jp + 1 - 1)).1 < 0 from hc)))
          rw [Nat.add_sub_cancel] at SO
          generalize hx : atL Lj (jp + 1) = ex at *
          generalize hy : atL Lj jp = ey at *
          have HXE := Aside0.mk hx
          have HYE := Aside0.mk hy
          clear hx hy
          have b0 : decide ((a : Int) < (jp : Int) + 1) = true := decide_eq_true (by omega)
          have b0' : (a : Int) < (jp : Int) + 1 := by omega
          have BL := Aside0.mk hbl
          clear hbl
          have hwp : IntKind.i64.wrap (jp : Int) = (jp : Int) := by rw [IntKind.wrap_i64];omega
          have jz : (jp : Int) + 1 < (n : Int) := by omega
          have jz1 : (jp : Int) < (n : Int) := by omega
          have p0 : (0 : Int) ≤ (jp : Int) + 1 := by omega
          have p1 : (0 : Int) ≤ (jp : Int) := by omega
          have e0 : ((jp : Int) + 1).toNat = jp + 1 := by omega
          by_cases hc : cf ex.1 ey.1 < 0
          · have c0 : decide (cf ex.1 ey.1 < 0) = true := decide_eq_true hc
            have SJ2 := Aside0.mk (SJ.out hc)
            clear SJ SO hc
            go_wp2_with (fail)
            go_region_held3 (fun w' => w'.cell? ⟨blk,(jp + 1) * 4,none⟩ = some (.string ex.1.f0) ∧ w'.cell? ⟨blk,(jp + 1) * 4 + 1,none⟩ = some (.string ex.1.f1) ∧ w'.cell? ⟨blk,(jp + 1) * 4 + 2,none⟩ = some (.int .i64 ex.1.f2) ∧ w'.cell? ⟨blk,(jp + 1) * 4 + 3,none⟩ = some (.int .i64 ex.1.f3) ∧ w'.cell? ⟨blk,jp * 4,none⟩ = some (.string ey.1.f0) ∧ w'.cell? ⟨blk,jp * 4 + 1,none⟩ = some (.string ey.1.f1) ∧ w'.cell? ⟨blk,jp * 4 + 2,none⟩ = some (.int .i64 ey.1.f2) ∧ w'.cell? ⟨blk,jp * 4 + 3,none⟩ = some (.int .i64 ey.1.f3)) (first | go_keep | exact ⟨by assumption,by assumption,by assumption,by assumption,by assumption,by assumption,by assumption,by assumption⟩) (first | (go_at_call 74;refine (hC.calls ex.1 ey.1 _).mono ?_;rintro e w2 ⟨rfl,hb2⟩;have N2 := Aside0.mk (sameW_next (w1 := wr) hb2);clear hb2;have u0 := (N2.out.cell (p := ⟨blk,(jp + 1) * 4,none⟩) BL.out).trans x0;have u1 := (N2.out.cell (p := ⟨blk,(jp + 1) * 4 + 1,none⟩) BL.out).trans x1;have u2 := (N2.out.cell (p := ⟨blk,(jp + 1) * 4 + 2,none⟩) BL.out).trans x2;have u3 := (N2.out.cell (p := ⟨blk,(jp + 1) * 4 + 3,none⟩) BL.out).trans x3;have v0 := (N2.out.cell (p := ⟨blk,jp * 4,none⟩) BL.out).trans y0;have v1 := (N2.out.cell (p := ⟨blk,jp * 4 + 1,none⟩) BL.out).trans y1;have v2 := (N2.out.cell (p := ⟨blk,jp * 4 + 2,none⟩) BL.out).trans y2;have v3 := (N2.out.cell (p := ⟨blk,jp * 4 + 3,none⟩) BL.out).trans y3))
            have R2 := H.out.below N2.out
            have SW := R2.swap QQ.out.1 QQ.out.2
            rw [HXE.out,HYE.out] at SW
            have R1 : Aside0 (RowAt (put4 (put4 w2 blk (jp + 1) ey.1) blk jp ex.1) blk (swp Lj (jp + 1) jp)) := ⟨SW⟩
            have z2 := (R2.cell QQ.out.2).2.2.2.2.1
            have G1 := Aside0.mk (only_put4 (i := jp) (u := ex.1) (only_put4 (i := jp + 1) (u := ey.1) (only_belowT HG.out N2.out)))
            have L1 := Aside0.mk ((swp_len Lj (jp + 1) jp).trans HL.out)
            clear R2 SW x0 x1 x2 x3 y0 y1 y2 y3 z H HG HI HL N2 HXE HYE QQ BL
            go_wp2_with (fail)
            go_region
            have R2 := R1.out.drew
            have G2 := only_drew G1.out
            unfold put4 at R2 G2
            have R3 := Aside0.mk R2
            have G3 := Aside0.mk G2
            clear R1 G1 R2 G2 u0 u1 u2 u3 v0 v1 v2 v3 z2
            go_wp2
            go_roundw
            case rel => exact ⟨jp,_,rfl,by omega,by omega,SJ2,L1,R3,G3⟩
            case measure => simp [intOf] <;> omega
          · have c0 : decide (cf ex.1 ey.1 < 0) = false := decide_eq_false hc
            have SO2 := Aside0.mk (SO.out hc)
            clear SJ SO hc
            go_wp2_with (fail)
            go_region_held3 (fun w' => w'.cell? ⟨blk,(jp + 1) * 4,none⟩ = some (.string ex.1.f0) ∧ w'.cell? ⟨blk,(jp + 1) * 4 + 1,none⟩ = some (.string ex.1.f1) ∧ w'.cell? ⟨blk,(jp + 1) * 4 + 2,none⟩ = some (.int .i64 ex.1.f2) ∧ w'.cell? ⟨blk,(jp + 1) * 4 + 3,none⟩ = some (.int .i64 ex.1.f3) ∧ w'.cell? ⟨blk,jp * 4,none⟩ = some (.string ey.1.f0) ∧ w'.cell? ⟨blk,jp * 4 + 1,none⟩ = some (.string ey.1.f1) ∧ w'.cell? ⟨blk,jp * 4 + 2,none⟩ = some (.int .i64 ey.1.f2) ∧ w'.cell? ⟨blk,jp * 4 + 3,none⟩ = some (.int .i64 ey.1.f3)) (first | go_keep | exact ⟨by assumption,by assumption,by assumption,by assumption,by assumption,by assumption,by assumption,by assumption⟩) (first | (go_at_call 74;refine (hC.calls ex.1 ey.1 _).mono ?_;rintro e w2 ⟨rfl,hb2⟩;have N2 := Aside0.mk (sameW_next (w1 := wr) hb2);clear hb2;have u0 := (N2.out.cell (p := ⟨blk,(jp + 1) * 4,none⟩) BL.out).trans x0;have u1 := (N2.out.cell (p := ⟨blk,(jp + 1) * 4 + 1,none⟩) BL.out).trans x1;have u2 := (N2.out.cell (p := ⟨blk,(jp + 1) * 4 + 2,none⟩) BL.out).trans x2;have u3 := (N2.out.cell (p := ⟨blk,(jp + 1) * 4 + 3,none⟩) BL.out).trans x3;have v0 := (N2.out.cell (p := ⟨blk,jp * 4,none⟩) BL.out).trans y0;have v1 := (N2.out.cell (p := ⟨blk,jp * 4 + 1,none⟩) BL.out).trans y1;have v2 := (N2.out.cell (p := ⟨blk,jp * 4 + 2,none⟩) BL.out).trans y2;have v3 := (N2.out.cell (p := ⟨blk,jp * 4 + 3,none⟩) BL.out).trans y3))
            have R2 := Aside0.mk (H.out.below N2.out)
            have G1 := Aside0.mk (only_belowT HG.out N2.out)
            clear x0 x1 x2 x3 y0 y1 y2 y3 z H HG HI N2 HXE HYE QQ BL u0 u1 u2 u3 v0 v1 v2 v3
            go_wp2
            go_roundw
            case rel => exact ⟨i + 1,Lj,by go_num,by omega,by omega,SO2,HL,R2,G1⟩
            case measure => simp [intOf];omega
        · have hjae : j = a := by omega
          subst hjae
          have SO2 := Aside0.mk (HI.out.stop hC.ord HT.out (.inl HP.out.symm))
          have b0 : decide ((j : Int) < (j : Int)) = false := decide_eq_false (by omega)
          go_wp2_with (fail)
          go_quiet (fail)
          go_wp2
          go_roundw
          case rel => exact ⟨i + 1,Lj,by go_num,by omega,by omega,SO2,HL,⟨H.out.heap rfl⟩,⟨only_drewN HG.out _⟩⟩
          case measure => simp [intOf];omega
    · have hbi : b ≤ i := by omega
      have HF := Aside0.mk (HO.out.final (by have := HP.out;have := HX.out;omega))
      go_wp2
      go_end0
      obtain ⟨C,hCe,hC1,hC2⟩ := HF.out
      exact ⟨rfl,⟨C,by rw [← hCe];exact H.out,hC1,hC2⟩,HG.out⟩
end Go.Proofs.Ytcenlehfbgnphaa.Z
end
section
namespace Go.Proofs.Ytcenlehfbgnphaa.Z
set_option linter.unusedVariables false
set_option linter.unusedSimpArgs false
set_option linter.unnecessarySimpa false
structure Srch (pred : Nat → Prop) (lo hi i j : Nat) : Prop where
  h1 : lo ≤ i
  h2 : i ≤ j
  h3 : j ≤ hi
  yes : ∀ h,lo ≤ h → h < i → pred h
  no : ∀ h,j ≤ h → h < hi → ¬ pred h
theorem Srch.start {pred : Nat → Prop} {lo hi : Nat} (h : lo ≤ hi) : Srch pred lo hi lo hi := ⟨Nat.le_refl _,h,Nat.le_refl _,fun _ _ _ => by omega,fun _ _ _ => by omega⟩
theorem Srch.up {pred : Nat → Prop} {lo hi i j c : Nat} (h : Srch pred lo hi i j) (mono : ∀ h h',lo ≤ h' → h' ≤ h → h < hi → pred h → pred h') (hi1 : i ≤ c) (hj : c < j) (hp : pred c) : Srch pred lo hi (c + 1) j :=
  ⟨by have := h.h1;omega,by omega,h.h3,fun q q1 q2 => mono c q q1 (by omega) (by have := h.h3;omega) hp,h.no⟩
theorem Srch.down {pred : Nat → Prop} {lo hi i j c : Nat} (h : Srch pred lo hi i j) (mono : ∀ h h',lo ≤ h' → h' ≤ h → h < hi → pred h → pred h') (hi1 : i ≤ c) (hj : c < j) (hp : ¬ pred c) : Srch pred lo hi i c :=
  ⟨h.h1,hi1,by have := h.h3;omega,h.yes,fun q q1 q2 hq => hp (mono q c (by have := h.h1;omega) q1 q2 hq)⟩
theorem atL_seg {P A S : List El} {i : Nat} (h1 : P.length ≤ i) (h2 : i < P.length + A.length) : atL (P ++ A ++ S) i ∈ A ∧ atL (P ++ A ++ S) i = atL A (i - P.length) := by
  obtain ⟨k,rfl⟩ : ∃ k,i = P.length + k := ⟨i - P.length,by omega⟩
  rw [List.append_assoc,atL_app,Nat.add_sub_cancel_left]
  have hk : k < A.length := by omega
  have e : atL (A ++ S) k = A[k] := by
    unfold atL
    rw [List.getD_eq_getElem?_getD,List.getElem?_append_left hk,List.getElem?_eq_getElem hk]
    rfl
  have e2 : atL A k = A[k] := by
    unfold atL
    rw [List.getD_eq_getElem?_getD,List.getElem?_eq_getElem hk]
    rfl
  rw [e,e2]
  exact ⟨List.getElem_mem hk,rfl⟩
theorem sorted_at {cf : S45 → S45 → Int} {P A S : List El} (h : Sorted cf A) {i j : Nat} (h1 : P.length ≤ i) (hij : i < j) (h2 : j < P.length + A.length) : Lx cf (atL (P ++ A ++ S) i) (atL (P ++ A ++ S) j) := by
  rw [(atL_seg (S := S) h1 (by omega)).2,(atL_seg (S := S) (show P.length ≤ j by omega) h2).2]
  have e (k : Nat) (hk : k < A.length) : atL A k = A[k] := by
    unfold atL
    rw [List.getD_eq_getElem?_getD,List.getElem?_eq_getElem hk]
    rfl
  rw [e _ (by omega),e _ (by omega)]
  exact List.pairwise_iff_getElem.1 h _ _ _ _ (by omega)
structure Two (cf : S45 → S45 → Int) (P A B S : List El) : Prop where
  ord : Ord3 cf
  sa : Sorted cf A
  sb : Sorted cf B
  tags : ∀ x ∈ A,∀ y ∈ B,x.2 < y.2
theorem Two.atA {cf : S45 → S45 → Int} {P A B S : List El} {i : Nat} (h1 : P.length ≤ i) (h2 : i < P.length + A.length) : atL (P ++ A ++ B ++ S) i ∈ A := by
  have := (atL_seg (P := P) (A := A) (S := B ++ S) h1 h2).1
  simpa using this
theorem Two.atB {cf : S45 → S45 → Int} {P A B S : List El} {i : Nat} (h1 : P.length + A.length ≤ i) (h2 : i < P.length + A.length + B.length) : atL (P ++ A ++ B ++ S) i ∈ B := by
  have := (atL_seg (P := P ++ A) (A := B) (S := S) (by simpa using h1) (by simpa using h2)).1
  simpa using this
theorem Two.ltA {cf : S45 → S45 → Int} {P A B S : List El} (t : Two cf P A B S) {i j : Nat} (h1 : P.length ≤ i) (hij : i < j) (h2 : j < P.length + A.length) : Lx cf (atL (P ++ A ++ B ++ S) i) (atL (P ++ A ++ B ++ S) j) := by
  have := sorted_at (P := P) (A := A) (S := B ++ S) t.sa h1 hij h2
  simpa using this
theorem Two.ltB {cf : S45 → S45 → Int} {P A B S : List El} (t : Two cf P A B S) {i j : Nat} (h1 : P.length + A.length ≤ i) (hij : i < j) (h2 : j < P.length + A.length + B.length) : Lx cf (atL (P ++ A ++ B ++ S) i) (atL (P ++ A ++ B ++ S) j) := by
  have := sorted_at (P := P ++ A) (A := B) (S := S) t.sb (by simpa using h1) hij (by simpa using h2)
  simpa using this
theorem Two.cross {cf : S45 → S45 → Int} {P A B S : List El} (t : Two cf P A B S) {i j : Nat} (h1 : P.length ≤ i) (h2 : i < P.length + A.length) (h3 : P.length + A.length ≤ j) (h4 : j < P.length + A.length + B.length) :
    (cf (atL (P ++ A ++ B ++ S) j).1 (atL (P ++ A ++ B ++ S) i).1 < 0 ↔ Lx cf (atL (P ++ A ++ B ++ S) j) (atL (P ++ A ++ B ++ S) i)) ∧ (¬ cf (atL (P ++ A ++ B ++ S) j).1 (atL (P ++ A ++ B ++ S) i).1 < 0 ↔ Lx cf (atL (P ++ A ++ B ++ S) i) (atL (P ++ A ++ B ++ S) j)) :=
  Lx.total t.ord (t.tags _ (Two.atA (cf := cf) h1 h2) _ (Two.atB (cf := cf) h3 h4))
theorem Two.mono1 {cf : S45 → S45 → Int} {P A B S : List El} (t : Two cf P A B S) (hA : 0 < A.length) : ∀ h h',P.length + A.length ≤ h' → h' ≤ h → h < P.length + A.length + B.length → cf (atL (P ++ A ++ B ++ S) h).1 (atL (P ++ A ++ B ++ S) P.length).1 < 0 → cf (atL (P ++ A ++ B ++ S) h').1 (atL (P ++ A ++ B ++ S) P.length).1 < 0 := by
  intro h h' g1 g2 g3 hp
  rcases Nat.lt_or_ge h' h with c | c
  · have c1 := (t.cross (i := P.length) (j := h) (Nat.le_refl _) (by omega) (by omega) g3).1.1 hp
    have c2 := t.ltB g1 c g3
    exact (t.cross (i := P.length) (j := h') (Nat.le_refl _) (by omega) (by omega) (by omega)).1.2 (c2.trans t.ord c1)
  · rwa [show h' = h by omega]
theorem Two.mono2 {cf : S45 → S45 → Int} {P A B S : List El} (t : Two cf P A B S) (hB : 0 < B.length) : ∀ h h',P.length ≤ h' → h' ≤ h → h < P.length + A.length → ¬ cf (atL (P ++ A ++ B ++ S) (P.length + A.length)).1 (atL (P ++ A ++ B ++ S) h).1 < 0 → ¬ cf (atL (P ++ A ++ B ++ S) (P.length + A.length)).1 (atL (P ++ A ++ B ++ S) h').1 < 0 := by
  intro h h' g1 g2 g3 hp
  rcases Nat.lt_or_ge h' h with c | c
  · have c1 := (t.cross (i := h) (j := P.length + A.length) (by omega) g3 (Nat.le_refl _) (by omega)).2.1 hp
    have c2 := t.ltA g1 c g3
    exact (t.cross (i := h') (j := P.length + A.length) g1 (by omega) (Nat.le_refl _) (by omega)).2.2 (c2.trans t.ord c1)
  · rwa [show h' = h by omega]
theorem Two.mono3 {cf : S45 → S45 → Int} {P A B S : List El} (t : Two cf P A B S) (lo hi p : Nat) (h1 : P.length ≤ lo) (h2 : hi ≤ P.length + A.length) (h3 : ∀ c,lo ≤ c → c < hi → c ≤ p ∧ P.length + A.length ≤ p - c ∧ p - c < P.length + A.length + B.length) : ∀ h h',lo ≤ h' → h' ≤ h → h < hi → ¬ cf (atL (P ++ A ++ B ++ S) (p - h)).1 (atL (P ++ A ++ B ++ S) h).1 < 0 → ¬ cf (atL (P ++ A ++ B ++ S) (p - h')).1 (atL (P ++ A ++ B ++ S) h').1 < 0 := by
  intro h h' g1 g2 g3 hp
  obtain ⟨a1,a2,a3⟩ := h3 h (by omega) g3
  obtain ⟨b1,b2,b3⟩ := h3 h' g1 (by omega)
  rcases Nat.lt_or_ge h' h with c | c
  · have c1 := (t.cross (i := h) (j := p - h) (by omega) (by omega) a2 a3).2.1 hp
    have c2 := t.ltA (i := h') (j := h) (by omega) c (by omega)
    have c3 := t.ltB (i := p - h) (j := p - h') a2 (by omega) b3
    exact (t.cross (i := h') (j := p - h') (by omega) (by omega) b2 b3).2.2 ((c2.trans t.ord c1).trans t.ord c3)
  · rwa [show h' = h by omega]
end Go.Proofs.Ytcenlehfbgnphaa.Z
end
section
namespace Go.Proofs.Ytcenlehfbgnphaa.Z
set_option linter.unusedVariables false
set_option linter.unusedSimpArgs false
set_option linter.unnecessarySimpa false
structure GoR (P : List El) (x : El) (B1 T : List El) (k : Nat) (L : List El) : Prop where
  out : ∃ U V,L = P ++ U ++ x :: (V ++ T) ∧ B1 = U ++ V ∧ P.length + U.length = k
theorem GoR.step {P : List El} {x : El} {B1 T L : List El} {k : Nat} (h : GoR P x B1 T k L) (hk : k < P.length + B1.length) : GoR P x B1 T (k + 1) (swp L k (k + 1)) := by
  obtain ⟨U,V,rfl,rfl,h3⟩ := h.out
  cases V with
  | nil => simp at hk;omega
  | cons v V =>
    have hs := swp_split (P ++ U) [] (V ++ T) x v
    have e : (P ++ U).length = k := by simp;omega
    rw [e] at hs
    rw [show k + (([] : List El).length + 1) = k + 1 by rfl] at hs
    refine ⟨U ++ [v],V,?_,by simp,by simp;omega⟩
    rw [List.nil_append] at hs
    rw [show P ++ U ++ x :: (v :: V ++ T) = P ++ U ++ x :: v :: (V ++ T) by simp,hs]
    simp
theorem GoR.done {P : List El} {x : El} {B1 T L : List El} {k : Nat} (h : GoR P x B1 T k L) (hk : P.length + B1.length ≤ k) : L = P ++ B1 ++ x :: T := by
  obtain ⟨U,V,rfl,rfl,h3⟩ := h.out
  have : V = [] := List.length_eq_zero_iff.1 (by simp at hk;omega)
  subst this
  simp
structure GoL (P : List El) (y : El) (A2 T : List El) (k : Nat) (L : List El) : Prop where
  out : ∃ U V,L = P ++ U ++ y :: (V ++ T) ∧ A2 = U ++ V ∧ P.length + U.length = k
theorem GoL.step {P : List El} {y : El} {A2 T L : List El} {k : Nat} (h : GoL P y A2 T (k + 1) L) (hk : P.length < k + 1) : GoL P y A2 T k (swp L (k + 1) k) := by
  obtain ⟨U,V,rfl,rfl,h3⟩ := h.out
  rcases List.eq_nil_or_concat U with rfl | ⟨U0,u,rfl⟩
  · simp at h3;omega
  rw [List.concat_eq_append] at *
  have hs := swp_split (P ++ U0) [] (V ++ T) u y
  have e : (P ++ U0).length = k := by simp at h3 ⊢;omega
  rw [e] at hs
  rw [show k + (([] : List El).length + 1) = k + 1 by rfl] at hs
  rw [List.nil_append] at hs
  refine ⟨U0,u :: V,?_,by simp,by simp at h3;omega⟩
  rw [swp_comm _ (by omega),show P ++ (U0 ++ [u]) ++ y :: (V ++ T) = P ++ U0 ++ u :: y :: (V ++ T) by simp,hs]
  simp
theorem GoL.done {P : List El} {y : El} {A2 T L : List El} {k : Nat} (h : GoL P y A2 T k L) (hk : k ≤ P.length) : L = P ++ y :: (A2 ++ T) := by
  obtain ⟨U,V,rfl,rfl,h3⟩ := h.out
  have : U = [] := List.length_eq_zero_iff.1 (by omega)
  subst this
  simp
theorem sorted_three {cf : S45 → S45 → Int} {U V : List El} {x : El} (h : Sorted cf (U ++ V)) (h1 : ∀ u ∈ U,Lx cf u x) (h2 : ∀ v ∈ V,Lx cf x v) : Sorted cf (U ++ x :: V) := by
  unfold Sorted at *
  rw [List.pairwise_append] at h ⊢
  refine ⟨h.1,List.pairwise_cons.2 ⟨h2,h.2.1⟩,fun u hu v hv => ?_⟩
  rcases List.mem_cons.1 hv with rfl | hv
  · exact h1 u hu
  · exact h.2.2 u hu v hv
theorem atL_of_mem {A : List El} {x : El} (h : x ∈ A) : ∃ k,k < A.length ∧ atL A k = x := by
  obtain ⟨k,hk,rfl⟩ := List.getElem_of_mem h
  refine ⟨k,hk,?_⟩
  unfold atL
  rw [List.getD_eq_getElem?_getD,List.getElem?_eq_getElem hk]
  rfl
theorem atL_pre (P A S : List El) (k : Nat) (hk : k < A.length) : atL (P ++ A ++ S) (P.length + k) = atL A k := by
  have := (atL_seg (P := P) (A := A) (S := S) (i := P.length + k) (by omega) (by omega)).2
  rwa [Nat.add_sub_cancel_left] at this
theorem Two.cut1 {cf : S45 → S45 → Int} {P B S : List El} {x : El} (t : Two cf P [x] B S) {i : Nat} (h : Srch (fun h => cf (atL (P ++ [x] ++ B ++ S) h).1 (atL (P ++ [x] ++ B ++ S) P.length).1 < 0) (P.length + 1) (P.length + 1 + B.length) i i) :
    ∃ B1 B2,B = B1 ++ B2 ∧ P.length + 1 + B1.length = i ∧ Sorted cf (B1 ++ x :: B2) ∧ (B1 ++ x :: B2).Perm ([x] ++ B) ∧ GoR P x B1 (B2 ++ S) P.length (P ++ [x] ++ B ++ S) := by
  have g1 := h.h1
  have g3 := h.h3
  have l1 : (B.take (i - (P.length + 1))).length = i - (P.length + 1) := by simp;omega
  have e : B = B.take (i - (P.length + 1)) ++ B.drop (i - (P.length + 1)) := (List.take_append_drop _ B).symm
  generalize B.take (i - (P.length + 1)) = B1 at *
  generalize B.drop (i - (P.length + 1)) = B2 at *
  subst e
  refine ⟨B1,B2,rfl,by omega,sorted_three t.sb ?_ ?_,?_,⟨[],B1,by simp,by simp,by simp⟩⟩
  · intro u hu
    obtain ⟨k,hk,rfl⟩ := atL_of_mem hu
    have hp := h.yes (P.length + 1 + k) (by omega) (by omega)
    have hc := (t.cross (i := P.length) (j := P.length + 1 + k) (Nat.le_refl _) (by simp) (by simp <;> omega) (by simp <;> omega)).1.1 hp
    have e1 : atL (P ++ [x] ++ (B1 ++ B2) ++ S) (P.length + 1 + k) = atL B1 k := by
      have := atL_pre (P ++ [x]) B1 (B2 ++ S) k hk
      simpa using this
    have e2 : atL (P ++ [x] ++ (B1 ++ B2) ++ S) P.length = x := by
      have := atL_mid P (B1 ++ B2 ++ S) x
      simpa using this
    rwa [e1,e2] at hc
  · intro v hv
    obtain ⟨k,hk,rfl⟩ := atL_of_mem hv
    have hp := h.no (P.length + 1 + B1.length + k) (by omega) (by simp;omega)
    have hc := (t.cross (i := P.length) (j := P.length + 1 + B1.length + k) (Nat.le_refl _) (by simp) (by simp <;> omega) (by simp <;> omega)).2.1 hp
    have e1 : atL (P ++ [x] ++ (B1 ++ B2) ++ S) (P.length + 1 + B1.length + k) = atL B2 k := by
      have := atL_pre (P ++ [x] ++ B1) B2 S k hk
      rw [show (P ++ [x] ++ B1).length = P.length + 1 + B1.length by simp;omega] at this
      rw [show P ++ [x] ++ (B1 ++ B2) ++ S = P ++ [x] ++ B1 ++ B2 ++ S by simp]
      exact this
    have e2 : atL (P ++ [x] ++ (B1 ++ B2) ++ S) P.length = x := by
      have := atL_mid P (B1 ++ B2 ++ S) x
      simpa using this
    rwa [e1,e2] at hc
  · exact List.perm_middle
theorem Two.cut2 {cf : S45 → S45 → Int} {P A S : List El} {y : El} (t : Two cf P A [y] S) {i : Nat} (h : Srch (fun h => ¬ cf (atL (P ++ A ++ [y] ++ S) (P.length + A.length)).1 (atL (P ++ A ++ [y] ++ S) h).1 < 0) P.length (P.length + A.length) i i) :
    ∃ A1 A2,A = A1 ++ A2 ∧ P.length + A1.length = i ∧ Sorted cf (A1 ++ y :: A2) ∧ (A1 ++ y :: A2).Perm (A ++ [y]) ∧ GoL (P ++ A1) y A2 S (P.length + A.length) (P ++ A ++ [y] ++ S) := by
  have g1 := h.h1
  have g3 := h.h3
  have l1 : (A.take (i - P.length)).length = i - P.length := by simp;omega
  have e : A = A.take (i - P.length) ++ A.drop (i - P.length) := (List.take_append_drop _ A).symm
  generalize A.take (i - P.length) = A1 at *
  generalize A.drop (i - P.length) = A2 at *
  subst e
  have e2 : atL (P ++ (A1 ++ A2) ++ [y] ++ S) (P.length + (A1 ++ A2).length) = y := by
    have := atL_mid (P ++ (A1 ++ A2)) S y
    simpa using this
  refine ⟨A1,A2,rfl,by omega,sorted_three t.sa ?_ ?_,?_,⟨A2,[],by simp,by simp,by simp;omega⟩⟩
  · intro u hu
    obtain ⟨k,hk,rfl⟩ := atL_of_mem hu
    have hp := h.yes (P.length + k) (by omega) (by omega)
    have hc := (t.cross (i := P.length + k) (j := P.length + (A1 ++ A2).length) (by omega) (by simp;omega) (Nat.le_refl _) (by simp)).2.1 hp
    have e1 : atL (P ++ (A1 ++ A2) ++ [y] ++ S) (P.length + k) = atL A1 k := by
      have := atL_pre P A1 (A2 ++ [y] ++ S) k hk
      simpa using this
    rwa [e1,e2] at hc
  · intro v hv
    obtain ⟨k,hk,rfl⟩ := atL_of_mem hv
    have hp := h.no (P.length + A1.length + k) (by omega) (by simp;omega)
    rw [Decidable.not_not] at hp
    have hc := (t.cross (i := P.length + A1.length + k) (j := P.length + (A1 ++ A2).length) (by omega) (by simp;omega) (Nat.le_refl _) (by simp)).1.1 hp
    have e1 : atL (P ++ (A1 ++ A2) ++ [y] ++ S) (P.length + A1.length + k) = atL A2 k := by
      have := atL_pre (P ++ A1) A2 ([y] ++ S) k hk
      simpa using this
    rwa [e1,e2] at hc
  · refine List.perm_middle.trans ?_
    exact List.perm_append_comm (l₁ := [y])
end Go.Proofs.Ytcenlehfbgnphaa.Z
end
section
namespace Go.Proofs.Ytcenlehfbgnphaa.Z
set_option linter.unusedVariables false
set_option linter.unusedSimpArgs false
open Go.RowKit Go.Proofs.YtcenlehfbgnphaaW.PrintWords Go.Proofs.YtcenlehfbgnphaaW.PrintLast Go.Proofs.YtcenlehfbgnphaaW.PrintMore
def Merged (cf : S45 → S45 → Int) (P A B S : List El) (blk : Nat) (w : World) (e : Ending) (w' : World) : Prop := e = .returned (.tuple #[]) ∧ (∃ C,RowAt w' blk (P ++ C ++ S) ∧ C.Perm (A ++ B) ∧ Sorted cf C) ∧ w.grownBy w' (some blk)
set_option maxHeartbeats 8000000 in
set_option maxRecDepth 100000 in
theorem merge1 (cf : S45 → S45 → Int) (hC : CmpOk 74 cf) (blk cap a m b n : Nat) (P B S L : List El) (x : El) (w : World) (h : RowAt w blk L) (hlen : L.length = n) (hn : n ≤ 1000000) (t : Two cf P [x] B S) (eL : L = P ++ [x] ++ B ++ S) (hP : P.length = a) (hm : m = a + 1) (hb : m + B.length = b) (hbn : b ≤ n) :
    Calls Try.prog 115 #[.slice (some ⟨blk,0,none⟩) n cap,.int .i64 a,.int .i64 m,.int .i64 b,.func (.func 74) #[] #[]] w (Merged cf P [x] B S blk w) := by
  have H := Aside0.mk h
  have HG := Aside0.mk (only_refl w blk)
  have HL := Aside0.mk hlen
  have TT := Aside0.mk t
  have EL := Aside0.mk eL
  have HP := Aside0.mk hP
  have HB := Aside0.mk hb
  have hab : m ≤ b := by omega
  have HS := Aside0.mk (show Srch (fun h => cf (atL L h).1 (atL L a).1 < 0) m b m b from Srch.start hab)
  have MN := Aside0.mk (show ∀ h h',m ≤ h' → h' ≤ h → h < b → cf (atL L h).1 (atL L a).1 < 0 → cf (atL L h').1 (atL L a).1 < 0 by
    have := t.mono1 (by simp)
    rw [eL,← hP]
    intro h h' g1 g2 g3
    exact this h h' (by simp;omega) g2 (by simp;omega))
  clear h t eL hP hlen hb
  have HM := Aside0.mk hm
  have m1 : a + 1 ≤ m := by omega
  have m2 : m ≤ a + 1 := by omega
  have bm : ((m : Int) - (a : Int) == 1) = true := by rw [beq_iff_eq];omega
  clear hm
  go_enter Try.func115,Try.ntmps115
  go_wp2
  go_loopw [10,11] (fun iv jv wr => ∃ i j : Nat,iv = .int .i64 (i : Int) ∧ jv = .int .i64 (j : Int) ∧ i ≤ j ∧ j ≤ b ∧ m ≤ i ∧ Aside0 (Srch (fun h => cf (atL L h).1 (atL L a).1 < 0) m b i j) ∧ Aside0 (RowAt wr blk L) ∧ Aside0 (w.grownBy wr (some blk))) (fun iv jv _ => (intOf jv).toNat - (intOf iv).toNat)
  case atStart => exact ⟨m,b,rfl,rfl,hab,Nat.le_refl _,Nat.le_refl _,HS,H,HG⟩
  case round =>
    clear HS H HG
    obtain ⟨i,j,rfl,rfl,hij,hjb,hai,HS,H,HG⟩ := hrel
    by_cases hlt : i < j
    · go_wp2_with (fail)
      obtain ⟨c,hc⟩ : ∃ c : Nat,((i : Int) + (j : Int)) / 2 = (c : Int) := ⟨(i + j) / 2,by omega⟩
      have hc1 : i ≤ c := by omega
      have hc2 : c < j := by omega
      rw [hc]
      clear hc
      have p0 : (0 : Int) ≤ (c : Int) := by omega
      have p1 : (c : Int) < (n : Int) := by omega
      have p2 : (0 : Int) ≤ (a : Int) := by omega
      have p3 : (a : Int) < (n : Int) := by omega
      obtain ⟨x0,x1,x2,x3,z,hbl⟩ := H.out.cell (i := c) (by have := HL.out;omega)
      obtain ⟨y0,y1,y2,y3,_,_⟩ := H.out.cell (i := a) (by have := HL.out;omega)
      have BL := Aside0.mk hbl
      clear hbl z
      generalize hx : atL L c = ex at x0 x1 x2 x3
      generalize hy : atL L a = ey at y0 y1 y2 y3
      have HXE := Aside0.mk hx
      have HYE := Aside0.mk hy
      clear hx hy
      by_cases hv : cf ex.1 ey.1 < 0
      · have c0 : decide (cf ex.1 ey.1 < 0) = true := decide_eq_true hv
        have SU := Aside0.mk (HS.out.up MN.out hc1 hc2 (show cf (atL L c).1 (atL L a).1 < 0 by rw [HXE.out,HYE.out];exact hv))
        clear hv HXE HYE
        go_region_held3 (fun w' => w'.cell? ⟨blk,c * 4,none⟩ = some (.string ex.1.f0) ∧ w'.cell? ⟨blk,c * 4 + 1,none⟩ = some (.string ex.1.f1) ∧ w'.cell? ⟨blk,c * 4 + 2,none⟩ = some (.int .i64 ex.1.f2) ∧ w'.cell? ⟨blk,c * 4 + 3,none⟩ = some (.int .i64 ex.1.f3) ∧ w'.cell? ⟨blk,a * 4,none⟩ = some (.string ey.1.f0) ∧ w'.cell? ⟨blk,a * 4 + 1,none⟩ = some (.string ey.1.f1) ∧ w'.cell? ⟨blk,a * 4 + 2,none⟩ = some (.int .i64 ey.1.f2) ∧ w'.cell? ⟨blk,a * 4 + 3,none⟩ = some (.int .i64 ey.1.f3)) (first | go_keep | exact ⟨by assumption,by assumption,by assumption,by assumption,by assumption,by assumption,by assumption,by assumption⟩) (first | (go_at_call 74;refine (hC.calls ex.1 ey.1 _).mono ?_;rintro e w2 ⟨rfl,hb2⟩;have N2 := Aside0.mk (sameW_next (w1 := wr) hb2);clear hb2;have u0 := (N2.out.cell (p := ⟨blk,c * 4,none⟩) BL.out).trans x0;have u1 := (N2.out.cell (p := ⟨blk,c * 4 + 1,none⟩) BL.out).trans x1;have u2 := (N2.out.cell (p := ⟨blk,c * 4 + 2,none⟩) BL.out).trans x2;have u3 := (N2.out.cell (p := ⟨blk,c * 4 + 3,none⟩) BL.out).trans x3;have v0 := (N2.out.cell (p := ⟨blk,a * 4,none⟩) BL.out).trans y0;have v1 := (N2.out.cell (p := ⟨blk,a * 4 + 1,none⟩) BL.out).trans y1;have v2 := (N2.out.cell (p := ⟨blk,a * 4 + 2,none⟩) BL.out).trans y2;have v3 := (N2.out.cell (p := ⟨blk,a * 4 + 3,none⟩) BL.out).trans y3))
        have R2 := Aside0.mk (H.out.below N2.out)
        have G1 := Aside0.mk (only_belowT HG.out N2.out)
        clear x0 x1 x2 x3 y0 y1 y2 y3 u0 u1 u2 u3 v0 v1 v2 v3 H HG HS BL N2
        go_wp2
        go_roundw
        case rel => exact ⟨c + 1,j,by go_num,rfl,by omega,hjb,by omega,SU,R2,G1⟩
        case measure => simp [intOf];omega
      · have c0 : decide (cf ex.1 ey.1 < 0) = false := decide_eq_false hv
        have SU := Aside0.mk (HS.out.down MN.out hc1 hc2 (show ¬ cf (atL L c).1 (atL L a).1 < 0 by rw [HXE.out,HYE.out];exact hv))
        clear hv HXE HYE
        go_region_held3 (fun w' => w'.cell? ⟨blk,c * 4,none⟩ = some (.string ex.1.f0) ∧ w'.cell? ⟨blk,c * 4 + 1,none⟩ = some (.string ex.1.f1) ∧ w'.cell? ⟨blk,c * 4 + 2,none⟩ = some (.int .i64 ex.1.f2) ∧ w'.cell? ⟨blk,c * 4 + 3,none⟩ = some (.int .i64 ex.1.f3) ∧ w'.cell? ⟨blk,a * 4,none⟩ = some (.string ey.1.f0) ∧ w'.cell? ⟨blk,a * 4 + 1,none⟩ = some (.string ey.1.f1) ∧ w'.cell? ⟨blk,a * 4 + 2,none⟩ = some (.int .i64 ey.1.f2) ∧ w'.cell? ⟨blk,a * 4 + 3,none⟩ = some (.int .i64 ey.1.f3)) (first | go_keep | exact ⟨by assumption,by assumption,by assumption,by assumption,by assumption,by assumption,by assumption,by assumption⟩) (first | (go_at_call 74;refine (hC.calls ex.1 ey.1 _).mono ?_;rintro e w2 ⟨rfl,hb2⟩;have N2 := Aside0.mk (sameW_next (w1 := wr) hb2);clear hb2;have u0 := (N2.out.cell (p := ⟨blk,c * 4,none⟩) BL.out).trans x0;have u1 := (N2.out.cell (p := ⟨blk,c * 4 + 1,none⟩) BL.out).trans x1;have u2 := (N2.out.cell (p := ⟨blk,c * 4 + 2,none⟩) BL.out).trans x2;have u3 := (N2.out.cell (p := ⟨blk,c * 4 + 3,none⟩) BL.out).trans x3;have v0 := (N2.out.cell (p := ⟨blk,a * 4,none⟩) BL.out).trans y0;have v1 := (N2.out.cell (p := ⟨blk,a * 4 + 1,none⟩) BL.out).trans y1;have v2 := (N2.out.cell (p := ⟨blk,a * 4 + 2,none⟩) BL.out).trans y2;have v3 := (N2.out.cell (p := ⟨blk,a * 4 + 3,none⟩) BL.out).trans y3))
        have R2 := Aside0.mk (H.out.below N2.out)
        have G1 := Aside0.mk (only_belowT HG.out N2.out)
        clear x0 x1 x2 x3 y0 y1 y2 y3 u0 u1 u2 u3 v0 v1 v2 v3 H HG HS BL N2
        go_wp2
        go_roundw
        case rel => exact ⟨i,c,rfl,rfl,by omega,by omega,hai,SU,R2,G1⟩
        case measure => simp [intOf];omega
    · have hije : i = j := by omega
      subst hije
      have HCUT : Aside0 (∃ B1 B2,B = B1 ++ B2 ∧ a + 1 + B1.length = i ∧ Sorted cf (B1 ++ x :: B2) ∧ (B1 ++ x :: B2).Perm ([x] ++ B) ∧ GoR P x B1 (B2 ++ S) a L) := ⟨by
        have e := EL.out
        subst e
        have e2 := HP.out
        subst e2
        exact TT.out.cut1 (by have h1 := HS.out;have h2 := HB.out;have h3 := HM.out;subst h3;rw [← h2] at h1;exact h1)⟩
      obtain ⟨B1,B2,hBB,hB1,hC1,hC2,hGR⟩ := HCUT.out
      have GR := Aside0.mk hGR
      have HF := Aside0.mk (And.intro hC1 hC2)
      have HB1 := Aside0.mk hB1
      clear hBB hB1 hC1 hC2 hGR HCUT HS
      have q0 : a + 1 ≤ i := by omega
      go_wp2
      go_loopw [13] (fun kv wr => ∃ (k : Nat) (L1 : List El),kv = .int .i64 (k : Int) ∧ a ≤ k ∧ k ≤ i ∧ k + 1 ≤ i ∧ Aside0 (GoR P x B1 (B2 ++ S) k L1) ∧ Aside0 (L1.length = n) ∧ Aside0 (RowAt wr blk L1) ∧ Aside0 (w.grownBy wr (some blk))) (fun kv _ => i - (intOf kv).toNat)
      case atStart => exact ⟨a,L,rfl,Nat.le_refl _,by omega,by omega,GR,HL,H,HG⟩
      case round =>
        clear GR H HG
        obtain ⟨k,L1,rfl,hak,hki,hki1,GR,HL1,H,HG⟩ := hrel
        by_cases hk : k + 1 < i
        · have b0 : decide ((k : Int) < (i : Int) - 1) = true := decide_eq_true (by omega)
          have b1 : (k : Int) < (i : Int) - 1 := by omega
          have kn : k + 1 < n := by omega
          have GS := Aside0.mk (GR.out.step (by have := HP.out;have := HB1.out;omega))
          clear GR
          have QQ : Aside0 (k < L1.length ∧ k + 1 < L1.length) := ⟨by have := HL1.out;omega⟩
          obtain ⟨x0,x1,x2,x3,z,_⟩ := H.out.cell QQ.out.1
          obtain ⟨y0,y1,y2,y3,_,_⟩ := H.out.cell QQ.out.2
          have SW := H.out.swap QQ.out.1 QQ.out.2
          generalize atL L1 (k) = ex at *
          generalize atL L1 (k + 1) = ey at *
          have R1 : Aside0 (RowAt (put4 (put4 wr blk (k) ey.1) blk (k + 1) ex.1) blk (swp L1 (k) (k + 1))) := ⟨SW⟩
          have G1 := Aside0.mk (only_put4 (i := k + 1) (u := ex.1) (only_put4 (i := k) (u := ey.1) HG.out))
          have LN := Aside0.mk ((swp_len L1 (k) (k + 1)).trans HL1.out)
          clear SW H HG HL1 QQ
          go_wp2_with (fail)
          go_region
          have R2 := R1.out.drew
          have G2 := only_drew G1.out
          unfold put4 at R2 G2
          have R3 := Aside0.mk R2
          have G3 := Aside0.mk G2
          clear R1 G1 R2 G2 x0 x1 x2 x3 y0 y1 y2 y3 z
          go_wp2
          go_roundw
          case rel => exact ⟨k + 1,_,by go_num,by omega,by omega,by omega,GS,LN,R3,G3⟩
          case measure => simp [intOf];omega
        · have b0 : decide ((k : Int) < (i : Int) - 1) = false := decide_eq_false (by omega)
          have b1 : (i : Int) - 1 ≤ (k : Int) := by omega
          have HD := Aside0.mk (GR.out.done (by have := HP.out;have := HB1.out;omega))
          go_wp2
          refine bodyPost_ret (results_none rfl _ _ _) rfl ?_
          exact ⟨rfl,⟨_,by have := H.out;rw [HD.out] at this;rw [List.append_assoc,List.append_assoc,List.cons_append];rw [List.append_assoc] at this;exact this,HF.out.2,HF.out.1⟩,HG.out⟩
end Go.Proofs.Ytcenlehfbgnphaa.Z
end
section
namespace Go.Proofs.Ytcenlehfbgnphaa.Z
set_option linter.unusedVariables false
set_option linter.unusedSimpArgs false
open Go.RowKit Go.Proofs.YtcenlehfbgnphaaW.PrintWords Go.Proofs.YtcenlehfbgnphaaW.PrintLast Go.Proofs.YtcenlehfbgnphaaW.PrintMore
def NotAhd (cf : S45 → S45 → Int) (L : List El) (m h : Nat) : Prop := ¬ cf (atL L m).1 (atL L h).1 < 0
set_option maxHeartbeats 8000000 in
set_option maxRecDepth 100000 in
theorem merge2 (cf : S45 → S45 → Int) (hC : CmpOk 74 cf) (blk cap a m b n : Nat) (P A S L : List El) (y : El) (w : World) (h : RowAt w blk L) (hlen : L.length = n) (hn : n ≤ 1000000) (t : Two cf P A [y] S) (eL : L = P ++ A ++ [y] ++ S) (hP : P.length = a) (hm : a + A.length = m) (hA : 2 ≤ A.length) (hb : m + 1 = b) (hbn : b ≤ n) :
    Calls Try.prog 115 #[.slice (some ⟨blk,0,none⟩) n cap,.int .i64 a,.int .i64 m,.int .i64 b,.func (.func 74) #[] #[]] w (Merged cf P A [y] S blk w) := by
  have H := Aside0.mk h
  have HG := Aside0.mk (only_refl w blk)
  have HL := Aside0.mk hlen
  have TT := Aside0.mk t
  have EL := Aside0.mk eL
  have HP := Aside0.mk hP
  have HM := Aside0.mk hm
  have ham : a + 2 ≤ m := by omega
  have hmn : m + 1 ≤ n := by omega
  have HS := Aside0.mk (show Srch (NotAhd cf L m) a m a m from Srch.start (by omega))
  have MN := Aside0.mk (show ∀ h h',a ≤ h' → h' ≤ h → h < m → NotAhd cf L m h → NotAhd cf L m h' by
    have := t.mono2 (by simp)
    rw [eL,← hm,← hP]
    exact this)
  have b1 : m + 1 ≤ b := by omega
  have b2 : b ≤ m + 1 := by omega
  have bm : ((m : Int) - (a : Int) == 1) = false := by rw [beq_eq_false_iff_ne];omega
  have bb : ((b : Int) - (m : Int) == 1) = true := by rw [beq_iff_eq];omega
  clear h t eL hP hlen hb hm hA
  go_enter Try.func115,Try.ntmps115
  go_wp2
  go_loopw [14,15] (fun iv jv wr => ∃ i j : Nat,iv = .int .i64 (i : Int) ∧ jv = .int .i64 (j : Int) ∧ i ≤ j ∧ j ≤ m ∧ a ≤ i ∧ Aside0 (Srch (NotAhd cf L m) a m i j) ∧ Aside0 (RowAt wr blk L) ∧ Aside0 (w.grownBy wr (some blk))) (fun iv jv _ => (intOf jv).toNat - (intOf iv).toNat)
  case atStart => exact ⟨a,m,rfl,rfl,by omega,Nat.le_refl _,Nat.le_refl _,HS,H,HG⟩
  case round =>
    clear HS H HG
    obtain ⟨i,j,rfl,rfl,hij,hjb,hai,HS,H,HG⟩ := hrel
    by_cases hlt : i < j
    · go_wp2_with (fail)
      obtain ⟨c,hc⟩ : ∃ c : Nat,((i : Int) + (j : Int)) / 2 = (c : Int) := ⟨(i + j) / 2,by omega⟩
      have hc1 : i ≤ c := by omega
      have hc2 : c < j := by omega
      rw [hc]
      clear hc
      have p0 : (0 : Int) ≤ (c : Int) := by omega
      have p1 : (c : Int) < (n : Int) := by omega
      have p2 : (0 : Int) ≤ (m : Int) := by omega
      have p3 : (m : Int) < (n : Int) := by omega
      obtain ⟨x0,x1,x2,x3,z,hbl⟩ := H.out.cell (i := m) (by have := HL.out;omega)
      obtain ⟨y0,y1,y2,y3,_,_⟩ := H.out.cell (i := c) (by have := HL.out;omega)
      have BL := Aside0.mk hbl
      clear hbl z
      generalize hx : atL L m = ex at x0 x1 x2 x3
      generalize hy : atL L c = ey at y0 y1 y2 y3
      have HXE := Aside0.mk hx
      have HYE := Aside0.mk hy
      clear hx hy
      by_cases hv : cf ex.1 ey.1 < 0
      · have c0 : decide (cf ex.1 ey.1 < 0) = true := decide_eq_true hv
        have SU := Aside0.mk (HS.out.down MN.out hc1 hc2 (show ¬ NotAhd cf L m c by unfold NotAhd;rw [HXE.out,HYE.out];exact fun q => q hv))
        clear hv HXE HYE
        go_region_held3 (fun w' => w'.cell? ⟨blk,m * 4,none⟩ = some (.string ex.1.f0) ∧ w'.cell? ⟨blk,m * 4 + 1,none⟩ = some (.string ex.1.f1) ∧ w'.cell? ⟨blk,m * 4 + 2,none⟩ = some (.int .i64 ex.1.f2) ∧ w'.cell? ⟨blk,m * 4 + 3,none⟩ = some (.int .i64 ex.1.f3) ∧ w'.cell? ⟨blk,c * 4,none⟩ = some (.string ey.1.f0) ∧ w'.cell? ⟨blk,c * 4 + 1,none⟩ = some (.string ey.1.f1) ∧ w'.cell? ⟨blk,c * 4 + 2,none⟩ = some (.int .i64 ey.1.f2) ∧ w'.cell? ⟨blk,c * 4 + 3,none⟩ = some (.int .i64 ey.1.f3)) (first | go_keep | exact ⟨by assumption,by assumption,by assumption,by assumption,by assumption,by assumption,by assumption,by assumption⟩) (first | (go_at_call 74;refine (hC.calls ex.1 ey.1 _).mono ?_;rintro e w2 ⟨rfl,hb2⟩;have N2 := Aside0.mk (sameW_next (w1 := wr) hb2);clear hb2;have u0 := (N2.out.cell (p := ⟨blk,m * 4,none⟩) BL.out).trans x0;have u1 := (N2.out.cell (p := ⟨blk,m * 4 + 1,none⟩) BL.out).trans x1;have u2 := (N2.out.cell (p := ⟨blk,m * 4 + 2,none⟩) BL.out).trans x2;have u3 := (N2.out.cell (p := ⟨blk,m * 4 + 3,none⟩) BL.out).trans x3;have v0 := (N2.out.cell (p := ⟨blk,c * 4,none⟩) BL.out).trans y0;have v1 := (N2.out.cell (p := ⟨blk,c * 4 + 1,none⟩) BL.out).trans y1;have v2 := (N2.out.cell (p := ⟨blk,c * 4 + 2,none⟩) BL.out).trans y2;have v3 := (N2.out.cell (p := ⟨blk,c * 4 + 3,none⟩) BL.out).trans y3))
        have R2 := Aside0.mk (H.out.below N2.out)
        have G1 := Aside0.mk (only_belowT HG.out N2.out)
        clear x0 x1 x2 x3 y0 y1 y2 y3 u0 u1 u2 u3 v0 v1 v2 v3 H HG HS BL N2
        go_wp2
        go_roundw
        case rel => exact ⟨i,c,rfl,rfl,by omega,by omega,hai,SU,R2,G1⟩
        case measure => simp [intOf];omega
      · have c0 : decide (cf ex.1 ey.1 < 0) = false := decide_eq_false hv
        have SU := Aside0.mk (HS.out.up MN.out hc1 hc2 (show NotAhd cf L m c by unfold NotAhd;rw [HXE.out,HYE.out];exact hv))
        clear hv HXE HYE
        go_region_held3 (fun w' => w'.cell? ⟨blk,m * 4,none⟩ = some (.string ex.1.f0) ∧ w'.cell? ⟨blk,m * 4 + 1,none⟩ = some (.string ex.1.f1) ∧ w'.cell? ⟨blk,m * 4 + 2,none⟩ = some (.int .i64 ex.1.f2) ∧ w'.cell? ⟨blk,m * 4 + 3,none⟩ = some (.int .i64 ex.1.f3) ∧ w'.cell? ⟨blk,c * 4,none⟩ = some (.string ey.1.f0) ∧ w'.cell? ⟨blk,c * 4 + 1,none⟩ = some (.string ey.1.f1) ∧ w'.cell? ⟨blk,c * 4 + 2,none⟩ = some (.int .i64 ey.1.f2) ∧ w'.cell? ⟨blk,c * 4 + 3,none⟩ = some (.int .i64 ey.1.f3)) (first | go_keep | exact ⟨by assumption,by assumption,by assumption,by assumption,by assumption,by assumption,by assumption,by assumption⟩) (first | (go_at_call 74;refine (hC.calls ex.1 ey.1 _).mono ?_;rintro e w2 ⟨rfl,hb2⟩;have N2 := Aside0.mk (sameW_next (w1 := wr) hb2);clear hb2;have u0 := (N2.out.cell (p := ⟨blk,m * 4,none⟩) BL.out).trans x0;have u1 := (N2.out.cell (p := ⟨blk,m * 4 + 1,none⟩) BL.out).trans x1;have u2 := (N2.out.cell (p := ⟨blk,m * 4 + 2,none⟩) BL.out).trans x2;have u3 := (N2.out.cell (p := ⟨blk,m * 4 + 3,none⟩) BL.out).trans x3;have v0 := (N2.out.cell (p := ⟨blk,c * 4,none⟩) BL.out).trans y0;have v1 := (N2.out.cell (p := ⟨blk,c * 4 + 1,none⟩) BL.out).trans y1;have v2 := (N2.out.cell (p := ⟨blk,c * 4 + 2,none⟩) BL.out).trans y2;have v3 := (N2.out.cell (p := ⟨blk,c * 4 + 3,none⟩) BL.out).trans y3))
        have R2 := Aside0.mk (H.out.below N2.out)
        have G1 := Aside0.mk (only_belowT HG.out N2.out)
        clear x0 x1 x2 x3 y0 y1 y2 y3 u0 u1 u2 u3 v0 v1 v2 v3 H HG HS BL N2
        go_wp2
        go_roundw
        case rel => exact ⟨c + 1,j,by go_num,rfl,by omega,hjb,by omega,SU,R2,G1⟩
        case measure => simp [intOf];omega
    · have hije : i = j := by omega
      subst hije
      have HCUT : Aside0 (∃ A1 A2,A = A1 ++ A2 ∧ a + A1.length = i ∧ Sorted cf (A1 ++ y :: A2) ∧ (A1 ++ y :: A2).Perm (A ++ [y]) ∧ GoL (P ++ A1) y A2 S m L) := ⟨by
        have e := EL.out
        subst e
        have e2 := HP.out
        subst e2
        have e3 := HM.out
        subst e3
        exact TT.out.cut2 HS.out⟩
      obtain ⟨A1,A2,hAA,hA1,hC1,hC2,hGR⟩ := HCUT.out
      have GR := Aside0.mk hGR
      have HF := Aside0.mk (And.intro hC1 hC2)
      have HA1 := Aside0.mk (show (P ++ A1).length = i by have := HP.out;simp;omega)
      clear hAA hA1 hC1 hC2 hGR HCUT HS
      go_wp2
      go_loopw [17] (fun kv wr => ∃ (k : Nat) (L1 : List El),kv = .int .i64 (k : Int) ∧ i ≤ k ∧ k ≤ m ∧ Aside0 (GoL (P ++ A1) y A2 S k L1) ∧ Aside0 (L1.length = n) ∧ Aside0 (RowAt wr blk L1) ∧ Aside0 (w.grownBy wr (some blk))) (fun kv _ => (intOf kv).toNat)
      case atStart => exact ⟨m,L,rfl,by omega,Nat.le_refl _,GR,HL,H,HG⟩
      case round =>
        clear GR H HG
        obtain ⟨k,L1,rfl,hik,hkm,GR,HL1,H,HG⟩ := hrel
        by_cases hk : i < k
        · obtain ⟨kp,rfl⟩ : ∃ kp,k = kp + 1 := ⟨k - 1,by omega⟩
          have b0 : decide ((i : Int) < (kp : Int) + 1) = true := decide_eq_true (by omega)
          have b1 : (i : Int) < (kp : Int) + 1 := by omega
          have kn : kp + 1 < n := by omega
          have GS := Aside0.mk (GR.out.step (by have := HA1.out;omega))
          have hwp : IntKind.i64.wrap (kp : Int) = (kp : Int) := by rw [IntKind.wrap_i64];omega
          have e0 : ((kp : Int) + 1).toNat = kp + 1 := by omega
          clear GR
          have QQ : Aside0 (kp + 1 < L1.length ∧ kp < L1.length) := ⟨by have := HL1.out;omega⟩
          obtain ⟨x0,x1,x2,x3,z,_⟩ := H.out.cell QQ.out.1
          obtain ⟨y0,y1,y2,y3,_,_⟩ := H.out.cell QQ.out.2
          have SW := H.out.swap QQ.out.1 QQ.out.2
          generalize atL L1 (kp + 1) = ex at *
          generalize atL L1 (kp) = ey at *
          have R1 : Aside0 (RowAt (put4 (put4 wr blk (kp + 1) ey.1) blk (kp) ex.1) blk (swp L1 (kp + 1) (kp))) := ⟨SW⟩
          have G1 := Aside0.mk (only_put4 (i := kp) (u := ex.1) (only_put4 (i := kp + 1) (u := ey.1) HG.out))
          have LN := Aside0.mk ((swp_len L1 (kp + 1) (kp)).trans HL1.out)
          clear SW H HG HL1 QQ
          go_wp2_with (fail)
          go_region
          have R2 := R1.out.drew
          have G2 := only_drew G1.out
          unfold put4 at R2 G2
          have R3 := Aside0.mk R2
          have G3 := Aside0.mk G2
          clear R1 G1 R2 G2 x0 x1 x2 x3 y0 y1 y2 y3 z
          go_wp2
          go_roundw
          case rel => exact ⟨kp,_,rfl,by omega,by omega,GS,LN,R3,G3⟩
          case measure => simp [intOf] <;> omega
        · have b0 : decide ((i : Int) < (k : Int)) = false := decide_eq_false (by omega)
          have b1 : k ≤ i := by omega
          have HD := Aside0.mk (GR.out.done (by have := HA1.out;omega))
          go_wp2
          refine bodyPost_ret (results_none rfl _ _ _) rfl ?_
          exact ⟨rfl,⟨_,by have := H.out;rw [HD.out] at this;rw [show P ++ (A1 ++ y :: A2) ++ S = P ++ A1 ++ y :: (A2 ++ S) by simp];exact this,HF.out.2,HF.out.1⟩,HG.out⟩
end Go.Proofs.Ytcenlehfbgnphaa.Z
end
section
namespace Go.Proofs.Ytcenlehfbgnphaa.Z
set_option linter.unusedVariables false
set_option linter.unusedSimpArgs false
set_option linter.unnecessarySimpa false
def NotAhd3 (cf : S45 → S45 → Int) (L : List El) (p h : Nat) : Prop := ¬ cf (atL L (p - h)).1 (atL L h).1 < 0
structure Cut (cf : S45 → S45 → Int) (A B A1 A2 B1 B2 : List El) : Prop where
  eA : A = A1 ++ A2
  eB : B = B1 ++ B2
  ab : ∀ x ∈ A1,∀ y ∈ B2,Lx cf x y
  ba : ∀ y ∈ B1,∀ x ∈ A2,Lx cf y x
theorem Two.cut3 {cf : S45 → S45 → Int} {P A B S L : List El} (t : Two cf P A B S) (eL : L = P ++ A ++ B ++ S) {a m b nn lo hi i e : Nat} (ha : P.length = a) (hm : a + A.length = m) (hb : m + B.length = b)
    (h : Srch (NotAhd3 cf L (nn - 1)) lo hi i i) (h1 : a ≤ lo) (h2 : hi ≤ m) (h3 : nn ≤ b + lo) (h4 : m + hi ≤ nn) (hl : lo = a ∨ nn = b + lo) (hh : hi = m ∨ m + hi = nn) (he : e + i = nn) :
    ∃ A1 A2 B1 B2,Cut cf A B A1 A2 B1 B2 ∧ a + A1.length = i ∧ m + B1.length = e := by
  subst eL
  have g1 := h.h1
  have g3 := h.h3
  have lA : (A.take (i - a)).length = i - a := by simp;omega
  have lB : (B.take (e - m)).length = e - m := by simp;omega
  have eA : A = A.take (i - a) ++ A.drop (i - a) := (List.take_append_drop _ A).symm
  have eB : B = B.take (e - m) ++ B.drop (e - m) := (List.take_append_drop _ B).symm
  generalize A.take (i - a) = A1 at *
  generalize A.drop (i - a) = A2 at *
  generalize B.take (e - m) = B1 at *
  generalize B.drop (e - m) = B2 at *
  subst eA;subst eB;subst ha
  have wA1 (k : Nat) (hk : k < A1.length) : atL (P ++ (A1 ++ A2) ++ (B1 ++ B2) ++ S) (P.length + k) = atL A1 k := by
    have := atL_pre P A1 (A2 ++ (B1 ++ B2) ++ S) k hk
    simpa using this
  have wA2 (k : Nat) (hk : k < A2.length) : atL (P ++ (A1 ++ A2) ++ (B1 ++ B2) ++ S) (P.length + A1.length + k) = atL A2 k := by
    have := atL_pre (P ++ A1) A2 ((B1 ++ B2) ++ S) k hk
    simpa using this
  have wB1 (k : Nat) (hk : k < B1.length) : atL (P ++ (A1 ++ A2) ++ (B1 ++ B2) ++ S) (P.length + (A1 ++ A2).length + k) = atL B1 k := by
    have := atL_pre (P ++ (A1 ++ A2)) B1 (B2 ++ S) k hk
    simpa using this
  have wB2 (k : Nat) (hk : k < B2.length) : atL (P ++ (A1 ++ A2) ++ (B1 ++ B2) ++ S) (P.length + (A1 ++ A2).length + B1.length + k) = atL B2 k := by
    have := atL_pre (P ++ (A1 ++ A2) ++ B1) B2 S k hk
    simpa [Nat.add_assoc] using this
  refine ⟨A1,A2,B1,B2,⟨rfl,rfl,?_,?_⟩,by omega,by omega⟩
  · intro x hx y hy
    obtain ⟨k,hk,rfl⟩ := atL_of_mem hx
    obtain ⟨q,hq,rfl⟩ := atL_of_mem hy
    have n1 : (B1 ++ B2).length = B1.length + B2.length := List.length_append
    have n2 : (A1 ++ A2).length = A1.length + A2.length := List.length_append
    have hp := h.yes (i - 1) (by omega) (by omega)
    have hc := (t.cross (i := i - 1) (j := nn - 1 - (i - 1)) (by omega) (by omega) (by omega) (by omega)).2.1 hp
    rw [← wA1 k hk,← wB2 q hq]
    have c1 : atL (P ++ (A1 ++ A2) ++ (B1 ++ B2) ++ S) (P.length + k) = atL (P ++ (A1 ++ A2) ++ (B1 ++ B2) ++ S) (i - 1) ∨ Lx cf (atL (P ++ (A1 ++ A2) ++ (B1 ++ B2) ++ S) (P.length + k)) (atL (P ++ (A1 ++ A2) ++ (B1 ++ B2) ++ S) (i - 1)) := by
      rcases Nat.lt_or_ge (P.length + k) (i - 1) with c | c
      · exact Or.inr (t.ltA (by omega) c (by omega))
      · exact Or.inl (by congr 1;omega)
    have c2 : atL (P ++ (A1 ++ A2) ++ (B1 ++ B2) ++ S) (nn - 1 - (i - 1)) = atL (P ++ (A1 ++ A2) ++ (B1 ++ B2) ++ S) (P.length + (A1 ++ A2).length + B1.length + q) ∨ Lx cf (atL (P ++ (A1 ++ A2) ++ (B1 ++ B2) ++ S) (nn - 1 - (i - 1))) (atL (P ++ (A1 ++ A2) ++ (B1 ++ B2) ++ S) (P.length + (A1 ++ A2).length + B1.length + q)) := by
      rcases Nat.lt_or_ge (nn - 1 - (i - 1)) (P.length + (A1 ++ A2).length + B1.length + q) with c | c
      · exact Or.inr (t.ltB (by omega) c (by omega))
      · exact Or.inl (by congr 1;omega)
    rcases c1 with c1 | c1 <;> rcases c2 with c2 | c2
    · rw [c1,← c2];exact hc
    · rw [c1];exact hc.trans t.ord c2
    · rw [← c2];exact c1.trans t.ord hc
    · exact c1.trans t.ord (hc.trans t.ord c2)
  · intro y hy x hx
    obtain ⟨k,hk,rfl⟩ := atL_of_mem hx
    obtain ⟨q,hq,rfl⟩ := atL_of_mem hy
    have n1 : (B1 ++ B2).length = B1.length + B2.length := List.length_append
    have n2 : (A1 ++ A2).length = A1.length + A2.length := List.length_append
    have hp := h.no i (by omega) (by omega)
    unfold NotAhd3 at hp
    rw [Decidable.not_not] at hp
    have hc := (t.cross (i := i) (j := nn - 1 - i) (by omega) (by omega) (by omega) (by omega)).1.1 hp
    rw [← wA2 k hk,← wB1 q hq]
    have c1 : atL (P ++ (A1 ++ A2) ++ (B1 ++ B2) ++ S) i = atL (P ++ (A1 ++ A2) ++ (B1 ++ B2) ++ S) (P.length + A1.length + k) ∨ Lx cf (atL (P ++ (A1 ++ A2) ++ (B1 ++ B2) ++ S) i) (atL (P ++ (A1 ++ A2) ++ (B1 ++ B2) ++ S) (P.length + A1.length + k)) := by
      rcases Nat.lt_or_ge i (P.length + A1.length + k) with c | c
      · exact Or.inr (t.ltA (by omega) c (by omega))
      · exact Or.inl (by congr 1;omega)
    have c2 : atL (P ++ (A1 ++ A2) ++ (B1 ++ B2) ++ S) (P.length + (A1 ++ A2).length + q) = atL (P ++ (A1 ++ A2) ++ (B1 ++ B2) ++ S) (nn - 1 - i) ∨ Lx cf (atL (P ++ (A1 ++ A2) ++ (B1 ++ B2) ++ S) (P.length + (A1 ++ A2).length + q)) (atL (P ++ (A1 ++ A2) ++ (B1 ++ B2) ++ S) (nn - 1 - i)) := by
      rcases Nat.lt_or_ge (P.length + (A1 ++ A2).length + q) (nn - 1 - i) with c | c
      · exact Or.inr (t.ltB (by omega) c (by omega))
      · exact Or.inl (by congr 1;omega)
    rcases c1 with c1 | c1 <;> rcases c2 with c2 | c2
    · rw [← c1,c2];exact hc
    · rw [← c1];exact c2.trans t.ord hc
    · rw [c2];exact hc.trans t.ord c1
    · exact c2.trans t.ord (hc.trans t.ord c1)
theorem Two.mono3' {cf : S45 → S45 → Int} {P A B S L : List El} (t : Two cf P A B S) (eL : L = P ++ A ++ B ++ S) {a m b nn lo hi : Nat} (ha : P.length = a) (hm : a + A.length = m) (hb : m + B.length = b) (h1 : a ≤ lo) (h2 : hi ≤ m) (h3 : nn ≤ b + lo) (h4 : m + hi ≤ nn) : ∀ h h',lo ≤ h' → h' ≤ h → h < hi → NotAhd3 cf L (nn - 1) h → NotAhd3 cf L (nn - 1) h' := by
  subst eL;subst ha;subst hm
  exact t.mono3 lo hi (nn - 1) h1 h2 fun c c1 c2 => ⟨by omega,by omega,by omega⟩
theorem Cut.two1 {cf : S45 → S45 → Int} {P A B S A1 A2 B1 B2 : List El} (t : Two cf P A B S) (c : Cut cf A B A1 A2 B1 B2) : Two cf P A1 B1 (A2 ++ B2 ++ S) := by
  have eA := c.eA
  have eB := c.eB
  subst eA;subst eB
  exact ⟨t.ord,(List.pairwise_append.1 t.sa).1,(List.pairwise_append.1 t.sb).1,fun x hx y hy => t.tags x (List.mem_append_left _ hx) y (List.mem_append_left _ hy)⟩
theorem Cut.two2 {cf : S45 → S45 → Int} {P A B S A1 A2 B1 B2 C : List El} (t : Two cf P A B S) (c : Cut cf A B A1 A2 B1 B2) : Two cf (P ++ C) A2 B2 S := by
  have eA := c.eA
  have eB := c.eB
  subst eA;subst eB
  exact ⟨t.ord,(List.pairwise_append.1 t.sa).2.1,(List.pairwise_append.1 t.sb).2.1,fun x hx y hy => t.tags x (List.mem_append_right _ hx) y (List.mem_append_right _ hy)⟩
theorem Cut.join {cf : S45 → S45 → Int} {P A B S A1 A2 B1 B2 C1 C2 : List El} (t : Two cf P A B S) (c : Cut cf A B A1 A2 B1 B2) (p1 : C1.Perm (A1 ++ B1)) (s1 : Sorted cf C1) (p2 : C2.Perm (A2 ++ B2)) (s2 : Sorted cf C2) : (C1 ++ C2).Perm (A ++ B) ∧ Sorted cf (C1 ++ C2) := by
  have eA := c.eA
  have eB := c.eB
  subst eA;subst eB
  constructor
  · refine (p1.append p2).trans ?_
    rw [List.append_assoc,List.append_assoc]
    refine List.Perm.append_left A1 ?_
    rw [← List.append_assoc,← List.append_assoc]
    exact List.Perm.append_right B2 List.perm_append_comm
  · refine List.pairwise_append.2 ⟨s1,s2,?_⟩
    intro x hx y hy
    rcases List.mem_append.1 (p1.mem_iff.1 hx) with hx | hx <;> rcases List.mem_append.1 (p2.mem_iff.1 hy) with hy | hy
    · exact (List.pairwise_append.1 t.sa).2.2 x hx y hy
    · exact c.ab x hx y hy
    · exact c.ba x hx y hy
    · exact (List.pairwise_append.1 t.sb).2.2 x hx y hy
theorem Cut.flat1 {cf : S45 → S45 → Int} {P A B S A1 A2 B1 B2 : List El} (t : Two cf P A B S) (c : Cut cf A B A1 A2 B1 B2) (h : A1.length = 0 ∨ B1.length = 0) : Sorted cf (A1 ++ B1) := by
  have w := c.two1 t
  rcases h with h | h
  · rw [List.length_eq_zero_iff.1 h,List.nil_append];exact w.sb
  · rw [List.length_eq_zero_iff.1 h,List.append_nil];exact w.sa
theorem Cut.flat2 {cf : S45 → S45 → Int} {P A B S A1 A2 B1 B2 : List El} (t : Two cf P A B S) (c : Cut cf A B A1 A2 B1 B2) (h : A2.length = 0 ∨ B2.length = 0) : Sorted cf (A2 ++ B2) := by
  have w := c.two2 (C := []) t
  rcases h with h | h
  · rw [List.length_eq_zero_iff.1 h,List.nil_append];exact w.sb
  · rw [List.length_eq_zero_iff.1 h,List.append_nil];exact w.sa
theorem Cut.turn {cf : S45 → S45 → Int} {P A B S A1 A2 B1 B2 L : List El} (c : Cut cf A B A1 A2 B1 B2) (eL : L = P ++ A ++ B ++ S) {a m i e : Nat} (ha : P.length = a) (hm : a + A.length = m) (hi : a + A1.length = i) (he : m + B1.length = e) (h1 : i < m) (h2 : m < e) : Turn (P ++ A1 ++ B1 ++ (A2 ++ B2 ++ S)) m (m - i) (e - m) L := by
  have eA := c.eA
  have eB := c.eB
  subst eA;subst eB;subst eL
  exact ⟨P ++ A1,A2,B1,B2 ++ S,by simp,by simp at hm;omega,by omega,by simp;omega,by omega,by omega,by simp⟩
theorem Cut.noturn {cf : S45 → S45 → Int} {P A B S A1 A2 B1 B2 L : List El} (c : Cut cf A B A1 A2 B1 B2) (eL : L = P ++ A ++ B ++ S) {a m i e : Nat} (ha : P.length = a) (hm : a + A.length = m) (hi : a + A1.length = i) (he : m + B1.length = e) (h : ¬ (i < m ∧ m < e)) : L = P ++ A1 ++ B1 ++ (A2 ++ B2 ++ S) := by
  have eA := c.eA
  have eB := c.eB
  subst eA;subst eB;subst eL
  have : A2.length = 0 ∨ B1.length = 0 := by simp at hm;omega
  rcases this with h | h
  · rw [List.length_eq_zero_iff.1 h];simp
  · rw [List.length_eq_zero_iff.1 h];simp
end Go.Proofs.Ytcenlehfbgnphaa.Z
end
