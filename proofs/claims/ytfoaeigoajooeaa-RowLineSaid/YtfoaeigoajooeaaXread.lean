import Derived.Test.YtfoaeigoajooeaaWMore
import Derived.Test.YtfoaeigoajooeaaWShare
import Derived.Deep.Slices
import Derived.ProofKit
/- What came in, read as lists: from the row's reading (DataW.trod) to the print's kinds (Kd). -/
namespace Go.Proofs.YtfoaeigoajooeaaW.PrintWords
open Go.RowKit Go.ChangeShapes Go.WideShapes
section
variable {P : Program} {α β : Type}
/-- Whatever reads as a datum of type t reads as a value of kind d that is good. -/
def OfTrod (P : Program) (t : TypeId) (d : Kd α) (G : α → Prop) : Prop :=
  ∀ (H : Type) (enc : TypeId × Value → H) (w : World) (base : Nat) (spare : Nat → Bool) (held : Bool) (fuel : Nat) (cs : List Value) (x : DataW H × List MemPlace), DataW.trod enc P w base spare held fuel t cs = some x → ∃ s, d.K w s cs ∧ G s
theorem ofTrod_int {t : TypeId} {k : IntKind} (ht : P.underlying t = some (.int k)) : OfTrod P t (Kd.int k) (fun n => (Lit.int k n).wf = true) := by
  intro H enc w base spare held fuel cs x h
  obtain ⟨n, rfl, _, hw⟩ := DataW.trod_int ht h
  exact ⟨n, rfl, hw⟩
theorem ofTrod_bool {t : TypeId} (ht : P.underlying t = some .bool) : OfTrod P t Kd.bool (fun _ => True) := by
  intro H enc w base spare held fuel cs x h
  obtain ⟨b, rfl, _⟩ := DataW.trod_bool ht h
  exact ⟨b, rfl, trivial⟩
theorem ofTrod_string {t : TypeId} (ht : P.underlying t = some .string) : OfTrod P t Kd.string (fun s => s.size ≤ maxLen) := by
  intro H enc w base spare held fuel cs x h
  obtain ⟨s, rfl, _, hs⟩ := DataW.trod_string ht h
  exact ⟨s, rfl, hs⟩
theorem list_of_all {n : Nat} {Q : Nat → α → Prop} (h : ∀ i, i < n → ∃ x, Q i x) : ∃ xs : List α, xs.length = n ∧ ∀ i x, xs[i]? = some x → Q i x := by
  induction n with
  | zero => exact ⟨[], rfl, fun i x hx => by simp at hx⟩
  | succ n ih =>
    obtain ⟨xs, hl, hx⟩ := ih (fun i hi => h i (by omega))
    obtain ⟨y, hy⟩ := h n (by omega)
    refine ⟨xs ++ [y], by simp [hl], fun i x hi => ?_⟩
    rcases Nat.lt_trichotomy i xs.length with hlt | rfl | hgt
    · rw [List.getElem?_append_left hlt] at hi
      exact hx i x hi
    · rw [List.getElem?_append_right (Nat.le_refl _)] at hi
      simp at hi
      subst hi
      rw [hl]
      exact hy
    · rw [List.getElem?_append_right (by omega), List.getElem?_eq_none (by simp; omega)] at hi
      cases hi
theorem ofTrod_slice {t e : TypeId} {d : Kd α} {G : α → Prop} (ht : P.underlying t = some (.slice e)) (hc : P.cellsOf e = d.sz) (h : OfTrod P e d G) :
    OfTrod P t (Kd.slice e d) (fun l => l.length ≤ maxLen ∧ ∀ x ∈ l, G x) := by
  intro H enc w base spare held fuel cs x hx
  rcases Go.Deep.open_slice ht hx with ⟨rfl, _⟩ | ⟨a, len, cap, m, n, D, Pl, rfl, _, hl, hm, hmm, _, hel⟩
  · exact ⟨[], ⟨none, 0, rfl, Nat.le_refl _, Kd.C_nil d w⟩, by simp, fun x hx => by simp at hx⟩
  · have hlm : len ≤ m := by rw [hmm]; split <;> omega
    obtain ⟨xs, hxl, hxs⟩ := list_of_all (n := len) (Q := fun i s => ∃ cs', w.cells? base (a.add (i * P.cellsOf e)) (P.cellsOf e) = some cs' ∧ d.K w s cs' ∧ G s) (fun i hi => by
      obtain ⟨cs', h1, h2⟩ := hel i (by omega)
      obtain ⟨s, h3, h4⟩ := h _ _ _ _ _ _ _ _ _ h2
      exact ⟨s, cs', h1, h3, h4⟩)
    refine ⟨xs, ⟨some a, cap, by rw [hxl], by omega, rfl, by rw [hxl]; unfold maxLen at hm; omega, fun _ => ⟨a, rfl, fun j p hp => ?_⟩⟩, by omega, fun x hx => ?_⟩
    · obtain ⟨cs', h1, h2, _⟩ := hxs j p hp
      obtain ⟨_, hcl, hcell⟩ := World.cells?_some h1
      refine ⟨cs', by rw [hcl, hc], h2, fun i u hu => ?_⟩
      have hi : i < P.cellsOf e := by
        rw [← hcl]
        exact (List.getElem?_eq_some_iff.1 hu).1
      have := hcell i hi
      rw [Go.Deep.add_add, hc] at this
      rw [this]
      exact hu
    · obtain ⟨i, hi, rfl⟩ := List.getElem_of_mem hx
      obtain ⟨_, _, _, h4⟩ := hxs i xs[i] (List.getElem?_eq_getElem hi)
      exact h4
/-- Where segment i of some types, of some sizes, begins. -/
def segOff (segs : List (TypeId × Nat)) (i : Nat) : Nat := ((segs.take i).map (·.2)).sum
def OfSegs (P : Program) (segs : List (TypeId × Nat)) (d : Kd α) (G : α → Prop) : Prop :=
  ∀ (H : Type) (enc : TypeId × Value → H) (w : World) (base : Nat) (spare : Nat → Bool) (held : Bool) (fuel : Nat) (cs : List Value), cs.length = segOff segs segs.length →
    (∀ i t c, segs[i]? = some (t, c) → ∃ x, DataW.trod enc P w base spare held fuel t ((cs.drop (segOff segs i)).take c) = some x) → ∃ s, d.K w s cs ∧ G s
theorem ofSegs_one {t : TypeId} {c : Nat} {d : Kd α} {G : α → Prop} (h : OfTrod P t d G) : OfSegs P [(t, c)] d G := by
  intro H enc w base spare held fuel cs hl hx
  obtain ⟨x, h1⟩ := hx 0 t c rfl
  have hl2 : cs.length = c := by simpa [segOff] using hl
  have e : ((cs.drop (segOff [(t, c)] 0)).take c) = cs := by simp [segOff, ← hl2]
  rw [e] at h1
  exact h _ _ _ _ _ _ _ _ _ h1
theorem ofSegs_cons {t : TypeId} {c : Nat} {ts : List (TypeId × Nat)} {d : Kd α} {d' : Kd β} {G : α → Prop} {G' : β → Prop} (h : OfTrod P t d G) (h' : OfSegs P ts d' G') : OfSegs P ((t, c) :: ts) (Kd.pair d d') (fun x => G x.1 ∧ G' x.2) := by
  intro H enc w base spare held fuel cs hl hx
  obtain ⟨x, h1⟩ := hx 0 t c rfl
  have e : ((cs.drop (segOff ((t, c) :: ts) 0)).take c) = cs.take c := by simp [segOff]
  rw [e] at h1
  obtain ⟨s, h2, h3⟩ := h _ _ _ _ _ _ _ _ _ h1
  have hl' : (cs.drop c).length = segOff ts ts.length := by
    simp [segOff] at hl ⊢
    omega
  obtain ⟨s', h4, h5⟩ := h' H enc w base spare held fuel (cs.drop c) hl' (fun i t' c' hi => by
    obtain ⟨y, hy⟩ := hx (i + 1) t' c' (by simpa using hi)
    refine ⟨y, ?_⟩
    have e2 : segOff ((t, c) :: ts) (i + 1) = c + segOff ts i := by simp [segOff]
    rw [e2] at hy
    rw [List.drop_drop]
    exact hy)
  exact ⟨(s, s'), ⟨cs.take c, cs.drop c, (List.take_append_drop c cs).symm, h2, h4⟩, h3, h5⟩
theorem ofTrod_struct {t : TypeId} {fs : Array Field} {segs : List (TypeId × Nat)} {d : Kd α} {G : α → Prop} (ht : P.underlying t = some (.struct fs)) (hc : P.cellsOf t = segOff segs segs.length) (hn : fs.size = segs.length)
    (hfs : ∀ i (f : Field), fs[i]? = some f → segs[i]? = some (f.type, P.cellsOf f.type) ∧ f.offset = segOff segs i) (h : OfSegs P segs d G) : OfTrod P t d G := by
  intro H enc w base spare held fuel cs x hx
  obtain ⟨xs, n, _, _, hl, hxl, hf⟩ := DataW.trod_struct ht hx
  refine h H enc w base spare held n cs (by rw [hl, hc]) (fun i t' c' hi => ?_)
  have hlt : i < fs.size := by rw [hn]; exact (List.getElem?_eq_some_iff.1 hi).1
  obtain ⟨h1, h2⟩ := hfs i fs[i] (Array.getElem?_eq_getElem hlt)
  rw [hi] at h1
  injection h1 with h1
  injection h1 with h1 h3
  have h4 := hf i fs[i] (Array.getElem?_eq_getElem hlt)
  rw [h2, ← h3, ← h1] at h4
  have hlt2 : i < xs.length := by omega
  rw [List.getElem?_eq_getElem hlt2] at h4
  exact ⟨_, h4⟩
theorem ofTrod_iso {t : TypeId} {d : Kd α} {G : α → Prop} (f : β → α) (g : α → β) (hg : ∀ a, f (g a) = a) (h : OfTrod P t d G) : OfTrod P t (Kd.iso d f) (fun x => G (f x)) := by
  intro H enc w base spare held fuel cs x hx
  obtain ⟨s, h1, h2⟩ := h _ _ _ _ _ _ _ _ _ hx
  exact ⟨g s, by show d.K w (f (g s)) cs; rw [hg]; exact h1, by show G (f (g s)); rw [hg]; exact h2⟩
/-- A kind that looks at the heap alone. -/
def HeapOnly (d : Kd α) : Prop := ∀ {w w' : World} {x : α} {cs : List Value}, w.heap = w'.heap → d.K w x cs → d.K w' x cs
theorem cell_heap {w w' : World} (h : w.heap = w'.heap) (a : Addr) : w'.cell? a = w.cell? a := by unfold World.cell?; rw [h]
theorem heapOnly_int (k : IntKind) : HeapOnly (Kd.int k) := fun _ h => h
theorem heapOnly_bool : HeapOnly Kd.bool := fun _ h => h
theorem heapOnly_string : HeapOnly Kd.string := fun _ h => h
theorem C_heap {d : Kd α} (hd : HeapOnly d) {w w' : World} {A : Option Addr} {n : Nat} {xs : List α} (hh : w.heap = w'.heap) (h : d.C w A n xs) : d.C w' A n xs := by
  refine ⟨h.1, h.2.1, fun hn => ?_⟩
  obtain ⟨ad, e, hx⟩ := h.2.2 hn
  refine ⟨ad, e, fun j p hp => ?_⟩
  obtain ⟨c, h1, h2, h3⟩ := hx j p hp
  exact ⟨c, h1, hd hh h2, fun i u hu => by rw [cell_heap hh]; exact h3 i u hu⟩
theorem heapOnly_slice {e : Nat} {d : Kd α} (hd : HeapOnly d) : HeapOnly (Kd.slice e d) := by
  rintro w w' x cs hh ⟨A, c, rfl, hl, hr⟩
  exact ⟨A, c, rfl, hl, C_heap hd hh hr⟩
theorem heapOnly_pair {a : Kd α} {b : Kd β} (ha : HeapOnly a) (hb : HeapOnly b) : HeapOnly (Kd.pair a b) := by
  rintro w w' x cs hh ⟨c0, c1, rfl, h0, h1⟩
  exact ⟨c0, c1, rfl, ha hh h0, hb hh h1⟩
theorem heapOnly_iso {d : Kd α} (f : β → α) (hd : HeapOnly d) : HeapOnly (Kd.iso d f) := fun hh h => hd hh h
/-- What came in, as what may be shared. -/
theorem F_of_C {d : Kd α} (hd : HeapOnly d) {W : World} {A : Option Addr} {n : Nat} {xs : List α} (h : d.C W A n xs) : Kd.F d W (fun _ => True) A n xs := by
  intro W' hW
  have hs : W.heap.size ≤ W'.heap.size := by
    rcases Nat.eq_zero_or_pos W.heap.size with h0 | h0
    · omega
    · have := heap_lt (hW (W.heap.size - 1) trivial (by omega)) (by omega)
      omega
  have hb : Below W.heap.size W { W with heap := W'.heap } := ⟨rfl, rfl, rfl, hs, fun k hk => hW k trivial hk⟩
  have hc : d.C { W with heap := W'.heap } A n xs := Kd.C_below h hb
  exact C_heap (w := { W with heap := W'.heap }) hd rfl hc
end
end Go.Proofs.YtfoaeigoajooeaaW.PrintWords
