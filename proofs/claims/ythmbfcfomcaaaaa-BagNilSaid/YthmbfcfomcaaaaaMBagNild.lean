/-
  verdererlaw05.BagNil: for every input the law returns true, and each argument reads behind the call as it read before. No condition.
-/
import Derived.Test.YthmbfcfomcaaaaaMBagNila
import Derived.Test.YthmbfcfomcaaaaaMBagNilb
import Derived.Test.YthmbfcfomcaaaaaMBagNilc
import Derived.RangeFuncNested
import Derived.RangeFuncBound
import Derived.RangeFuncCalls
import Derived.RangeFuncLeaves
import Derived.Shelf.Abstract
import Derived.WalkKit
import Derived.OwnWalkIn
import Derived.TacticsInMore
import Derived.Deep.Cut
import Derived.Deep.RegionHeld3
import Derived.Test.YthmbfcfomcaaaaaRows
import Derived.ProofKit
import Derived.OpenShut
import Derived.ShutString
import Derived.ChangeOld
import Derived.Below
import Derived.Laws.Cover2
section
namespace Go.Proofs.Ythmbfcfomcaaaaa.Z
set_option linter.unusedVariables false
set_option linter.unusedSimpArgs false
open Go.RowKit Go.Proofs.YthmbfcfomcaaaaaW.PrintWords Go.Proofs.YthmbfcfomcaaaaaW.PrintLast Go.Proofs.YthmbfcfomcaaaaaW.PrintMore Go.Proofs.Ythmbfcfomcaaaaa.Cmp
abbrev En := S34
abbrev Rw := List S66
def docE (L : List Ent) : List En := L.map (fun e => ⟨e.row,e.many⟩)
def docT (t : Tr) : List En := docE t.ents
def SrtD (L : List En) : Prop := L.Pairwise (fun a b => rcmp a.f0 b.f0 < 0)
def OkD (L : List En) : Prop := ∀ x ∈ L,rright x.f0 = true ∧ x.f1 ≠ 0 ∧ -1073741824 ≤ x.f1 ∧ x.f1 ≤ 1073741824
def few (n : Int) : Bool := decide (-1073741824 ≤ n) && decide (n ≤ 1073741824)
def loD (r : Rw) (L : List En) : List En := L.filter (fun x => decide (rcmp x.f0 r < 0))
def eqD (r : Rw) (L : List En) : List En := L.filter (fun x => decide (rcmp r x.f0 = 0))
def hiD (r : Rw) (L : List En) : List En := L.filter (fun x => decide (rcmp r x.f0 < 0))
def fndD (r : Rw) (L : List En) : Option En := L.find? (fun x => decide (rcmp r x.f0 = 0))
def manyD (r : Rw) (L : List En) : Int := match fndD r L with | some x => x.f1 | none => 0
def putD (r : Rw) (now : Int) (L : List En) : List En := loD r L ++ (if now = 0 then [] else [⟨r,now⟩]) ++ hiD r L
def okAdd (r : Rw) (m : Int) (L : List En) : Bool := decide (-2147483648 ≤ m) && decide (m ≤ 2147483648) && few (manyD r L + m)
def addD (r : Rw) (m : Int) (L : List En) : Int × List En := if rright r = true then (if okAdd r m L = true then (0,putD r (manyD r L + m) L) else (10,L)) else (2,L)
theorem SrtD.cons {x : En} {L : List En} (h : SrtD (x :: L)) : (∀ y ∈ L,rcmp x.f0 y.f0 < 0) ∧ SrtD L := List.pairwise_cons.1 h
theorem srt_split (r : Rw) : ∀ {L : List En},SrtD L → L = loD r L ++ eqD r L ++ hiD r L ∧ eqD r L = (fndD r L).toList
  | [],_ => ⟨rfl,rfl⟩
  | x :: L,h => by
    obtain ⟨h1,h2⟩ := h.cons
    obtain ⟨i1,i2⟩ := srt_split r h2
    unfold loD eqD hiD fndD at *
    rw [List.filter_cons,List.filter_cons,List.filter_cons,List.find?_cons]
    have an := rcmp_anti x.f0 r
    rcases Int.lt_trichotomy (rcmp r x.f0) 0 with c | c | c
    · have hi : ∀ y ∈ L,rcmp r y.f0 < 0 := fun y hy => rcmp_law.lt_le c (Int.le_of_lt (h1 y hy))
      rw [filter_none (l := L) (fun y hy => by have := hi y hy;rw [rcmp_anti y.f0 r] at this;exact decide_eq_false (by omega)),filter_none (l := L) (fun y hy => by have := hi y hy;exact decide_eq_false (by omega)),filter_all (l := L) (fun y hy => decide_eq_true (hi y hy)),find_none' (a := L) (fun y hy => by have := hi y hy;exact decide_eq_false (by omega))]
      have a1 : ¬ rcmp x.f0 r < 0 := by omega
      have a2 : ¬ rcmp r x.f0 = 0 := by omega
      simp [a1,a2,c]
    · have hi : ∀ y ∈ L,rcmp r y.f0 < 0 := fun y hy => by rw [show rcmp r y.f0 = rcmp x.f0 y.f0 from rcmp_law.eq_left y.f0 c];exact h1 y hy
      rw [filter_none (l := L) (fun y hy => by have := hi y hy;rw [rcmp_anti y.f0 r] at this;exact decide_eq_false (by omega)),filter_none (l := L) (fun y hy => by have := hi y hy;exact decide_eq_false (by omega)),filter_all (l := L) (fun y hy => decide_eq_true (hi y hy))]
      have a1 : ¬ rcmp x.f0 r < 0 := by omega
      simp [a1,c]
    · have a0 : rcmp x.f0 r < 0 := by omega
      have a1 : ¬ rcmp r x.f0 < 0 := by omega
      have a2 : ¬ rcmp r x.f0 = 0 := by omega
      simp only [a0,a1,a2,decide_true,decide_false,if_true,Bool.false_eq_true,if_false]
      exact ⟨by rw [List.cons_append,List.cons_append,← i1],i2⟩
theorem mem_lo {r : Rw} {L : List En} {x : En} (h : x ∈ loD r L) : x ∈ L ∧ rcmp x.f0 r < 0 := by
  have := List.mem_filter.1 h;exact ⟨this.1,of_decide_eq_true this.2⟩
theorem mem_hi {r : Rw} {L : List En} {x : En} (h : x ∈ hiD r L) : x ∈ L ∧ rcmp r x.f0 < 0 := by
  have := List.mem_filter.1 h;exact ⟨this.1,of_decide_eq_true this.2⟩
theorem SrtD.filter {L : List En} (h : SrtD L) (p : En → Bool) : SrtD (L.filter p) := List.Pairwise.filter p h
theorem putD_srt {r : Rw} {now : Int} {L : List En} (h : SrtD L) : SrtD (putD r now L) := by
  have hl := h.filter (fun x => decide (rcmp x.f0 r < 0))
  have hh := h.filter (fun x => decide (rcmp r x.f0 < 0))
  unfold putD
  split
  · rw [List.append_nil]
    exact List.pairwise_append.2 ⟨hl,hh,fun x hx y hy => rcmp_law.lt_le (mem_lo hx).2 (Int.le_of_lt (mem_hi hy).2)⟩
  · rw [List.append_assoc]
    refine List.pairwise_append.2 ⟨hl,List.pairwise_cons.2 ⟨fun y hy => (mem_hi hy).2,hh⟩,fun x hx y hy => ?_⟩
    rcases List.mem_cons.1 hy with q | q
    · rw [q];exact (mem_lo hx).2
    · exact rcmp_law.lt_le (mem_lo hx).2 (Int.le_of_lt (mem_hi q).2)
theorem few_iff {n : Int} : few n = true ↔ -1073741824 ≤ n ∧ n ≤ 1073741824 := by
  unfold few;rw [Bool.and_eq_true,decide_eq_true_eq,decide_eq_true_eq]
theorem putD_ok {r : Rw} {now : Int} {L : List En} (h : OkD L) (hr : rright r = true) (hn : few now = true) : OkD (putD r now L) := by
  intro x hx
  unfold putD at hx
  rcases List.mem_append.1 hx with q | q
  · rcases List.mem_append.1 q with q | q
    · exact h x (mem_lo q).1
    · split at q
      · cases q
      · rename_i h0
        rw [List.mem_singleton] at q
        subst q
        exact ⟨hr,h0,few_iff.1 hn⟩
  · exact h x (mem_hi q).1
theorem many_bd {r : Rw} {L : List En} (k : OkD L) : -1073741824 ≤ manyD r L ∧ manyD r L ≤ 1073741824 := by
  unfold manyD fndD
  cases hf : L.find? (fun x => decide (rcmp r x.f0 = 0)) with
  | none => simp
  | some x => exact (k x (List.mem_of_find?_eq_some hf)).2.2
theorem srtD_of {L : List Ent} (h : Srt L) : SrtD (docE L) := by
  unfold docE SrtD
  rw [List.pairwise_map]
  exact h
theorem srt_of {L : List Ent} (h : SrtD (docE L)) : Srt L := by
  unfold docE SrtD at h
  rw [List.pairwise_map] at h
  exact h
theorem put_ents (g : Nat) (en : Ent) : ∀ {t : Tr},Srt t.ents → (∀ x ∈ t.ents,rcmp en.row x.row ≠ 0) → entsL (t.put g en) = ahead en.row t.ents ++ en :: behind en.row t.ents
  | .nil,_,_ => rfl
  | .node b e l r h,hs,hx => by
    have hs' := hs
    rw [Tr.ents_node] at hs hx ⊢
    simp only [Tr.put]
    by_cases hc : rcmp en.row e.row < 0
    · rw [if_pos hc,entsL_app,put_ents g en (srt_left hs').1 (fun x q => hx x (by simp [q]))]
      obtain ⟨a1,a2⟩ := ins_left en.row hs hc
      rw [a1,a2]
      simp [entsL,Tr.ents]
    · have hn := hx e (by simp)
      rw [if_neg hc,entsL_app]
      show entsL l.items ++ e :: entsL (r.put g en) = _
      rw [put_ents g en (srt_left hs').2 (fun x q => hx x (by simp [q]))]
      obtain ⟨a1,a2⟩ := ins_right en.row hs (by omega)
      rw [a1,a2]
      simp [Tr.ents]
theorem doc_put (g : Nat) (en : Ent) {t t' : Tr} (hs : Srt t.ents) (hx : fndD en.row (docT t) = none) (h0 : en.many ≠ 0) (hi : t'.items = t.put g en) : docT t' = putD en.row en.many (docT t) := by
  have hne : ∀ x ∈ t.ents,rcmp en.row x.row ≠ 0 := fun x hxm => by
    have := List.find?_eq_none.1 hx ⟨x.row,x.many⟩ (List.mem_map_of_mem (f := fun e : Ent => (⟨e.row,e.many⟩ : En)) hxm)
    simpa using this
  have e1 : t'.ents = ahead en.row t.ents ++ en :: behind en.row t.ents := by
    rw [← put_ents g en hs hne,← hi];rfl
  unfold docT docE
  rw [e1]
  unfold putD loD hiD ahead behind
  rw [if_neg h0,List.map_append,List.map_cons,List.filter_map,List.filter_map,List.append_assoc]
  congr 1
  show _ :: _ = _ :: _
  congr 1
  congr 1
  apply List.filter_congr
  intro x hxm
  have := hne x hxm
  have an := rcmp_anti en.row x.row
  show (!decide (rcmp x.row en.row < 0)) = decide (rcmp en.row x.row < 0)
  by_cases c : rcmp x.row en.row < 0
  · rw [decide_eq_true c,decide_eq_false (show ¬ rcmp en.row x.row < 0 by omega)];rfl
  · rw [decide_eq_false c,decide_eq_true (show rcmp en.row x.row < 0 by omega)];rfl
theorem doc_drop {r : Rw} {t t' : Tr} (hs : Srt t.ents) (hi : t'.ents = others r t.ents) : docT t' = putD r 0 (docT t) := by
  have e1 : docT t' = (docT t).filter (fun x => !decide (rcmp r x.f0 = 0)) := by
    unfold docT docE
    rw [hi,List.filter_map]
    rfl
  rw [e1]
  obtain ⟨s1,s2⟩ := srt_split r (srtD_of hs)
  show List.filter _ (docE t.ents) = _
  rw [s1,List.filter_append,List.filter_append,filter_all (l := loD _ _) (fun x hx => by
    have := (mem_lo hx).2
    rw [rcmp_anti] at this
    simp;omega),filter_none (l := eqD _ _) (fun x hx => by
    have := List.mem_filter.1 hx
    simpa using this.2),filter_all (l := hiD _ _) (fun x hx => by
    have := (mem_hi hx).2
    simp;omega)]
  unfold putD
  rw [if_pos rfl]
  rfl
def Tr.upd (bx : Nat) (m : Int) : Tr → Tr
  | .nil => .nil
  | .node b e l r h => .node b (if b = bx then { e with many := m } else e) (l.upd bx m) (r.upd bx m) h
theorem Tr.upd_ptr (bx : Nat) (m : Int) (t : Tr) : (t.upd bx m).ptr = t.ptr := by cases t <;> rfl
def updI (bx : Nat) (m : Int) (x : Nat × Ent) : Nat × Ent := if x.1 = bx then (x.1,{ x.2 with many := m }) else x
theorem Tr.upd_items (bx : Nat) (m : Int) : ∀ t : Tr,(t.upd bx m).items = t.items.map (updI bx m)
  | .nil => rfl
  | .node b e l r h => by
    simp only [Tr.upd,Tr.items]
    rw [Tr.upd_items bx m l,Tr.upd_items bx m r,List.map_append,List.map_cons]
    unfold updI
    by_cases c : b = bx
    · simp [c]
    · simp [c]
theorem Tr.upd_ids (bx : Nat) (m : Int) (t : Tr) : (t.upd bx m).ids = t.ids := by
  unfold Tr.ids idsL
  rw [Tr.upd_items,List.map_map]
  apply List.map_congr_left
  intro x _
  show (updI bx m x).1 = x.1
  unfold updI
  split <;> rfl
theorem Tr.upd_size (bx : Nat) (m : Int) (t : Tr) : (t.upd bx m).size = t.size := by unfold Tr.size;rw [Tr.upd_items,List.length_map]
theorem Tr.upd_hok (bx : Nat) (m : Int) : ∀ {t : Tr},t.Hok → (t.upd bx m).Hok
  | .nil,_ => trivial
  | .node b e l r h,⟨h1,h2,hl,hr⟩ => ⟨h1,by rw [Tr.upd_size,Tr.upd_size];exact h2,Tr.upd_hok bx m hl,Tr.upd_hok bx m hr⟩
theorem Tr.In.upd {w : World} {D : Nat → Prop} {bx : Nat} (m : Int) (hD : ¬ D bx) : ∀ {t : Tr},t.In w D → (t.upd bx m).In (w.setCell ⟨bx,1,none⟩ (.int .i64 m)) D
  | .nil,_ => trivial
  | .node b e l r h,⟨h0,he,hl,hr⟩ => by
    have cb : Ch (fun x => x = bx) w (w.setCell ⟨bx,1,none⟩ (.int .i64 m)) := (Ch.refl (fun x => x = bx) w).setCell (p := ⟨bx,1,none⟩) (.inl rfl) _
    refine ⟨?_,?_,Tr.In.upd m hD hl,Tr.In.upd m hD hr⟩
    · by_cases c : b = bx
      · subst c
        rw [if_pos rfl]
        refine blk_put h0 1 _ ?_
        unfold ncells
        rw [Tr.upd_ptr,Tr.upd_ptr]
        rfl
      · rw [if_neg c]
        refine (blk_far h0 (p := ⟨bx,1,none⟩) c _).trans ?_
        unfold ncells
        rw [Tr.upd_ptr,Tr.upd_ptr]
    · have hs := he.step (fun x hx hlt => cb.block x hlt (fun q => hD (q ▸ hx)))
      by_cases c : b = bx
      · rw [if_pos c];exact ⟨hs.cap,hs.row⟩
      · rw [if_neg c];exact hs
theorem NdIn.upd {w : World} {D : Nat → Prop} {t : Tr} {bx : Nat} (m : Int) (h : NdIn w D t) (hb : bx ∈ t.ids) : NdIn (w.setCell ⟨bx,1,none⟩ (.int .i64 m)) D (t.upd bx m) :=
  ⟨h.inn.upd m (fun hd => h.dis bx hd hb),by rw [Tr.upd_ids];exact h.nd,fun x hx => by rw [Tr.upd_ids];exact h.dis x hx⟩
theorem find_parts {α : Type} {p : α → Bool} {l : List α} {x : α} (h : l.find? p = some x) : ∃ a b,l = a ++ x :: b ∧ p x = true := by
  obtain ⟨h1,a,b,e,_⟩ := List.find?_eq_some_iff_append.1 h
  exact ⟨a,b,e,h1⟩
theorem ids_mem {t : Tr} {x : Nat × Ent} (h : x ∈ t.items) : x.1 ∈ t.ids := List.mem_map_of_mem (f := Prod.fst) h
theorem doc_upd {r : Rw} {now : Int} {t : Tr} {bx : Nat} {ex : Ent} (hs : Srt t.ents) (hnd : t.ids.Nodup) (hf : t.items.find? (isRow r) = some (bx,ex)) (he : ex.row = r) (h0 : now ≠ 0) : docT (t.upd bx now) = putD r now (docT t) := by
  obtain ⟨a,b,e1,hp⟩ := find_parts hf
  have hs' : Srt (entsL (a ++ (bx,ex) :: b)) := by rw [← e1];exact hs
  have hn' : (idsL (a ++ (bx,ex) :: b)).Nodup := by rw [← e1];exact hnd
  obtain ⟨s1,s2⟩ := srt_items hs'
  have n1 : ∀ y ∈ a,y.1 ≠ bx := fun y hy q => by
    rw [idsL_app] at hn'
    exact (List.nodup_append.1 hn').2.2 y.1 (List.mem_map_of_mem (f := Prod.fst) hy) bx (by simp [idsL]) q
  have n2 : ∀ y ∈ b,y.1 ≠ bx := fun y hy q => by
    rw [idsL_app] at hn'
    have := (List.nodup_append.1 hn').2.1
    exact (List.nodup_cons.1 (show (bx :: idsL b).Nodup from this)).1 (q ▸ List.mem_map_of_mem (f := Prod.fst) hy)
  have m1 : a.map (updI bx now) = a := by
    conv => rhs;rw [← List.map_id a]
    exact List.map_congr_left (fun y hy => by unfold updI;rw [if_neg (n1 y hy)];rfl)
  have m2 : b.map (updI bx now) = b := by
    conv => rhs;rw [← List.map_id b]
    exact List.map_congr_left (fun y hy => by unfold updI;rw [if_neg (n2 y hy)];rfl)
  have d1 : docT (t.upd bx now) = docE (entsL a) ++ (⟨ex.row,now⟩ : En) :: docE (entsL b) := by
    unfold docT Tr.ents
    rw [Tr.upd_items,e1,List.map_append,List.map_cons,m1,m2,entsL_app]
    unfold updI
    rw [if_pos rfl]
    unfold docE
    rw [List.map_append]
    rfl
  have d2 : docT t = docE (entsL a) ++ (⟨ex.row,ex.many⟩ : En) :: docE (entsL b) := by
    unfold docT Tr.ents
    rw [e1,entsL_app]
    unfold docE
    rw [List.map_append]
    rfl
  have ha : ∀ y ∈ docE (entsL a),rcmp y.f0 r < 0 := fun y hy => by
    unfold docE entsL at hy
    rw [List.map_map] at hy
    obtain ⟨z,hz,rfl⟩ := List.mem_map.1 hy
    have := s1 z hz
    rw [← he];exact this
  have hb : ∀ y ∈ docE (entsL b),rcmp r y.f0 < 0 := fun y hy => by
    unfold docE entsL at hy
    rw [List.map_map] at hy
    obtain ⟨z,hz,rfl⟩ := List.mem_map.1 hy
    have := s2 z hz
    rw [← he];exact this
  rw [d1,d2]
  unfold putD loD hiD
  rw [if_neg h0,List.filter_append,List.filter_append,List.filter_cons,List.filter_cons,filter_all (l := docE (entsL a)) (fun y hy => decide_eq_true (ha y hy)),filter_none (l := docE (entsL b)) (fun y hy => by have := hb y hy;rw [rcmp_anti] at this;exact decide_eq_false (by omega)),filter_none (l := docE (entsL a)) (fun y hy => by have := ha y hy;rw [rcmp_anti] at this;exact decide_eq_false (by omega)),filter_all (l := docE (entsL b)) (fun y hy => decide_eq_true (hb y hy))]
  have z1 : rcmp r r = 0 := rcmp_law.self r
  have z2 : ¬ rcmp r r < 0 := by omega
  simp [he,z2]
theorem fnd_doc (r : Rw) (t : Tr) : fndD r (docT t) = (t.items.find? (isRow r)).map (fun x => ⟨x.2.row,x.2.many⟩) := by
  unfold fndD docT docE Tr.ents entsL
  rw [List.map_map,List.find?_map]
  rfl
theorem many_some {r : Rw} {t : Tr} {x : Nat × Ent} (h : t.items.find? (isRow r) = some x) : manyD r (docT t) = x.2.many := by
  unfold manyD;rw [fnd_doc,h];rfl
theorem many_none {r : Rw} {t : Tr} (h : t.items.find? (isRow r) = none) : manyD r (docT t) = 0 := by
  unfold manyD;rw [fnd_doc,h];rfl
theorem doc_len (t : Tr) : (docT t).length = t.size := by unfold docT docE;rw [List.length_map,Tr.size_ents]
end Go.Proofs.Ythmbfcfomcaaaaa.Z
end
section
namespace Go.Proofs.YthmbfcfomcaaaaaW.PrintMore
set_option linter.unusedVariables false
open Go.RowKit Go.Proofs.YthmbfcfomcaaaaaW.PrintWords Go.Proofs.YthmbfcfomcaaaaaW.PrintLast
section
variable {P : Program} {ops : Array Oper} {Q : Exit → Act → World → Prop} {l n : Nat}
theorem rows_round {row : String} {args : Array Value} {w : World} {R : Value → World → Prop} (h : Rows P row args w R) : RowsIn (Fence.wide.inRound l) n P row args w R := by
  intro c cs _
  obtain ⟨v,w',r,s⟩ := h c cs
  exact ⟨v,w',r,stepsIn_wide.2 s⟩
theorem oper_round {o : Oper} {a : Act} {w : World} {K K' : Act → World → Prop} (hd : ∀ c,o.op ≠ .defer c) (hq : ¬ LetsOut Q) (hk : ∀ a w,K a w → K' a w) (h : o.wp P a w K Q) : o.wpIn (Fence.wide.inRound l) n P a w K' Q := by
  refine ⟨fun f _ => trivial,?_⟩
  show o.uponIn _ _ _ _ _ _ ((o.semAt (some l) a.eval).run P w)
  rw [Oper.semAt_some l a.eval o hd]
  unfold Oper.wp at h
  cases hr : (execOp a.eval o).run P w with
  | ok x w' =>
    rw [hr] at h
    cases x with
    | value v => exact hk _ _ h
    | skip => exact hk _ _ h
    | defer d => exact hk _ _ h
    | enter f args =>
      refine ⟨(fun hh => by cases hh),CallsIn.inRound l (callsIn_wide.2 (Calls.mono h ?_))⟩
      intro e w2 he
      cases e with
      | returned v => exact hk _ _ he
      | panicked c => exact he
      | outgrown => exact he
    | row r args => exact ⟨(fun hh => by cases hh),rows_round (Rows.mono h (fun v w2 he => hk _ _ he))⟩
    | _ => exact h.elim
  | halt x w' =>
    rw [hr] at h
    cases x <;> first | exact h | exact h.elim
theorem any_round {md : Region.Mode} (hd : ∀ (j : Nat) (o : Oper),ops[j]? = some o → ∀ c,o.op ≠ .defer c) (hq : ¬ LetsOut Q) : ∀ (fuel : Nat) (listed : Array Bool) (a : Act) (w : World),wpAny P md ops Q fuel listed a w → wpAnyIn (Fence.wide.inRound l) n P md ops Q fuel listed a w
  | 0,_,_,_,h => h
  | fuel + 1,listed,a,w,h => ⟨h.1,fun i hi => by
      have hw := h.2 i hi
      unfold wpOp at hw
      unfold wpOpIn
      cases ho : ops[i]? with
      | none => rw [ho] at hw;exact any_round hd hq fuel _ a w hw
      | some o =>
        rw [ho] at hw
        show if _ then _ else _
        replace hw : (if Region.wanted o (yielded ops a.tmps) = true then _ else _) := hw
        split
        · rename_i hc
          rw [if_pos hc] at hw
          rcases hw with hw | hw
          · exact oper_round (hd i o ho) hq (fun a w h => any_round hd hq fuel _ a w h) hw
          · exact absurd hw.2 hq
        · rename_i hc
          rw [if_neg hc] at hw
          exact ⟨fun _ _ => trivial,any_round hd hq fuel _ _ w hw⟩⟩
theorem region_round {id : Nat} {a : Act} {w : World} (hm : P.follows .mixedOrders = true) (hd : ∀ (j : Nat) (o : Oper),ops[j]? = some o → ∀ c,o.op ≠ .defer c) (hq : ¬ LetsOut Q)
    (h : wpAny P .any ops Q ops.size (Array.replicate ops.size false) a { w with drawn := w.drawn + 1 }) : (Code.region id ops true).wpIn (Fence.wide.inRound l) n P Q a w :=
  wpIn_region_any hm (any_round hd hq _ _ _ _ h)
def noDefer (ops : Array Oper) : Bool := ops.toList.all fun o => match o.op with | .defer _ => false | _ => true
theorem noDefer_at (h : noDefer ops = true) : ∀ (j : Nat) (o : Oper),ops[j]? = some o → ∀ c,o.op ≠ .defer c := by
  intro j o hj c e
  have hm : o ∈ ops.toList := by
    rw [← Array.getElem?_toList] at hj
    exact List.mem_of_getElem? hj
  have := List.all_eq_true.1 h o hm
  rw [e] at this
  cases this
theorem startR_ {id m : Nat} {S : World → Prop} {ds : List Nat} {a : Act} {w : World} (l_ : Array Bool) (hm : P.follows .mixedOrders = true) (hd : ∀ (j : Nat) (o : Oper),ops[j]? = some o → ∀ c,o.op ≠ .defer c) (hq : ¬ LetsOut Q) (hn : ops.size = m) (hl : Array.replicate m false = l_) (hS : S w.drew)
    (h : S w.drew → wpAnyLast P .any ops Q S ds m l_ a w.drew) : (Code.region id ops true).wpIn (Fence.wide.inRound l) n P Q a w := by
  subst hn
  subst hl
  exact region_round hm hd hq (wpAny_of_last _ _ _ _ (h hS))
end
end Go.Proofs.YthmbfcfomcaaaaaW.PrintMore
end
section
namespace Go.Proofs.Ythmbfcfomcaaaaa.Z
set_option linter.unusedVariables false
set_option linter.unusedSimpArgs false
open Go.RowKit Go.Shelf Go.Proofs.YthmbfcfomcaaaaaW.PrintWords Go.Proofs.YthmbfcfomcaaaaaW.PrintLast Go.Proofs.YthmbfcfomcaaaaaW.PrintMore Go.Proofs.Ythmbfcfomcaaaaa.Cmp
attribute [local go_sem] Oper.semAt_some
theorem yield_any {m : Nat} (m' : Nat) {P : Program} {l : Nat} {args : Array Value} {W : World} {R : Ending → World → Prop} (h : YieldAt Fence.wide m P l args W R) : YieldAt Fence.wide m' P l args W R := by
  obtain ⟨fn,tmps,assign,body,hy,hR⟩ := h
  exact ⟨fn,tmps,assign,body,hy,hR.1,fun c cs _ => hR.2 c cs (room_wide _)⟩
def ptrOf (x : Nat × Ent) : Array Value := #[.pointer (some ⟨x.1,0,none⟩)]
structure InB (n₀ : Nat) (w : World) (D : Nat → Prop) (t : Tr) : Prop where
  inn : t.In w D
  ids : ∀ k ∈ t.ids,k < n₀
  dat : ∀ k,D k → k < n₀
theorem InB.below {n₀ : Nat} {w w1 : World} {D : Nat → Prop} {t : Tr} (h : InB n₀ w D t) (hb : Below n₀ w w1) : InB n₀ w1 D t :=
  ⟨h.inn.step (fun k hk => hb.block k (h.ids k hk)) (fun k hk _ => hb.block k (h.dat k hk)),h.ids,h.dat⟩
theorem InB.left {n₀ : Nat} {w : World} {D : Nat → Prop} {b : Nat} {e : Ent} {l r : Tr} {k : Int} (h : InB n₀ w D (.node b e l r k)) : InB n₀ w D l :=
  ⟨h.inn.2.2.1,fun x hx => h.ids x (by rw [Tr.ids_node];simp [hx]),h.dat⟩
theorem InB.right {n₀ : Nat} {w : World} {D : Nat → Prop} {b : Nat} {e : Ent} {l r : Tr} {k : Int} (h : InB n₀ w D (.node b e l r k)) : InB n₀ w D r :=
  ⟨h.inn.2.2.2,fun x hx => h.ids x (by rw [Tr.ids_node];simp [hx]),h.dat⟩
theorem InB.root {n₀ : Nat} {w : World} {D : Nat → Prop} {b : Nat} {e : Ent} {l r : Tr} {k : Int} (h : InB n₀ w D (.node b e l r k)) : b < n₀ := h.ids b (by rw [Tr.ids_node];simp)
set_option maxRecDepth 100000 in
set_option maxHeartbeats 2000000 in
theorem nd_walk {D : Nat → Prop} (l n₀ N : Nat) (S : Nat × Ent → Prop) (J Jx : List (Nat × Ent) → World → Prop)
    (hY : ∀ m pre x W,J pre W → S x → pre.length < N → YieldAt Fence.wide m Try.prog l (ptrOf x) W fun e W' =>
      (e = .returned (.bool true) ∧ J (pre ++ [x]) W' ∧ Below n₀ W W') ∨ (e = .returned (.bool false) ∧ Jx (pre ++ [x]) W')) (t : Tr) :
    ∀ (n : Nat) (pre : List (Nat × Ent)) (W : World),(∀ y ∈ t.items,S y) → InB n₀ W D t → J pre W → pre.length + t.items.length ≤ N →
      CallsIn Fence.wide n Try.prog 98 #[t.ptr,.func (.yield l) #[] #[]] W fun e W' =>
        (e = .returned (.bool true) ∧ J (pre ++ t.items) W' ∧ Below n₀ W W') ∨ (e = .returned (.bool false) ∧ ∃ q,q <+: t.items ∧ Jx (pre ++ q) W') := by
  induction t with
  | nil =>
    intro n pre W hS ht hJ _
    refine callsIn_of_wp Try.func98 rfl trivial ?_ rfl
    simp only [Tr.ptr,Try.ntmps98,List.size_toArray,List.length_cons,List.length_nil,Nat.reduceAdd,Nat.reduceSub,Array.replicate_succ,Array.replicate_zero,List.push_toArray,List.append_toArray,List.nil_append,List.cons_append]
    have hw98 : Fence.wide.fn 98 := trivial
    gi_wp2
    all_goals first
      | exact absurd ‹some undef = some (Value.bool _)› (by simp [undef])
      | (refine ⟨(fun _ h => by cases h),?_⟩
         gi_wp2
         go_ret
         exact .inl ⟨rfl,by simpa [Tr.items] using hJ,Below.refl _ _⟩)
  | node b e tl tr k ihl ihr =>
    intro n pre W hS ht hJ hN
    have hS0 : S (b,e) := hS _ (by simp [Tr.items])
    have hSl : ∀ y ∈ tl.items,S y := fun y hy => hS y (by simp [Tr.items,hy])
    have hSr : ∀ y ∈ tr.items,S y := fun y hy => hS y (by simp [Tr.items,hy])
    have HSR := Aside0.mk hSr
    have hb := ht.root
    have c2 := blk_cell ht.inn.1 2
    have c3 := blk_cell ht.inn.1 3
    simp only [ncells,List.getElem?_toArray,List.getElem?_cons_zero,List.getElem?_cons_succ] at c2 c3
    have hN2 : pre.length + (tl.items.length + (tr.items.length + 1)) ≤ N := by simpa [Tr.items] using hN
    have hy2 : ∀ W1,J (pre ++ tl.items) W1 → Below n₀ W W1 → YieldAt Fence.wide (n - 1) Try.prog l #[.pointer (some ⟨b,0,none⟩)] W1 fun e' W2 =>
        (e' = .returned (.bool true) ∧ J (pre ++ tl.items ++ [(b,e)]) W2 ∧ Below n₀ W W2 ∧ W2.cell? ⟨b,3,none⟩ = some tr.ptr ∧ InB n₀ W2 D tr) ∨ (e' = .returned (.bool false) ∧ Jx (pre ++ tl.items ++ [(b,e)]) W2) := fun W1 hJ1 hb1 =>
      YieldAt.mono (hY (n - 1) _ (b,e) W1 hJ1 hS0 (by simp;omega)) fun e' W2 h => h.elim
        (fun ⟨he,hj,hb2⟩ => .inl ⟨he,hj,hb1.trans hb2,((hb1.trans hb2).cell (p := ⟨b,3,none⟩) hb).trans c3,ht.right.below (hb1.trans hb2)⟩) .inr
    have ih1 := (ihl (n - 1) pre W hSl ht.left hJ (by omega)).mono (R' := fun e' W1 =>
        (e' = .returned (.bool true) ∧ YieldAt Fence.wide (n - 1) Try.prog l #[.pointer (some ⟨b,0,none⟩)] W1 fun e' W2 =>
          (e' = .returned (.bool true) ∧ J (pre ++ tl.items ++ [(b,e)]) W2 ∧ Below n₀ W W2 ∧ W2.cell? ⟨b,3,none⟩ = some tr.ptr ∧ InB n₀ W2 D tr) ∨ (e' = .returned (.bool false) ∧ Jx (pre ++ tl.items ++ [(b,e)]) W2)) ∨
        (e' = .returned (.bool false) ∧ ∃ q,q <+: tl.items ∧ Jx (pre ++ q) W1))
      (fun e' W1 h => h.elim (fun ⟨he,hj,hb1⟩ => .inl ⟨he,hy2 W1 hj hb1⟩) .inr)
    clear hy2 ihl c3 ht hN hY hS hS0 hSl hSr
    refine callsIn_of_wp Try.func98 rfl trivial ?_ rfl
    simp only [Tr.ptr,Try.ntmps98,List.size_toArray,List.length_cons,List.length_nil,Nat.reduceAdd,Nat.reduceSub,Array.replicate_succ,Array.replicate_zero,List.push_toArray,List.append_toArray,List.nil_append,List.cons_append]
    have hw98 : Fence.wide.fn 98 := trivial
    have hdd : ∀ k : Nat,(Fence.wide.depth.isSome = true → 1 ≤ k) := fun k h => by cases h
    gi_wp2_with (first
      | ((try refine ⟨hdd _,?_⟩);gi_at_call 98;refine ih1.mono ?_;clear ih1;rintro e' W1 (⟨rfl,fn,tmps,assign,body,hy,hR⟩ | ⟨rfl,q,hq,hx1⟩))
      | ((try refine ⟨hdd _,?_⟩);refine hR.mono ?_;clear hR;rintro e' W2 (⟨rfl,hJ2,hb2,c2',hr2⟩ | ⟨rfl,hx2⟩))
      | ((try refine ⟨hdd _,?_⟩);gi_at_call 98;refine (ihr (n - 1) _ _ HSR.out hr2 hJ2 (by simp;omega)).mono ?_;rintro e' W3 (⟨rfl,hJ3,hb3⟩ | ⟨rfl,q,hq,hx3⟩)))
    · go_ret
      exact .inl ⟨rfl,by simpa [Tr.items,List.append_assoc] using hJ3,hb2.trans hb3⟩
    · go_ret
      obtain ⟨r,hr'⟩ := hq
      exact .inr ⟨rfl,tl.items ++ (b,e) :: q,⟨r,by simp [Tr.items,← hr']⟩,by simpa [List.append_assoc] using hx3⟩
    · go_ret
      exact .inr ⟨rfl,tl.items ++ [(b,e)],⟨tr.items,by simp [Tr.items]⟩,by simpa [List.append_assoc] using hx2⟩
    · refine ⟨(fun _ h => by cases h),?_⟩
      gi_wp2
      go_ret
      exact .inr ⟨rfl,q,hq.trans (by simp [Tr.items]),hx1⟩
set_option maxRecDepth 100000 in
set_option maxHeartbeats 2000000 in
theorem nd_all1 {D : Nat → Prop} (n l Bt n₀ : Nat) (t : Tr) (J Jx : List (Nat × Ent) → World → Prop)
    (hY : ∀ pre x W,J pre W → x ∈ t.items → pre.length < t.items.length → YieldAt Fence.wide (n - 1) Try.prog l (ptrOf x) W fun e W' =>
      (e = .returned (.bool true) ∧ J (pre ++ [x]) W' ∧ Below n₀ W W') ∨ (e = .returned (.bool false) ∧ Jx (pre ++ [x]) W'))
    (W : World) (hBt : W.cell? ⟨Bt,0,none⟩ = some t.ptr) (hT : InB n₀ W D t) (h0 : J [] W) :
    CallsIn Fence.wide n Try.prog 97 #[.func (.yield l) #[] #[],.pointer (some ⟨Bt,0,none⟩)] W fun e W' => (∃ v,e = .returned v) ∧
      ((∃ ys,ys = t.items ∧ J ys W') ∨ (∃ pre,pre <+: t.items ∧ Jx pre W')) := by
  have hdd : ∀ k : Nat,(Fence.wide.depth.isSome = true → 1 ≤ k) := fun k h => by cases h
  have hp := nd_walk l n₀ t.items.length (fun x => x ∈ t.items) J Jx (fun m pre x W hj hs hl => yield_any m (hY pre x W hj hs hl)) t (n - 1) [] W (fun _ h => h) hT h0 (by simp)
  have hw98 : Fence.wide.fn 98 := trivial
  obtain ⟨q,hq⟩ := ptr_case t
  rw [hq] at hBt hp
  refine callsIn_of_wp Try.func97 rfl trivial ?_ rfl
  simp only [Try.ntmps97,List.size_toArray,List.length_cons,List.length_nil,Nat.reduceAdd,Nat.reduceSub,Array.replicate_succ,Array.replicate_zero,List.push_toArray,List.append_toArray,List.nil_append,List.cons_append]
  clear hY hq
  gi_wp2_with ((try refine ⟨hdd _,?_⟩);gi_at_call 98;refine hp.mono ?_;clear hp;rintro e W1 (⟨rfl,hJ1,_⟩ | ⟨rfl,q,hq,hx⟩))
  · go_end0
    exact ⟨⟨_,rfl⟩,.inl ⟨_,rfl,by simpa using hJ1⟩⟩
  · go_end0
    exact ⟨⟨_,rfl⟩,.inr ⟨q,hq,by simpa using hx⟩⟩
set_option maxRecDepth 100000 in
set_option maxHeartbeats 1000000 in
theorem nd_all (t : Tr) (w : World) :
    Calls Try.prog 76 #[t.ptr] w fun e w' => e = .returned (.func (.func 97) #[] #[.pointer (some ⟨w.heap.size,0,none⟩)]) ∧ w' = w.alloc (.cells #[t.ptr] 81) := by
  obtain ⟨q,hq⟩ := ptr_case t
  rw [hq]
  clear hq
  go_enter Try.func76,Try.ntmps76
  go_wp2
  go_ret
  exact ⟨rfl,rfl⟩
theorem nd_all_stops {D : Nat → Prop} (n Bt n₀ : Nat) (t : Tr) (w : World) (hBt : Bt < w.heap.size) (hn₀ : n₀ ≤ w.heap.size) (hc : w.cell? ⟨Bt,0,none⟩ = some t.ptr) (hT : InB n₀ w D t) :
    SeqStopsK Fence.wide n Try.prog 97 #[.pointer (some ⟨Bt,0,none⟩)] (fun x : { x : Nat × Ent // x ∈ t.items } => ptrOf x.1) (Below n₀) (fun ys => ys.map Subtype.val = t.items) (fun pre => pre.map Subtype.val <+: t.items) t.items.length w := fun l J Jx W hW _ _ hY h0 => by
  refine (nd_all1 n l Bt n₀ t (fun pre W => ∃ p : List { x : Nat × Ent // x ∈ t.items },p.map Subtype.val = pre ∧ J p W) (fun pre W => ∃ p : List { x : Nat × Ent // x ∈ t.items },p.map Subtype.val = pre ∧ Jx p W) ?_ W ((hW.cell (p := ⟨Bt,0,none⟩) hBt).trans hc) (hT.below (hW.mono hn₀)) ⟨[],rfl,h0⟩).mono ?_
  · rintro pre x W1 ⟨p,rfl,hj⟩ hx hlt
    refine YieldAt.mono (hY p ⟨x,hx⟩ W1 hj (by simpa using hlt)) ?_
    rintro e W2 (⟨he,hj2,hb⟩ | ⟨he,hj2⟩)
    · exact .inl ⟨he,⟨p ++ [⟨x,hx⟩],by simp,hj2⟩,hb⟩
    · exact .inr ⟨he,⟨p ++ [⟨x,hx⟩],by simp,hj2⟩⟩
  · rintro e W2 ⟨he,(⟨ys,rfl,p,hp,hj⟩ | ⟨pre,hpre,p,hp,hj⟩)⟩
    · exact ⟨he,.inl ⟨p,hp,hj⟩⟩
    · exact ⟨he,.inr ⟨p,(by show List.map Subtype.val p <+: t.items;rw [hp];exact hpre),hj⟩⟩
end Go.Proofs.Ythmbfcfomcaaaaa.Z
end
section
namespace Go.Proofs.Ythmbfcfomcaaaaa.Z
open Go.RowKit Go.Proofs.YthmbfcfomcaaaaaW.PrintWords Go.Proofs.YthmbfcfomcaaaaaW.PrintLast Go.Proofs.YthmbfcfomcaaaaaW.PrintMore
attribute [local go_sem] max2_int min2_int max_two min_two max_three min_three max_four min_four
set_option linter.unusedVariables false
set_option linter.unusedSimpArgs false
def bag_few.f (a0 : Int) : Option (Bool) := if a0 ≥ (-1073741824) then (some (decide (a0 ≤ 1073741824))) else (some false)
set_option maxHeartbeats 8000000 in
set_option maxRecDepth 100000 in
theorem bag_few.calls (a0 : Int) (r : Bool) (w : World) (h : bag_few.f a0 = some r) :
    Calls Try.prog 75 #[.int .i64 a0] w fun e w' => e = .returned (.bool r) ∧ Drawn0 w w' := by
  have H : (if a0 ≥ (-1073741824) then (some (decide (a0 ≤ 1073741824))) else (some false)) = some r := h
  clear h
  by_cases c2 : a0 ≥ (-1073741824)
  · rw [if_pos c2] at H
    have c2b0 : decide ((-1073741824) ≤ a0) = true := decide_eq_true c2
    clear c2
    obtain rfl := Option.some.inj H
    go_enter Try.func75,Try.ntmps75
    go_wp2
    go_ret
    exact ⟨by first | rfl | (simp;done) | (simp [*];done),by repeat (first | exact Drawn0.refl _ | apply Drawn0.step)⟩
  · rw [if_neg c2] at H
    have c2b0 : decide ((-1073741824) ≤ a0) = false := decide_eq_false c2
    clear c2
    obtain rfl := Option.some.inj H
    go_enter Try.func75,Try.ntmps75
    go_wp2
    go_ret
    exact ⟨by first | rfl | (simp;done) | (simp [*];done),by repeat (first | exact Drawn0.refl _ | apply Drawn0.step)⟩
end Go.Proofs.Ythmbfcfomcaaaaa.Z
end
section
namespace Go.Proofs.Ythmbfcfomcaaaaa.Z
set_option linter.unusedVariables false
set_option linter.unusedSimpArgs false
open Go.RowKit Go.Proofs.YthmbfcfomcaaaaaW.PrintWords Go.Proofs.YthmbfcfomcaaaaaW.PrintLast Go.Proofs.YthmbfcfomcaaaaaW.PrintMore Go.Proofs.Ythmbfcfomcaaaaa.Cmp
def bcells (t : Tr) : Array Value := #[t.ptr,.int .i64 t.size]
structure BagAt (w : World) (b : Nat) (t : Tr) (D : Nat → Prop) : Prop where
  blk : w.heap[b]? = some (.cells (bcells t) 83 (0,0))
  tree : NdIn w D t
  hok : t.Hok
  srt : Srt t.ents
  ok : OkD (docT t)
  b_ids : b ∉ t.ids
  b_dat : ¬ D b
  dcell : ∀ k,D k → ∃ cs q,w.heap[k]? = some (.cells cs q (0,0))
theorem BagAt.srtD {w : World} {b : Nat} {t : Tr} {D : Nat → Prop} (h : BagAt w b t D) : SrtD (docT t) := srtD_of h.srt
theorem BagAt.lt {w : World} {b : Nat} {t : Tr} {D : Nat → Prop} (h : BagAt w b t D) : b < w.heap.size ∧ (∀ k ∈ t.ids,k < w.heap.size) ∧ ∀ k,D k → k < w.heap.size :=
  ⟨blk_lt h.blk,h.tree.inn.lt,fun k hk => by obtain ⟨cs,q,hc⟩ := h.dcell k hk;exact blk_lt hc⟩
def BagOwn (b : Nat) (t : Tr) (D : Nat → Prop) (k : Nat) : Prop := k = b ∨ k ∈ t.ids ∨ D k
theorem BagAt.keep {w w1 : World} {b : Nat} {t : Tr} {D S : Nat → Prop} (h : BagAt w b t D) (hc : Ch S w w1) (hS : ∀ k,S k → ¬ BagOwn b t D k) : BagAt w1 b t D :=
  ⟨hc.blk h.blk (fun s => hS b s (.inl rfl)),h.tree.keep hc (fun k hk s => hS k s (.inr (.inl hk))) (fun k hk s => hS k s (.inr (.inr hk))),h.hok,h.srt,h.ok,h.b_ids,h.b_dat,fun k hk => by
    obtain ⟨cs,q,hk'⟩ := h.dcell k hk
    exact ⟨cs,q,hc.blk hk' (fun s => hS k s (.inr (.inr hk)))⟩⟩
theorem BagAt.below {w w1 : World} {b : Nat} {t : Tr} {D : Nat → Prop} (h : BagAt w b t D) (hb : Below w.heap.size w w1) : BagAt w1 b t D := h.keep (Ch.of_below (S := fun _ => False) hb) (fun _ hk => hk.elim)
theorem BagAt.heap {w w1 : World} {b : Nat} {t : Tr} {D : Nat → Prop} (h : BagAt w b t D) (e : w1.heap = w.heap) : BagAt w1 b t D :=
  ⟨by rw [e];exact h.blk,h.tree.heap e,h.hok,h.srt,h.ok,h.b_ids,h.b_dat,fun k hk => by rw [e];exact h.dcell k hk⟩
set_option maxHeartbeats 2000000 in
set_option maxRecDepth 100000 in
theorem bag_new (w : World) : Calls Try.prog 15 #[] w fun e w' => e = .returned (.pointer (some ⟨w.heap.size,0,none⟩)) ∧ BagAt w' w.heap.size .nil (fun _ => False) ∧ Below w.heap.size w w' := by
  have h1 := Aside0.mk (blk_new w (Obj.cells (bcells .nil) 83 (0,0)))
  have b1 := Aside0.mk (below_alloc (Below.refl w.heap.size w) (Obj.cells (bcells .nil) 83 (0,0)))
  go_enter Try.func15,Try.ntmps15
  go_wp2
  go_ret
  exact ⟨rfl,⟨h1.out,⟨trivial,List.nodup_nil,fun _ h => h.elim⟩,trivial,List.Pairwise.nil,fun x hx => by simp [docT,docE,Tr.ents_nil] at hx,by simp [Tr.ids_nil],fun h => h,fun _ h => h.elim⟩,b1.out⟩
set_option maxHeartbeats 2000000 in
set_option maxRecDepth 100000 in
theorem bag_many {D : Nat → Prop} (b : Nat) (t : Tr) (A : Option Addr) (c : Nat) (r : Rw) (w : World) (h : BagAt w b t D) (hr : RowC w A c r) :
    Calls Try.prog 18 #[.pointer (some ⟨b,0,none⟩),.slice A r.length c] w fun e w' => e = .returned (.int .i64 (manyD r (docT t))) ∧ Below w.heap.size w w' := by
  have HA := Aside0.mk h
  have FN := Aside0.mk (nd_find t A c r w h.tree.inn h.srt hr)
  have c0 := blk_cell h.blk 0
  simp only [bcells,List.getElem?_toArray,List.getElem?_cons_zero] at c0
  obtain ⟨q,hq⟩ := ptr_case t
  rw [hq] at c0 FN
  obtain ⟨mm,hmm⟩ : ∃ mm,manyD r (docT t) = mm := ⟨_,rfl⟩
  have HM := Aside0.mk hmm
  rw [hmm]
  clear h hr hq hmm
  go_enter Try.func18,Try.ntmps18
  go_wp2_with (fail)
  refine FN.out.mono ?_
  rintro e w1 ⟨rfl,hb⟩
  have HB := Aside0.mk hb
  have HA1 := Aside0.mk (HA.out.below hb)
  clear hb c0 FN
  cases hf : t.items.find? (isRow r) with
  | none =>
    obtain rfl : 0 = mm := by rw [← HM.out];exact (many_none hf).symm
    clear hf
    simp only [adr]
    go_wp2_with (fail)
    go_ret
    exact ⟨rfl,HB.out⟩
  | some x =>
    obtain rfl : x.2.many = mm := by rw [← HM.out];exact (many_some hf).symm
    obtain ⟨l,r',k,hx,_⟩ := HA1.out.tree.inn.node_of x (List.mem_of_find?_eq_some hf)
    have c1 := blk_cell hx 1
    simp only [ncells,List.getElem?_toArray,List.getElem?_cons_zero,List.getElem?_cons_succ] at c1
    clear hf hx
    obtain ⟨bx,ex⟩ := x
    simp only [adr]
    go_wp2_with (fail)
    go_ret
    exact ⟨rfl,HB.out⟩
theorem few_calls (n : Int) (w : World) : Calls Try.prog 75 #[.int .i64 n] w fun e w' => e = .returned (.bool (few n)) ∧ Drawn0 w w' := by
  refine bag_few.calls n (few n) w ?_
  unfold bag_few.f few
  by_cases h : n ≥ -1073741824
  · rw [if_pos h,decide_eq_true (show -1073741824 ≤ n from h)];rfl
  · rw [if_neg h,decide_eq_false (show ¬ -1073741824 ≤ n from h)];rfl
set_option maxHeartbeats 2000000 in
set_option maxRecDepth 100000 in
theorem bag_sum {D : Nat → Prop} (b : Nat) (t : Tr) (A : Option Addr) (c : Nat) (r : Rw) (m : Int) (w : World) (h : BagAt w b t D) (hr : RowC w A c r) :
    Calls Try.prog 60 #[.pointer (some ⟨b,0,none⟩),.slice A r.length c,.int .i64 m] w fun e w' => (∃ n,e = .returned (.tuple #[.int .i64 n,.bool (okAdd r m (docT t))]) ∧ (okAdd r m (docT t) = true → n = manyD r (docT t) + m)) ∧ Below w.heap.size w w' := by
  have MN := Aside0.mk (bag_many b t A c r w h hr)
  obtain ⟨m0,m1⟩ := many_bd (r := r) h.ok
  obtain ⟨k,hk⟩ : ∃ k,manyD r (docT t) = k := ⟨_,rfl⟩
  have OA : okAdd r m (docT t) = (decide (-2147483648 ≤ m) && decide (m ≤ 2147483648) && few (k + m)) := by unfold okAdd;rw [hk]
  rw [hk] at MN m0 m1 ⊢
  rw [OA]
  clear h hr hk OA
  by_cases h1 : m < -2147483648
  · have q1 : decide (m < -2147483648) = true := decide_eq_true h1
    have e1 : decide (-2147483648 ≤ m) = false := decide_eq_false (by omega)
    rw [e1]
    simp only [Bool.false_and]
    clear e1
    go_enter Try.func60,Try.ntmps60
    go_wp2_with (fail)
    refine MN.out.mono ?_
    rintro e w1 ⟨rfl,hb⟩
    have HB := Aside0.mk hb
    clear hb MN
    go_wp2_with (fail)
    go_ret2
    exact ⟨⟨_,rfl,fun h => by cases h⟩,HB.out⟩
  · have q1 : decide (m < -2147483648) = false := decide_eq_false h1
    have e1 : decide (-2147483648 ≤ m) = true := decide_eq_true (by omega)
    have m2 : -2147483648 ≤ m := by omega
    by_cases h2 : 2147483648 < m
    · have q2 : decide (2147483648 < m) = true := decide_eq_true h2
      have e2 : decide (m ≤ 2147483648) = false := decide_eq_false (by omega)
      rw [e1,e2]
      simp only [Bool.true_and,Bool.false_and]
      clear e1 e2
      go_enter Try.func60,Try.ntmps60
      go_wp2_with (fail)
      refine MN.out.mono ?_
      rintro e w1 ⟨rfl,hb⟩
      have HB := Aside0.mk hb
      clear hb MN
      go_wp2_with (fail)
      go_ret2
      exact ⟨⟨_,rfl,fun h => by cases h⟩,HB.out⟩
    · have q2 : decide (2147483648 < m) = false := decide_eq_false h2
      have e2 : decide (m ≤ 2147483648) = true := decide_eq_true (by omega)
      have m3 : m ≤ 2147483648 := by omega
      rw [e1,e2]
      simp only [Bool.true_and]
      clear e1 e2
      have FC := Aside0.mk (few_calls (k + m))
      obtain ⟨fb,hfb⟩ : ∃ fb,few (k + m) = fb := ⟨_,rfl⟩
      rw [hfb] at FC ⊢
      clear hfb
      go_enter Try.func60,Try.ntmps60
      go_wp2_with (fail)
      refine MN.out.mono ?_
      rintro e w1 ⟨rfl,hb⟩
      have HB := Aside0.mk hb
      clear hb MN
      go_wp2_with (fail)
      refine (FC.out w1).mono ?_
      rintro e w2 ⟨rfl,hd⟩
      have HB2 := Aside0.mk (HB.out.trans (hd.below.mono HB.out.size))
      clear hd HB FC
      go_wp2_with (fail)
      go_ret2
      exact ⟨⟨_,rfl,fun _ => rfl⟩,HB2.out⟩
set_option maxHeartbeats 2000000 in
set_option maxRecDepth 100000 in
theorem bag_len {D : Nat → Prop} (b : Nat) (t : Tr) (w : World) (h : BagAt w b t D) :
    Calls Try.prog 33 #[.pointer (some ⟨b,0,none⟩)] w fun e w' => e = .returned (.int .i64 ((docT t).length : Int)) ∧ w = w' := by
  have c1 := blk_cell h.blk 1
  simp only [bcells,List.getElem?_toArray,List.getElem?_cons_zero,List.getElem?_cons_succ] at c1
  rw [← doc_len t] at c1
  obtain ⟨n,hn⟩ : ∃ n,(docT t).length = n := ⟨_,rfl⟩
  rw [hn] at c1 ⊢
  clear h hn
  go_enter Try.func33,Try.ntmps33
  go_wp2
  go_ret
  exact ⟨rfl,rfl⟩
theorem clone_at (A : Option Addr) (c : Nat) (r : Rw) (w : World) (hr : RowC w A c r) (hl : r.length ≤ 1000000) :
    Calls Try.prog 63 #[.slice A r.length c] w fun e w' => ∃ v : Value,e = .returned v ∧ Kd.R k66 66 w' w.heap.size (fun _ => True) v r ∧ Below w.heap.size w w' := by
  refine slices_Clone.calls A c r r w hr.row hr.cap ?_
  unfold slices_Clone.f
  simp only [Option.bind_some,List.length_nil,Nat.zero_add,List.nil_append]
  rw [if_pos (by omega)]
def codeOf : Option En → Int | none => 5 | some _ => 0
def rowOf : Option En → Rw | none => [] | some x => x.f0
def docI (x : Nat × Ent) : En := ⟨x.2.row,x.2.many⟩
theorem right_len {r : Rw} (h : rright r = true) : r.length ≤ 40 := by
  unfold rright at h
  rw [Bool.and_eq_true,decide_eq_true_eq] at h
  exact h.1
theorem OkD.item {t : Tr} (h : OkD (docT t)) {x : Nat × Ent} (hx : x ∈ t.items) : rright x.2.row = true ∧ x.2.many ≠ 0 ∧ -1073741824 ≤ x.2.many ∧ x.2.many ≤ 1073741824 :=
  h ⟨x.2.row,x.2.many⟩ (List.mem_map_of_mem (f := fun e : Ent => (⟨e.row,e.many⟩ : En)) (List.mem_map_of_mem (f := Prod.snd) hx))
set_option maxHeartbeats 2000000 in
set_option maxRecDepth 100000 in
theorem bag_told {D : Nat → Prop} (t : Tr) (o : Option (Nat × Ent)) (ho : ∀ x,o = some x → x ∈ t.items) (w : World) (h : t.In w D) (hk : OkD (docT t)) :
    Calls Try.prog 68 #[.pointer (adr o)] w fun e w' => ∃ v,e = .returned (.tuple #[v,.int .i64 (codeOf (o.map docI))]) ∧ Kd.R k66 66 w' w.heap.size (fun _ => True) v (rowOf (o.map docI)) ∧ Below w.heap.size w w' := by
  cases o with
  | none =>
    simp only [adr,Option.map_none,codeOf,rowOf]
    go_enter Try.func68,Try.ntmps68
    go_wp2
    go_ret2
    exact ⟨_,rfl,Kd.R_nil _ _ _ _ _,Below.refl _ _⟩
  | some x =>
    obtain ⟨l,r',k,hx,he⟩ := h.node_of x (ho x rfl)
    have c0 := blk_cell hx 0
    simp only [ncells,List.getElem?_toArray,List.getElem?_cons_zero] at c0
    have CL := Aside0.mk (clone_at x.2.A x.2.c x.2.row w he.c (by have := right_len (hk.item (ho x rfl)).1;omega))
    obtain ⟨bx,ex⟩ := x
    simp only [adr,Option.map_some,codeOf,rowOf,docI] at c0 CL ⊢
    clear h hk ho hx he
    go_enter Try.func68,Try.ntmps68
    go_wp2_with (fail)
    refine CL.out.mono ?_
    rintro e w1 ⟨v,rfl,hv,hb⟩
    have HV := Aside0.mk hv
    have HB := Aside0.mk hb
    obtain ⟨A1,c1,e1⟩ := Kd.R_slice hv
    clear hv hb CL c0
    subst e1
    go_wp2_with (fail)
    go_ret2
    exact ⟨_,rfl,HV.out,HB.out⟩
theorem head_doc (t : Tr) : t.items.head?.map docI = (docT t).head? := by
  unfold docT docE Tr.ents entsL
  rw [List.map_map,List.head?_map]
  rfl
set_option maxHeartbeats 2000000 in
set_option maxRecDepth 100000 in
theorem bag_least {D : Nat → Prop} (b : Nat) (t : Tr) (w : World) (h : BagAt w b t D) :
    Calls Try.prog 24 #[.pointer (some ⟨b,0,none⟩)] w fun e w' => ∃ v,e = .returned (.tuple #[v,.int .i64 (codeOf (docT t).head?)]) ∧ Kd.R k66 66 w' w.heap.size (fun _ => True) v (rowOf (docT t).head?) ∧ Below w.heap.size w w' := by
  cases t with
  | nil =>
    have c0 := blk_cell h.blk 0
    simp only [bcells,List.getElem?_toArray,List.getElem?_cons_zero,Tr.ptr] at c0
    clear h
    show Calls Try.prog 24 #[.pointer (some ⟨b,0,none⟩)] w fun e w' => ∃ v,e = .returned (.tuple #[v,.int .i64 5]) ∧ Kd.R k66 66 w' w.heap.size (fun _ => True) v [] ∧ Below w.heap.size w w'
    go_enter Try.func24,Try.ntmps24
    go_wp2
    go_ret2
    exact ⟨_,rfl,Kd.R_nil _ _ _ _ _,Below.refl _ _⟩
  | node b' e' l r k =>
    have HA := Aside0.mk h
    have FN := Aside0.mk (nd_first b' e' l r k w h.tree.inn)
    have c0 := blk_cell h.blk 0
    simp only [bcells,List.getElem?_toArray,List.getElem?_cons_zero,Tr.ptr] at c0
    have TD := Aside0.mk (fun w' (hb : Below w.heap.size w w') => bag_told (.node b' e' l r k) (Tr.node b' e' l r k).items.head? (fun x hx => by first | exact List.mem_of_mem_head? hx | exact List.mem_of_getLast? hx) w' (h.tree.inn.below hb) h.ok)
    rw [head_doc] at TD
    obtain ⟨o,ho⟩ : ∃ o,(docT (.node b' e' l r k)).head? = o := ⟨_,rfl⟩
    obtain ⟨pp,hpp⟩ : ∃ pp,adr (Tr.node b' e' l r k).items.head? = pp := ⟨_,rfl⟩
    rw [ho] at TD ⊢
    rw [hpp] at TD FN
    obtain ⟨cc,hcc⟩ : ∃ cc,codeOf o = cc := ⟨_,rfl⟩
    rw [hcc] at TD ⊢
    clear h ho hpp hcc
    go_enter Try.func24,Try.ntmps24
    go_wp2_with (fail)
    refine FN.out.mono ?_
    rintro e w1 ⟨rfl,hb⟩
    have TD1 := Aside0.mk (TD.out w1 hb)
    have HB := Aside0.mk hb
    clear hb c0 FN TD
    go_wp2_with (fail)
    refine TD1.out.mono ?_
    rintro e w2 ⟨v,rfl,hv,hb⟩
    have HV := Aside0.mk (Kd.R_lower hv HB.out.size)
    have HB2 := Aside0.mk (HB.out.trans (hb.mono HB.out.size))
    obtain ⟨A1,c1,e1⟩ := Kd.R_slice hv
    clear hv hb TD1 HB
    subst e1
    go_wp2_with (fail)
    go_ret2
    exact ⟨_,rfl,HV.out,HB2.out⟩
end Go.Proofs.Ythmbfcfomcaaaaa.Z
end
section
namespace Go.Proofs.Ythmbfcfomcaaaaa.Z
set_option linter.unusedVariables false
set_option linter.unusedSimpArgs false
open Go.RowKit Go.Proofs.YthmbfcfomcaaaaaW.PrintWords Go.Proofs.YthmbfcfomcaaaaaW.PrintLast Go.Proofs.YthmbfcfomcaaaaaW.PrintMore Go.Proofs.Ythmbfcfomcaaaaa.Cmp
structure BagCh (w w' : World) (b : Nat) (t t' : Tr) (D D' : Nat → Prop) : Prop where
  ch : Ch (fun k => k = b ∨ k ∈ t.ids) w w'
  ids : ∀ k ∈ t'.ids,k ∈ t.ids ∨ w.heap.size ≤ k
  dat : ∀ k,D' k → D k ∨ w.heap.size ≤ k
theorem BagCh.same {w w' : World} {b : Nat} {t : Tr} {D : Nat → Prop} (h : Below w.heap.size w w') : BagCh w w' b t t D D := ⟨Ch.of_below h,fun _ h => .inl h,fun _ h => .inl h⟩
theorem BagCh.own {w w' : World} {b : Nat} {t t' : Tr} {D D' : Nat → Prop} (h : BagCh w w' b t t' D D') : ∀ k,BagOwn b t' D' k → BagOwn b t D k ∨ w.heap.size ≤ k := fun k hk => by
  rcases hk with q | q | q
  · exact .inl (.inl q)
  · exact (h.ids k q).imp (fun q => .inr (.inl q)) id
  · exact (h.dat k q).imp (fun q => .inr (.inr q)) id
theorem right_at (A : Option Addr) (c : Nat) (r : Rw) (w : World) (hr : RowC w A c r) : Calls Try.prog 59 #[.slice A r.length c] w fun e w' => e = .returned (.bool (rright r)) ∧ Below w.heap.size w w' :=
  row_Right.calls 41 A c r (rright r) w hr.row hr.cap (rright_f r 41 (by omega))
theorem add_right {r : Rw} {m : Int} {L : List En} (h : rright r = true) : addD r m L = if okAdd r m L = true then (0,putD r (manyD r L + m) L) else (10,L) := by unfold addD;rw [if_pos h]
theorem BagAt.root {w w1 : World} {b : Nat} {t t' : Tr} {D D' : Nat → Prop} (h : BagAt w b t D) (hb : w1.heap[b]? = some (.cells (bcells t) 83 (0,0))) (ht : NdIn w1 D' t') (hok : t'.Hok) (hd : SrtD (docT t')) (ho : OkD (docT t')) (hi : b ∉ t'.ids) (hbd : ¬ D' b) (hdc : ∀ k,D' k → ∃ cs q,w1.heap[k]? = some (.cells cs q (0,0))) :
    BagAt ((w1.setCell ⟨b,0,none⟩ t'.ptr).setCell ⟨b,1,none⟩ (.int .i64 t'.size)) b t' D' ∧ Ch (fun k => k = b) w1 ((w1.setCell ⟨b,0,none⟩ t'.ptr).setCell ⟨b,1,none⟩ (.int .i64 t'.size)) := by
  have cb : Ch (fun x => x = b) w1 ((w1.setCell ⟨b,0,none⟩ t'.ptr).setCell ⟨b,1,none⟩ (.int .i64 t'.size)) := ((Ch.refl (fun x => x = b) w1).setCell (p := ⟨b,0,none⟩) (.inl rfl) _).setCell (p := ⟨b,1,none⟩) (.inl rfl) _
  refine ⟨⟨blk_put (blk_put (cs' := #[t'.ptr,.int .i64 t.size]) hb 0 _ rfl) 1 _ rfl,ht.keep cb (fun k hk q => hi (q ▸ hk)) (fun k hk q => hbd (q ▸ hk)),hok,srt_of hd,ho,hi,hbd,fun k hk => ?_⟩,cb⟩
  obtain ⟨cs,q,hc⟩ := hdc k hk
  exact ⟨cs,q,cb.blk hc (fun s => hbd (s ▸ hk))⟩
theorem putD_len (r : Rw) (now : Int) {L : List En} (h : SrtD L) : (putD r now L).length + (fndD r L).toList.length = L.length + (if now = 0 then 0 else 1) := by
  obtain ⟨s1,s2⟩ := srt_split r h
  have e1 := congrArg List.length s1
  have e2 := congrArg List.length s2
  rw [List.length_append,List.length_append] at e1
  unfold putD
  rw [List.length_append,List.length_append]
  split <;> simp at * <;> omega
def NewD (w w1 : World) (k : Nat) : Prop := w.heap.size ≤ k ∧ ∃ cs q,w1.heap[k]? = some (.cells cs q (0,0))
theorem clone_dat {w w1 : World} {A1 : Option Addr} {c1 : Nat} {r : Rw} (m : Int) (hv : Kd.R k66 66 w1 w.heap.size (fun _ => True) (.slice A1 r.length c1) r) : EntIn w1 (NewD w w1) ⟨A1,c1,r,m⟩ :=
  ⟨(Kd.R_reads' hv).2.1,Kd.F_mono (Kd.R_F (Kd.R_bound hv)) (fun k hk => ⟨hk.2.1,by obtain ⟨q,_,cs,hc⟩ := hk.2.2.2;exact ⟨cs,q,hc⟩⟩)⟩
def OrD (D E : Nat → Prop) (k : Nat) : Prop := D k ∨ E k
theorem NdIn.more {w w1 : World} {D : Nat → Prop} {t : Tr} (h : NdIn w1 D t) (hl : ∀ k ∈ t.ids,k < w.heap.size) : NdIn w1 (OrD D (NewD w w1)) t :=
  ⟨h.inn.mono (fun k hk => .inl hk),h.nd,fun k hk hm => hk.elim (fun q => h.dis k q hm) (fun q => by have := hl k hm;have := q.1;omega)⟩
theorem put_at {w w1 : World} {b : Nat} {t : Tr} {D : Nat → Prop} {A1 : Option Addr} {c1 : Nat} {r : Rw} {m : Int} (h : BagAt w b t D) (hb : Below w.heap.size w w1) (hs : t.size ≤ 300000000000000000)
    (hv : Kd.R k66 66 w1 w.heap.size (fun _ => True) (.slice A1 r.length c1) r) :
    Calls Try.prog 62 #[t.ptr,.agg #[.slice A1 r.length c1,.int .i64 m]] w1 fun e' w' => ∃ t',e' = .returned t'.ptr ∧ Put w1 (OrD D (NewD w w1)) ⟨A1,c1,r,m⟩ t t' w' :=
  nd_put ⟨A1,c1,r,m⟩ t w1 ((h.below hb).tree.more h.lt.2.1) h.hok (by omega) ((clone_dat m hv).mono (fun k hk => .inr hk)) (fun k hk => hk.elim (fun q => Nat.lt_of_lt_of_le (h.lt.2.2 k q) hb.size) (fun q => by obtain ⟨cs,q',hc⟩ := q.2;exact blk_lt hc))
theorem putD0_ok {r : Rw} {L : List En} (h : OkD L) : OkD (putD r 0 L) := by
  intro x hx
  unfold putD at hx
  rw [if_pos rfl,List.append_nil] at hx
  rcases List.mem_append.1 hx with q | q
  · exact h x (mem_lo q).1
  · exact h x (mem_hi q).1
theorem there_of {r : Rw} {t : Tr} {x : Nat × Ent} (h : t.items.find? (isRow r) = some x) : ∃ y ∈ t.ents,rcmp r y.row = 0 := by
  refine ⟨x.2,List.mem_map_of_mem (f := Prod.snd) (List.mem_of_find?_eq_some h),?_⟩
  have := List.find?_some h
  unfold isRow at this
  exact of_decide_eq_true this
set_option maxHeartbeats 4000000 in
set_option maxRecDepth 100000 in
theorem bag_add {D : Nat → Prop} (b : Nat) (t : Tr) (A : Option Addr) (c : Nat) (r : Rw) (m : Int) (w : World) (h : BagAt w b t D) (hr : RowC w A c r) (hs : t.size ≤ 300000000000000000) :
    Calls Try.prog 16 #[.pointer (some ⟨b,0,none⟩),.slice A r.length c,.int .i64 m] w fun e w' => ∃ t' D',e = .returned (.int .i64 (addD r m (docT t)).1) ∧ docT t' = (addD r m (docT t)).2 ∧ BagAt w' b t' D' ∧ BagCh w w' b t t' D D' := by
  have HA := Aside0.mk h
  have HR := Aside0.mk hr
  have HS := Aside0.mk hs
  have RT := Aside0.mk (right_at A c r w hr)
  by_cases hrt : rright r = true
  · have HT := Aside0.mk hrt
    rw [hrt] at RT
    rw [add_right hrt]
    obtain ⟨n,hn⟩ : ∃ n,manyD r (docT t) + m = n := ⟨_,rfl⟩
    have HN := Aside0.mk hn
    rw [hn]
    have c0 := blk_cell h.blk 0
    simp only [bcells,List.getElem?_toArray,List.getElem?_cons_zero] at c0
    obtain ⟨q0,hq0⟩ := ptr_case t
    have HQ0 := Aside0.mk hq0
    rw [hq0] at c0
    clear h hr hs hrt hn hq0
    by_cases hok : okAdd r m (docT t) = true
    · have OK := Aside0.mk hok
      rw [if_pos hok]
      clear hok
      go_enter Try.func16,Try.ntmps16
      go_wp2_with (fail)
      refine RT.out.mono ?_
      rintro e w1 ⟨rfl,hb⟩
      have HB := Aside0.mk hb
      have HA1 := Aside0.mk (HA.out.below hb)
      have HR1 := Aside0.mk (HR.out.below hb)
      replace c0 := (hb.cell (World.block_lt_of_cell? w _ c0)).trans c0
      clear hb RT
      go_wp2_with (fail)
      refine (bag_sum b t A c r m w1 HA1.out HR1.out).mono ?_
      rintro e w2 ⟨⟨n',rfl,hn'⟩,hb⟩
      obtain rfl : n = n' := ((hn' OK.out).trans HN.out).symm
      rw [OK.out]
      have HB2 := Aside0.mk (HB.out.trans (hb.mono HB.out.size))
      have HA2 := Aside0.mk (HA1.out.below hb)
      have HR2 := Aside0.mk (HR1.out.below hb)
      replace c0 := (hb.cell (World.block_lt_of_cell? w1 _ c0)).trans c0
      clear hb hn' HB HA1 HR1
      go_wp2_with (fail)
      have FN := Aside0.mk (nd_find t A c r w2 HA2.out.tree.inn HA2.out.srt HR2.out)
      rw [HQ0.out] at FN
      refine FN.out.mono ?_
      rintro e w3 ⟨rfl,hb⟩
      have HB3 := Aside0.mk (HB2.out.trans (hb.mono HB2.out.size))
      have HA3 := Aside0.mk (HA2.out.below hb)
      have HR3 := Aside0.mk (HR2.out.below hb)
      replace c0 := (hb.cell (World.block_lt_of_cell? w2 _ c0)).trans c0
      clear hb HB2 HA2 HR2 FN
      obtain ⟨ff,hff⟩ : ∃ ff,t.items.find? (isRow r) = ff := ⟨_,rfl⟩
      have HF := Aside0.mk hff
      rw [hff]
      clear hff
      by_cases hn0 : n = 0
      · have q1 : (n != 0) = false := by simp [hn0]
        have q2 : (n == 0) = true := by simp [hn0]
        cases ff with
        | none =>
          simp only [adr]
          go_wp2_with (fail)
          go_ret
          have hz := HN.out
          rw [many_none HF.out] at hz
          have e1 : putD r n (docT t) = docT t := by
            obtain ⟨s1,s2⟩ := srt_split r HA.out.srtD
            rw [fnd_doc,HF.out] at s2
            unfold putD
            rw [if_pos hn0]
            conv => rhs;rw [s1,s2]
            rfl
          exact ⟨t,D,rfl,e1.symm,HA3.out,BagCh.same HB3.out⟩
        | some x =>
          simp only [adr]
          have hs2 := HS.out
          have TH := Aside0.mk (there_of HF.out)
          have DR := Aside0.mk (nd_drop t w3 A c r HA3.out.tree HA3.out.hok (by omega) HA3.out.srt HR3.out TH.out)
          rw [HQ0.out] at DR
          go_wp2_with (fail)
          refine DR.out.mono ?_
          rintro e w4 ⟨t',rfl,hp⟩
          have PT := Aside0.mk hp
          have K4 : w4.heap[b]? = some (.cells (bcells t) 83 (0,0)) := hp.ch.blk HA3.out.blk HA3.out.b_ids
          have B4 := Aside0.mk K4
          have z0 := blk_frozen K4 0
          have z1 := blk_frozen K4 1
          have y0 := blk_cell K4 0
          have y1 := blk_cell K4 1
          simp only [bcells,List.getElem?_toArray,List.getElem?_cons_zero,List.getElem?_cons_succ] at y0 y1
          rw [HQ0.out] at y0
          obtain ⟨q1',hq1⟩ := ptr_case t'
          have HQ1 := Aside0.mk hq1
          rw [hq1]
          clear hp K4 hq1 c0 DR
          go_wp2_with (fail)
          go_ret
          have hd := doc_drop HA3.out.srt PT.out.ents
          have hl := putD_len r 0 HA3.out.srtD
          rw [← hd,doc_len,doc_len,fnd_doc,HF.out] at hl
          have es : ((t.size : Int) - 1) = (t'.size : Int) := by simp at hl;omega
          rw [es,← HQ1.out]
          have hdc : ∀ k,D k → ∃ cs q,w4.heap[k]? = some (.cells cs q (0,0)) := by
            intro k hk
            obtain ⟨cs,q,hc⟩ := HA3.out.dcell k hk
            exact ⟨cs,q,PT.out.ch.blk hc (fun hm => HA3.out.tree.dis k hk hm)⟩
          obtain ⟨g1,g2⟩ := HA3.out.root B4.out PT.out.inn PT.out.hok (by rw [hd];exact putD_srt HA3.out.srtD) (by rw [hd];exact putD0_ok HA3.out.ok) (fun hm => HA3.out.b_ids (PT.out.sub b hm)) HA3.out.b_dat hdc
          refine ⟨t',D,rfl,by rw [hd,hn0],g1,((Ch.of_below (S := fun k => k = b ∨ k ∈ t.ids) HB3.out).then_ PT.out.ch (fun k hk => .inl (.inr hk))).then_ g2 (fun k hk => .inl (.inl hk)),fun k hk => .inl (PT.out.sub k hk),fun k hk => .inl hk⟩
      · have q1 : (n != 0) = true := by simp [hn0]
        have q2 : (n == 0) = false := by simp [hn0]
        cases ff with
        | none =>
          simp only [adr]
          have hs2 := HS.out
          go_wp2_with (fail)
          have CL := Aside0.mk (clone_at A c r w3.drew ((HR3.out.below (w1 := w3.drew) (below_drew1 (Below.refl _ _)))) (by have := right_len HT.out;omega))
          have HA4 := Aside0.mk (HA3.out.heap (w1 := w3.drew) rfl)
          have HB4 := Aside0.mk (below_drew1 HB3.out)
          go_region_with (first | (go_at_call 63;(with_reducible refine CL.out.mono ?_);rintro e w5 ⟨v,rfl,hv,hb⟩;replace c0 := (hb.cell (World.block_lt_of_cell? _ _ c0)).trans c0;have HV := Aside0.mk hv;have HB5 := Aside0.mk hb;obtain ⟨A1,c1,e1⟩ := Kd.R_slice hv;clear hv hb;subst e1) | (go_at_call 62;(have PP := put_at (m := n) HA4.out HB5.out HS.out HV.out;rw [HQ0.out] at PP;refine PP.mono ?_);clear PP;rintro e w6 ⟨t',rfl,hp⟩;have PT := Aside0.mk hp;have K6 := hp.ch.blk (HA4.out.below HB5.out).blk HA4.out.b_ids;have B6 := Aside0.mk K6;have z0 := blk_frozen K6 0;have z1 := blk_frozen K6 1;have y0 := blk_cell K6 0;have y1 := blk_cell K6 1;simp only [bcells,List.getElem?_toArray,List.getElem?_cons_zero,List.getElem?_cons_succ] at y0 y1;rw [HQ0.out] at y0;obtain ⟨q1',hq1⟩ := ptr_case t';have HQ1 := Aside0.mk hq1;rw [hq1];clear hp K6 hq1 c0))
          all_goals
            go_wp2_with (fail)
            go_ret
            have hd : docT t' = putD r n (docT t) := by
              obtain ⟨g,_,hi⟩ := PT.out.items
              exact doc_put g _ HA3.out.srt (by rw [fnd_doc,HF.out];rfl) hn0 hi
            have hl := putD_len r n HA3.out.srtD
            rw [← hd,doc_len,doc_len,fnd_doc,HF.out,if_neg hn0] at hl
            have es : ((t.size : Int) + 1) = (t'.size : Int) := by simp at hl;omega
            rw [es,← HQ1.out]
            have hfew : few n = true := by
              have := OK.out
              unfold okAdd at this
              rw [Bool.and_eq_true,HN.out] at this
              exact this.2
            have hdc : ∀ k,OrD D (NewD w3.drew w5) k → ∃ cs q,w6.heap[k]? = some (.cells cs q (0,0)) := by
              intro k hk
              have hnt : k ∉ t.ids := fun hm => hk.elim (fun q => HA3.out.tree.dis k q hm) (fun q => by have h1 := HA4.out.lt.2.1 k hm;have h2 := q.1;omega)
              rcases hk with q | q
              · obtain ⟨cs,q',hc⟩ := (HA4.out.below HB5.out).dcell k q
                exact ⟨cs,q',PT.out.ch.blk hc hnt⟩
              · obtain ⟨cs,q',hc⟩ := q.2
                exact ⟨cs,q',PT.out.ch.blk hc hnt⟩
            have hb5 : w3.drew.heap.size ≤ w5.heap.size := HB5.out.size
            have hb4 : b < w3.drew.heap.size := HA4.out.lt.1
            have hb3 : w.heap.size ≤ w3.drew.heap.size := HB4.out.size
            obtain ⟨g1,g2⟩ := HA3.out.root B6.out PT.out.inn PT.out.hok (by rw [hd];exact putD_srt HA3.out.srtD) (by rw [hd];exact putD_ok HA3.out.ok HT.out hfew) (fun hm => (put_sub PT.out b hm).elim HA3.out.b_ids (fun q => by omega)) (fun hk => hk.elim HA3.out.b_dat (fun q => by have := q.1;omega)) hdc
            have hC : Ch (fun k => k = b ∨ k ∈ t.ids) w w6 := ((Ch.of_below HB4.out).below HB5.out).then_ PT.out.ch (fun k hk => .inl (.inr hk))
            have FIN : BagCh w _ b t t' D (OrD D (NewD w3.drew w5)) := ⟨hC.then_ g2 (fun k hk => .inl (.inl hk)),fun k hk => (put_sub PT.out k hk).imp id (fun q => by omega),fun k hk => hk.imp id (fun q => by have := q.1;omega)⟩
            first
              | exact ⟨t',_,rfl,hd,g1,FIN⟩
              | exact ⟨rfl,t',_,hd,g1,FIN⟩
        | some x =>
          obtain ⟨l,r',k,hx,_⟩ := HA3.out.tree.inn.node_of x (List.mem_of_find?_eq_some HF.out)
          have z1 := blk_frozen hx 1
          have y1 := blk_cell hx 1
          simp only [ncells,List.getElem?_toArray,List.getElem?_cons_zero,List.getElem?_cons_succ] at y1
          clear hx
          obtain ⟨bx,ex⟩ := x
          simp only [adr] at z1 y1 ⊢
          go_wp2_with (fail)
          go_ret
          have hm := List.mem_of_find?_eq_some HF.out
          have hrow : ex.row = r := by
            have h1 := List.find?_some HF.out
            unfold isRow at h1
            exact (rright_eq HT.out (HA3.out.ok.item hm).1 (of_decide_eq_true h1)).symm
          have hd := doc_upd HA3.out.srt HA3.out.tree.nd HF.out hrow hn0
          have hbx : bx ∈ t.ids := ids_mem hm
          have cb : Ch (fun x => x = bx) w3 (w3.setCell ⟨bx,1,none⟩ (.int .i64 n)) := (Ch.refl (fun x => x = bx) w3).setCell (p := ⟨bx,1,none⟩) (.inl rfl) _
          have hfew : few n = true := by
            have := OK.out
            unfold okAdd at this
            rw [Bool.and_eq_true,HN.out] at this
            exact this.2
          have f1 : (w3.setCell ⟨bx,1,none⟩ (.int .i64 n)).heap[b]? = some (.cells (bcells (t.upd bx n)) 83 (0,0)) := by
            refine (cb.blk HA3.out.blk (fun q => HA3.out.b_ids (q ▸ hbx))).trans ?_
            unfold bcells
            rw [Tr.upd_ptr,Tr.upd_size]
          have f2 : ∀ k,D k → ∃ cs q,(w3.setCell ⟨bx,1,none⟩ (.int .i64 n)).heap[k]? = some (.cells cs q (0,0)) := by
            intro k hk
            obtain ⟨cs,q,hc⟩ := HA3.out.dcell k hk
            exact ⟨cs,q,cb.blk hc (fun q => HA3.out.tree.dis k hk (q ▸ hbx))⟩
          have g1 : BagAt (w3.setCell ⟨bx,1,none⟩ (.int .i64 n)) b (t.upd bx n) D := ⟨f1,HA3.out.tree.upd n hbx,Tr.upd_hok bx n HA3.out.hok,srt_of (by show SrtD (docT _);rw [hd];exact putD_srt HA3.out.srtD),by rw [hd];exact putD_ok HA3.out.ok HT.out hfew,by rw [Tr.upd_ids];exact HA3.out.b_ids,HA3.out.b_dat,f2⟩
          have FIN : BagCh w (w3.setCell ⟨bx,1,none⟩ (.int .i64 n)) b t (t.upd bx n) D D := ⟨(Ch.of_below (S := fun k => k = b ∨ k ∈ t.ids) HB3.out).then_ cb (fun k hk => .inl (.inr (hk ▸ hbx))),fun k hk => .inl (by rwa [Tr.upd_ids] at hk),fun k hk => .inl hk⟩
          first
            | exact ⟨_,_,rfl,hd,g1,FIN⟩
            | exact ⟨rfl,_,_,hd,g1,FIN⟩
            | exact ⟨rfl,_,hd,_,g1,FIN⟩
    · have OK := Aside0.mk (show okAdd r m (docT t) = false by simpa using hok)
      rw [if_neg hok]
      clear hok
      go_enter Try.func16,Try.ntmps16
      go_wp2_with (fail)
      refine RT.out.mono ?_
      rintro e w1 ⟨rfl,hb⟩
      have HB := Aside0.mk hb
      have HA1 := Aside0.mk (HA.out.below hb)
      have HR1 := Aside0.mk (HR.out.below hb)
      replace c0 := (hb.cell (World.block_lt_of_cell? w _ c0)).trans c0
      clear hb RT
      go_wp2_with (fail)
      refine (bag_sum b t A c r m w1 HA1.out HR1.out).mono ?_
      rintro e w2 ⟨⟨n',rfl,_⟩,hb⟩
      rw [OK.out]
      have HB2 := Aside0.mk (HB.out.trans (hb.mono HB.out.size))
      have HA2 := Aside0.mk (HA1.out.below hb)
      have HR2 := Aside0.mk (HR1.out.below hb)
      replace c0 := (hb.cell (World.block_lt_of_cell? w1 _ c0)).trans c0
      clear hb HB HA1 HR1
      go_wp2_with (fail)
      have FN := Aside0.mk (nd_find t A c r w2 HA2.out.tree.inn HA2.out.srt HR2.out)
      rw [HQ0.out] at FN
      refine FN.out.mono ?_
      rintro e w3 ⟨rfl,hb⟩
      have HB3 := Aside0.mk (HB2.out.trans (hb.mono HB2.out.size))
      have HA3 := Aside0.mk (HA2.out.below hb)
      clear hb HB2 HA2 HR2 FN c0
      go_wp2_with (fail)
      go_ret
      exact ⟨t,D,rfl,rfl,HA3.out,BagCh.same HB3.out⟩
  · have hrf : rright r = false := by simpa using hrt
    rw [hrf] at RT
    have e1 : addD r m (docT t) = (2,docT t) := by unfold addD;rw [if_neg hrt]
    rw [e1]
    clear hrt hrf e1 h hr hs
    go_enter Try.func16,Try.ntmps16
    go_wp2_with (fail)
    refine RT.out.mono ?_
    rintro e w1 ⟨rfl,hb⟩
    have HB := Aside0.mk hb
    have HA1 := Aside0.mk (HA.out.below hb)
    clear hb RT
    go_wp2_with (fail)
    go_ret
    exact ⟨t,D,rfl,rfl,HA1.out,BagCh.same HB.out⟩
end Go.Proofs.Ythmbfcfomcaaaaa.Z
end
section
namespace Go.Proofs.Ythmbfcfomcaaaaa.Z
open Go.RowKit Go.Proofs.YthmbfcfomcaaaaaW.PrintWords Go.Proofs.YthmbfcfomcaaaaaW.PrintLast Go.Proofs.YthmbfcfomcaaaaaW.PrintMore
attribute [local go_sem] max2_int min2_int max_two min_two max_three min_three max_four min_four
set_option linter.unusedVariables false
set_option linter.unusedSimpArgs false
def verdererref02_Same.f (k : Nat) (l0 : List (S66)) (l1 : List (S66)) : Option (Bool) := (verdererref02_Compare.f k l0 l1).bind fun t162 => (some (t162 == 0))
theorem verdererref02_Same.mono : ∀ a0 a1 k,LeO (verdererref02_Same.f k a0 a1) (verdererref02_Same.f (k + 1) a0 a1) := by
  intro a0 a1 k
  unfold verdererref02_Same.f
  repeat' first
      | (with_reducible exact verdererref02_Compare.mono _ _ _)
      | (with_reducible exact LeO.refl _)
      | (with_reducible exact LeO.none _)
      | (with_reducible refine LeO.ite ?_ ?_)
      | (with_reducible refine LeO.bind ?_ (fun _ => ?_))
      | exact verdererref02_Compare.mono _ _ _
      | exact LeO.none _
      | refine LeO.ite ?_ ?_
      | refine LeO.bind ?_ (fun _ => ?_)
set_option maxHeartbeats 8000000 in
set_option maxRecDepth 100000 in
theorem verdererref02_Same.calls (k : Nat) (A0 : Option Addr) (c0 : Nat) (l0 : List (S66)) (A1 : Option Addr) (c1 : Nat) (l1 : List (S66)) (r : Bool) (w : World) (hr0 : Kd.C k66 w A0 l0.length l0) (hc0 : l0.length ≤ c0) (hr1 : Kd.C k66 w A1 l1.length l1) (hc1 : l1.length ≤ c1) (h : verdererref02_Same.f k l0 l1 = some r) :
    Calls Try.prog 84 #[.slice A0 l0.length c0,.slice A1 l1.length c1] w fun e w' => e = .returned (.bool r) ∧ Below w.heap.size w w' := by
  have HR0 := Aside0.mk hr0
  have HC0 := Aside0.mk hc0
  clear hr0 hc0
  have HR1 := Aside0.mk hr1
  have HC1 := Aside0.mk hc1
  clear hr1 hc1
  have HB := Aside0.mk (Below.refl w.heap.size w)
  have H : ((verdererref02_Compare.f k l0 l1).bind fun t162 => (some (t162 == 0))) = some r := h
  clear h
  replace H := Option.bind_eq_some_iff.mp H
  obtain ⟨t162,A30,H⟩ := H
  replace H : (some (t162 == 0)) = some r := H
  have A3 := Aside0.mk A30
  clear A30
  obtain rfl := Option.some.inj H
  go_enter Try.func84,Try.ntmps84
  go_wp2_with (first | ((with_reducible refine gate_callee (f := 96) rfl ?_);refine goesL_ (some 7) rfl rfl Try.func96 (by kernel_rfl) rfl #[.slice A0 l0.length c0,.slice A1 l1.length c1] rfl (by (try simp only [List.map_toArray,List.map_cons,List.map_nil]);first | done | rfl | (simp only [List.length_drop,List.length_take];rfl)) ?_;(with_reducible refine (verdererref02_Compare.calls k _ _ l0 _ _ l1 t162 _ ?side1 ?side2 ?side3 ?side4 A3.out).mono ?_);(case side1 => repeat (first | exact HR0.out | (with_reducible refine Kd.C_alloc ?_ _) | (with_reducible refine Kd.C_drewN ?_ _) | (with_reducible refine Kd.C_drew ?_)));(case side2 => exact HC0.out);(case side3 => repeat (first | exact HR1.out | (with_reducible refine Kd.C_alloc ?_ _) | (with_reducible refine Kd.C_drewN ?_ _) | (with_reducible refine Kd.C_drew ?_)));(case side4 => exact HC1.out);rintro e w4 ⟨rfl,hb⟩;refine ⟨_,rfl,?_⟩;have n0_ := Aside0.mk (below_step (by repeat (first | (with_reducible first | exact HB.out | apply below_alloc | apply pw_below_drewN | apply below_drew1) | exact HB.out)) hb);clear HB;have HB := n0_;clear n0_;(try clear hb);(try clear hb2);(try clear hk);(try clear hi)))
  go_ret
  exact ⟨by first | rfl | (simp [errW_none,errW_some] <;> rfl) | (simp [*,errW_none,errW_some] <;> rfl),by repeat (first | (with_reducible first | exact HB.out | apply below_alloc | apply pw_below_drewN | apply below_drew1) | exact HB.out)⟩
end Go.Proofs.Ythmbfcfomcaaaaa.Z
end
section
namespace Go.Proofs.Ythmbfcfomcaaaaa.Z
open Go.RowKit Go.Proofs.YthmbfcfomcaaaaaW.PrintWords Go.Proofs.YthmbfcfomcaaaaaW.PrintLast Go.Proofs.YthmbfcfomcaaaaaW.PrintMore
attribute [local go_sem] max2_int min2_int max_two min_two max_three min_three max_four min_four
set_option linter.unusedVariables false
set_option linter.unusedSimpArgs false
def verdererref05_few.f (a0 : Int) : Option (Bool) := if a0 ≥ (-1073741824) then (some (decide (a0 ≤ 1073741824))) else (some false)
set_option maxHeartbeats 8000000 in
set_option maxRecDepth 100000 in
theorem verdererref05_few.calls (a0 : Int) (r : Bool) (w : World) (h : verdererref05_few.f a0 = some r) :
    Calls Try.prog 66 #[.int .i64 a0] w fun e w' => e = .returned (.bool r) ∧ Drawn0 w w' := by
  have H : (if a0 ≥ (-1073741824) then (some (decide (a0 ≤ 1073741824))) else (some false)) = some r := h
  clear h
  by_cases c2 : a0 ≥ (-1073741824)
  · rw [if_pos c2] at H
    have c2b0 : decide ((-1073741824) ≤ a0) = true := decide_eq_true c2
    clear c2
    obtain rfl := Option.some.inj H
    go_enter Try.func66,Try.ntmps66
    go_wp2
    go_ret
    exact ⟨by first | rfl | (simp;done) | (simp [*];done),by repeat (first | exact Drawn0.refl _ | apply Drawn0.step)⟩
  · rw [if_neg c2] at H
    have c2b0 : decide ((-1073741824) ≤ a0) = false := decide_eq_false c2
    clear c2
    obtain rfl := Option.some.inj H
    go_enter Try.func66,Try.ntmps66
    go_wp2
    go_ret
    exact ⟨by first | rfl | (simp;done) | (simp [*];done),by repeat (first | exact Drawn0.refl _ | apply Drawn0.step)⟩
end Go.Proofs.Ythmbfcfomcaaaaa.Z
end
section
namespace Go.Proofs.Ythmbfcfomcaaaaa.Z
set_option linter.unusedVariables false
set_option linter.unusedSimpArgs false
open Go.RowKit Go.Proofs.YthmbfcfomcaaaaaW.PrintWords Go.Proofs.YthmbfcfomcaaaaaW.PrintLast Go.Proofs.YthmbfcfomcaaaaaW.PrintMore Go.Proofs.Ythmbfcfomcaaaaa.Cmp
structure RefV (w : World) (g : Nat) (A : Option Addr) (c : Nat) (L : List En) (D : Nat → Prop) : Prop where
  blk : w.heap[g]? = some (.cells #[.slice A L.length c] 30 (0,0))
  cap : L.length ≤ c
  row : Kd.F k34 w D A L.length L
  g_not : ¬ D g
  lt : ∀ k,D k → k < w.heap.size
theorem RefV.keep {w w1 : World} {g : Nat} {A : Option Addr} {c : Nat} {L : List En} {D S : Nat → Prop} (h : RefV w g A c L D) (hc : Ch S w w1) (hg : ¬ S g) (hD : ∀ k,D k → ¬ S k) : RefV w1 g A c L D :=
  ⟨hc.blk h.blk hg,h.cap,Kd.F_step h.row (fun k hk hlt => hc.block k hlt (hD k hk)),h.g_not,fun k hk => Nat.lt_of_lt_of_le (h.lt k hk) hc.size⟩
theorem RefV.below {w w1 : World} {g : Nat} {A : Option Addr} {c : Nat} {L : List En} {D : Nat → Prop} (h : RefV w g A c L D) (hb : Below w.heap.size w w1) : RefV w1 g A c L D :=
  h.keep (Ch.of_below (S := fun _ => False) hb) (fun s => s) (fun _ _ s => s)
end Go.Proofs.Ythmbfcfomcaaaaa.Z
end
section
namespace Go.Proofs.Ythmbfcfomcaaaaa.Z
set_option linter.unusedVariables false
set_option linter.unusedSimpArgs false
open Go.RowKit Go.Proofs.YthmbfcfomcaaaaaW.PrintWords Go.Proofs.YthmbfcfomcaaaaaW.PrintLast Go.Proofs.YthmbfcfomcaaaaaW.PrintMore Go.Proofs.Ythmbfcfomcaaaaa.Cmp
structure RefCh (w w' : World) (g : Nat) (D D' : Nat → Prop) : Prop where
  ch : Ch (fun k => k = g) w w'
  dat : ∀ k,D' k → D k ∨ w.heap.size ≤ k
theorem RefCh.same {w w' : World} {g : Nat} {D : Nat → Prop} (h : Below w.heap.size w w') : RefCh w w' g D D := ⟨Ch.of_below h,fun _ h => .inl h⟩
end Go.Proofs.Ythmbfcfomcaaaaa.Z
end
section
namespace Go.Proofs.Ythmbfcfomcaaaaa.Z
set_option linter.unusedVariables false
set_option linter.unusedSimpArgs false
open Go.RowKit Go.Shelf Go.Proofs.YthmbfcfomcaaaaaW.PrintWords Go.Proofs.YthmbfcfomcaaaaaW.PrintLast Go.Proofs.YthmbfcfomcaaaaaW.PrintMore Go.Proofs.Ythmbfcfomcaaaaa.Cmp
attribute [local go_sem] Oper.semAt_some
def RowsS (Bl bx : Nat) (v : Value) (ex : Ent) (w' : World) : Prop := w'.cell? ⟨Bl,0,none⟩ = some v ∧ w'.cell? ⟨bx,0,none⟩ = some (.slice ex.A ex.row.length ex.c) ∧ w'.cell? ⟨bx,1,none⟩ = some (.int .i64 ex.many)
theorem heldS {W : World} {Bl bx t q : Nat} {v : Value} {ex : Ent} {l r : Tr} {k : Int} (h : W.heap[Bl]? = some (.cells #[v] t (0,0))) (hx : W.heap[bx]? = some (.cells (ncells ex l r k) q (0,0))) : RowsS Bl bx v ex W :=
  ⟨(blk_cell h 0).trans rfl,(blk_cell hx 0).trans rfl,(blk_cell hx 1).trans rfl⟩
theorem keepsO_below {W W' : World} (h : Below W.heap.size W W') : KeepsOthers W W' := ⟨h.size,fun k o hk _ => (h.block k (Array.getElem?_eq_some_iff.1 hk).1).trans hk⟩
theorem docT_items (t : Tr) : docT t = t.items.map docI := by unfold docT docE Tr.ents entsL;rw [List.map_map];rfl
def RowsI (w : World) (L : List En) (W : World) : Prop := ∃ v,W.heap[w.heap.size]? = some (.cells #[v] 22 (0,0)) ∧ Kd.R k34 34 W w.heap.size (fun k => k ≠ w.heap.size) v L
theorem own_rows (w : World) {α : Type} (f : List α → List En) (B : Nat) : OwnFrom B (fun pre W => RowsI w (f pre) W) := by
  rintro pre W W' row ⟨v,hb,hR⟩ hg hr
  have hne : ∀ {k : Nat} {cs : Array Value} {q : TypeId},W.heap[k]? = some (.cells cs q (0,0)) → some k ≠ row := fun {k cs q} hk e => by
    obtain ⟨_,o,ho,hc⟩ := hr k e.symm
    rw [hk] at ho
    cases ho
    cases hc
  refine ⟨v,blk_grown hb hg (hne hb),Kd.R_mono (Kd.R_grown (Kd.R_bound hR) hg (fun k hk => by obtain ⟨q,_,cs,hc⟩ := hk.2.2.2;exact hne hc)) (fun k hk => hk.1)⟩
set_option maxRecDepth 100000 in
set_option maxHeartbeats 4000000 in
theorem bag_rows {D : Nat → Prop} (b : Nat) (t : Tr) (w : World) (h : BagAt w b t D) (hs : t.size ≤ 1000000) :
    Calls Try.prog 34 #[.pointer (some ⟨b,0,none⟩)] w fun e w' => ∃ v,e = .returned v ∧ Kd.R k34 34 w' w.heap.size (fun _ => True) v (docT t) ∧ Below w.heap.size w w' := by
  have HA := Aside0.mk h
  have HS := Aside0.mk hs
  have c0 := blk_cell h.blk 0
  simp only [bcells,List.getElem?_toArray,List.getElem?_cons_zero] at c0
  have hb := h.lt.1
  have NALL := Aside0.mk (fun w' => nd_all t w')
  have STOPS := Aside0.mk (fun Bt w' hBt hn hc hT => nd_all_stops (D := D) 2 Bt w.heap.size t w' hBt hn hc hT)
  obtain ⟨q0,hq0⟩ := ptr_case t
  have HQ0 := Aside0.mk hq0
  rw [hq0] at c0 NALL STOPS
  clear h hs hq0
  have hdd : ∀ k : Nat,(Fence.wide.depth.isSome = true → 1 ≤ k) := fun k h => by cases h
  have hwA : Fence.wide.fn 76 := trivial
  have hwC : Fence.wide.fn 63 := trivial
  refine (callsIn_wide (n := 3)).1 ?_
  refine callsIn_of_wp_marks Try.func34 rfl trivial ?_ rfl
  simp only [Try.ntmps34,List.size_toArray,List.length_cons,List.length_nil,Nat.reduceAdd,Nat.reduceSub,Array.replicate_succ,Array.replicate_zero,List.push_toArray,List.append_toArray,List.nil_append,List.cons_append]
  gi_wp2_with ((try refine ⟨hdd _,?_⟩);gi_at_call 76;refine (callsIn_wide.2 (NALL.out _)).mono ?_;rintro e w' ⟨rfl,rfl⟩)
  obtain ⟨B0,hB0e⟩ : ∃ B0,w.heap.size = B0 := ⟨_,rfl⟩
  have hB0 : Below w.heap.size w ((w.alloc (.cells #[.slice none 0 0] 22)).alloc (.cells #[.pointer q0] 81)) := below_alloc (below_alloc (Below.refl _ _) _) _
  have hbx0 : ((w.alloc (.cells #[.slice none 0 0] 22)).alloc (.cells #[.pointer q0] 81)).heap[w.heap.size]? = some (.cells #[.slice none 0 0] 22 (0,0)) := blk_alloc (blk_new w _) _
  have hbn : ((w.alloc (.cells #[.slice none 0 0] 22)).alloc (.cells #[.pointer q0] 81)).cell? ⟨w.heap.size + 1,0,none⟩ = some (.pointer q0) := by
    have := blk_new (w.alloc (.cells #[.slice none 0 0] 22)) (.cells #[.pointer q0] 81)
    rw [World.size_alloc] at this
    exact (blk_cell this 0).trans rfl
  have hT : InB w.heap.size ((w.alloc (.cells #[.slice none 0 0] 22)).alloc (.cells #[.pointer q0] 81)) D t := ⟨(HA.out.below hB0).tree.inn,HA.out.lt.2.1,HA.out.lt.2.2⟩
  clear hB0e
  refine wpIn_rangeFunc_ownG (F := Fence.wide) (n := 3) rfl (by omega) (gf := 97) (lb := #[.pointer (some ⟨w.heap.size + 1,0,none⟩)]) rfl trivial (enters_of Try.func97 (by kernel_rfl) rfl) (STOPS.out (w.heap.size + 1) _ (by simp) (by simp;omega) hbn hT) belowK_t (belowK_b (by simp;omega)) (Below.refl _ _) (fun _ => rfl)
    (fun pre W => RowsI w (pre.map (fun y => docI y.1)) W ∧ Below w.heap.size w W) (fun _ _ _ => False)
    (OwnFrom.and (own_rows w (fun pre : List { x : Nat × Ent // x ∈ t.items } => pre.map (fun y => docI y.1)) _) (ownFrom_below (Nat.le_refl _) (by simp;omega))) (fun _ _ _ _ _ hs _ _ => hs)
    ⟨⟨.slice none 0 0,hbx0,Kd.R_nil _ _ _ _ _⟩,hB0⟩
    (fun x => { tmps := #[.pointer (some ⟨b,0,none⟩),undef,.slice none 0 0,.pointer (some ⟨w.heap.size,0,none⟩),.pointer (some ⟨x.1.1,0,none⟩),.pointer (some ⟨b,0,none⟩),.bool false,.pointer (some ⟨b,0,none⟩),.pointer (some ⟨b,0,none⟩),.pointer (some ⟨b,0,none⟩),.pointer q0,.func (.func 97) #[] #[.pointer (some ⟨w.heap.size + 1,0,none⟩)],.pointer (some ⟨x.1.1,0,none⟩),undef,undef,undef,undef,undef,undef,undef,undef,undef,undef,undef,undef,undef,undef,undef,undef],defers := [] }) ?assign ?body ?done ?stop
  case assign =>
    intro l x W K hK
    simp only [ptrOf]
    gi_wp2
    exact hK
  case body =>
    rintro l pre ⟨x,hx⟩ W ⟨⟨v,hbx,hR⟩,hB⟩ hlt
    obtain ⟨bx,ex⟩ := x
    obtain ⟨tl,tr,k,hnx,hex⟩ := (HA.out.below hB).tree.inn.node_of _ hx
    obtain ⟨L,hL⟩ : ∃ L,pre.map (fun y => docI y.1) = L := ⟨_,rfl⟩
    have HL := Aside0.mk hL
    have LPR := Aside0.mk (show L.length < 1000000 by have h1 := HS.out;unfold Tr.size at h1;rw [← hL,List.length_map];omega)
    change Kd.R _ _ _ _ _ _ (pre.map (fun y => docI y.1)) at hR
    rw [hL] at hR
    clear hL
    have BX1 := Aside0.mk (show W.drew.heap[w.heap.size]? = some (.cells #[v] 22 (0,0)) from hbx)
    have NX1 := Aside0.mk (show W.drew.heap[bx]? = some (.cells (ncells ex tl tr k) 90 (0,0)) from hnx)
    have HRW := Aside0.mk (Kd.R_drew hR)
    have HBW := Aside0.mk (below_drew1 hB)
    have RL := right_len (HA.out.ok.item hx).1
    have CLN := Aside0.mk (clone_at ex.A ex.c ex.row W.drew (hex.c.below (below_drew1 (Below.refl _ _))) (by have : ex.row.length ≤ 40 := RL;omega))
    obtain ⟨Av,cv,ev⟩ := Kd.R_slice hR
    have KO := Aside0.mk (KeepsOthers.drew W)
    have HD := Aside0.mk (show Below w.heap.size W W.drew from below_drew1 (Below.refl _ _))
    have LTB := Aside0.mk (blk_lt BX1.out)
    clear hbx hnx hR hB hex RL
    subst ev
    gi_wp2
    refine startR_ (m := 16) (S := RowsS w.heap.size bx (.slice Av L.length cv) ex) (ds := [15]) #[false,false,false,false,false,false,false,false,false,false,false,false,false,false,false,false] (by kernel_rfl) (noDefer_at (by kernel_rfl)) (fun ⟨_,_,h⟩ => h) rfl rfl (heldS BX1.out NX1.out) (fun hHeld => ?_)
    generalize W.drew = W1 at *
    refine pure_ (i := 1) (N := some 14) (v := ?_) (a' := ?_) #[false,true,false,false,false,false,false,false,false,false,false,false,false,false,false,false] rfl rfl (by kernel_rfl) (fun _ _ _ h => h) (Or.inl ⟨by rfl,?_⟩) ?_ ?_
    rotate_left
    · intro w'
      go_simp
      with_reducible rfl
    rotate_left
    · simp only [Act.put,zA,zB,zC,i64_w,i32_w]
      rfl
    refine pure_ (i := 2) (N := some 15) (v := ?_) (a' := ?_) #[false,true,true,false,false,false,false,false,false,false,false,false,false,false,false,false] rfl rfl (by kernel_rfl) (fun _ _ _ h => h) (Or.inl ⟨by rfl,?_⟩) ?_ ?_
    rotate_left
    · intro w'
      go_simp
      with_reducible rfl
    rotate_left
    · simp only [Act.put,zA,zB,zC,i64_w,i32_w]
      rfl
    refine pure_ (i := 3) (N := some 16) (v := ?_) (a' := ?_) #[false,true,true,true,false,false,false,false,false,false,false,false,false,false,false,false] rfl rfl (by kernel_rfl) (fun _ _ _ h => h) (Or.inl ⟨by rfl,?_⟩) ?_ ?_
    rotate_left
    · intro w'
      go_simp
      with_reducible rfl
    rotate_left
    · simp only [Act.put,zA,zB,zC,i64_w,i32_w]
      rfl
    refine pure_ (i := 4) (N := some 17) (v := ?_) (a' := ?_) #[false,true,true,true,true,false,false,false,false,false,false,false,false,false,false,false] rfl rfl (by kernel_rfl) (fun _ _ _ h => h) (Or.inl ⟨by rfl,?_⟩) ?_ ?_
    rotate_left
    · intro w'
      go_simp
      with_reducible rfl
    rotate_left
    · simp only [Act.put,zA,zB,zC,i64_w,i32_w]
      rfl
    refine pure_ (i := 7) (N := some 20) (v := ?_) (a' := ?_) #[false,true,true,true,true,false,false,true,false,false,false,false,false,false,false,false] rfl rfl (by kernel_rfl) (fun _ _ _ h => h) (Or.inl ⟨by rfl,?_⟩) ?_ ?_
    rotate_left
    · intro w'
      go_simp
      with_reducible rfl
    rotate_left
    · simp only [Act.put,zA,zB,zC,i64_w,i32_w]
      rfl
    refine pure_ (i := 8) (N := some 21) (v := ?_) (a' := ?_) #[false,true,true,true,true,false,false,true,true,false,false,false,false,false,false,false] rfl rfl (by kernel_rfl) (fun _ _ _ h => h) (Or.inl ⟨by rfl,?_⟩) ?_ ?_
    rotate_left
    · intro w'
      go_simp
      with_reducible rfl
    rotate_left
    · simp only [Act.put,zA,zB,zC,i64_w,i32_w]
      rfl
    refine pure_ (i := 9) (N := some 22) (v := ?_) (a' := ?_) #[false,true,true,true,true,false,false,true,true,true,false,false,false,false,false,false] rfl rfl (by kernel_rfl) (fun _ _ _ h => h) (Or.inl ⟨by rfl,?_⟩) ?_ ?_
    rotate_left
    · intro w'
      go_simp
      with_reducible rfl
    rotate_left
    · simp only [Act.put,zA,zB,zC,i64_w,i32_w]
      rfl
    refine pure_ (i := 10) (N := some 23) (v := ?_) (a' := ?_) #[false,true,true,true,true,false,false,true,true,true,true,false,false,false,false,false] rfl rfl (by kernel_rfl) (fun _ _ _ h => h) (Or.inl ⟨by rfl,?_⟩) ?_ ?_
    rotate_left
    · intro w'
      go_simp
      with_reducible rfl
    rotate_left
    · simp only [Act.put,zA,zB,zC,i64_w,i32_w]
      rfl
    refine take_ (i := 0) (N := some 13) (v := ?_) (a' := ?_) #[true,true,true,true,true,false,false,true,true,true,true,false,false,false,false,false] rfl rfl (by kernel_rfl) (fun _ _ _ h => h) (Or.inl ⟨by rfl,?_⟩) hHeld ?_ ?_
    rotate_left
    · rintro w' ⟨s0,s1,s2⟩
      go_simp
      with_reducible rfl
    rotate_left
    · simp only [Act.put,zA,zB,zC,i64_w,i32_w]
      rfl
    refine take_ (i := 5) (N := some 18) (v := ?_) (a' := ?_) #[true,true,true,true,true,true,false,true,true,true,true,false,false,false,false,false] rfl rfl (by kernel_rfl) (fun _ _ _ h => h) (Or.inl ⟨by rfl,?_⟩) hHeld ?_ ?_
    rotate_left
    · rintro w' ⟨s0,s1,s2⟩
      go_simp
      with_reducible rfl
    rotate_left
    · simp only [Act.put,zA,zB,zC,i64_w,i32_w]
      rfl
    refine take_ (i := 11) (N := some 24) (v := ?_) (a' := ?_) #[true,true,true,true,true,true,false,true,true,true,true,true,false,false,false,false] rfl rfl (by kernel_rfl) (fun _ _ _ h => h) (Or.inl ⟨by rfl,?_⟩) hHeld ?_ ?_
    rotate_left
    · rintro w' ⟨s0,s1,s2⟩
      go_simp
      with_reducible rfl
    rotate_left
    · simp only [Act.put,zA,zB,zC,i64_w,i32_w]
      rfl
    refine one_ (i := 6) (N := some 19) #[true,true,true,true,true,true,true,true,true,true,true,true,false,false,false,false] rfl rfl (by kernel_rfl) (by decide) (fun K hK => ?_)
    refine goes_ Try.func63 (by kernel_rfl) rfl #[.slice ex.A ex.row.length ex.c] (by rfl) rfl rfl (by (try simp only [List.map_toArray,List.map_cons,List.map_nil]);first | done | rfl) ?_
    refine (CLN.out.mono ?_)
    rintro e w2 ⟨v1,rfl,hv,hb⟩
    refine ⟨_,rfl,?_⟩
    have HV := Aside0.mk hv
    have B2 := Aside0.mk hb
    have BX2 := Aside0.mk (blk_below BX1.out hb)
    have NX2 := Aside0.mk (blk_below NX1.out hb)
    obtain ⟨A1,c1,e1⟩ := Kd.R_slice hv
    clear hv hb CLN BX1 NX1
    subst e1
    refine hK.out _ _ (heldS BX2.out NX2.out) (fun hHeld => ?_)
    clear hK K
    refine norm_ (a' := ?_) ?_ ?_
    rotate_left
    · show Act.put _ (some 19) _ = _
      simp only [Act.put,zA,zB,zC,i64_w,i32_w]
      rfl
    refine pure_ (i := 12) (N := some 25) (v := ?_) (a' := ?_) #[true,true,true,true,true,true,true,true,true,true,true,true,true,false,false,false] rfl rfl (by kernel_rfl) (fun _ _ _ h => h) (Or.inl ⟨by rfl,?_⟩) ?_ ?_
    rotate_left
    · intro w'
      go_simp
      with_reducible rfl
    rotate_left
    · simp only [Act.put,zA,zB,zC,i64_w,i32_w]
      rfl
    refine one_ (i := 13) (N := some 26) #[true,true,true,true,true,true,true,true,true,true,true,true,true,true,false,false] rfl rfl (by kernel_rfl) (by decide) (fun K hK => ?_)
    refine value_ (w1 := ?_) (v := ?_) (by rfl) rfl ?_ ?_
    rotate_left 2
    · go_simp
      constructor
      · rfl
      · rfl
    refine hK.out _ _ (heldS (blk_alloc BX2.out _) (blk_alloc NX2.out _)) (fun hHeld => ?_)
    clear hK K
    refine norm_ (a' := ?_) ?_ ?_
    rotate_left
    · show Act.put _ (some 26) _ = _
      simp only [Act.put,zA,zB,zC,i64_w,i32_w]
      rfl
    refine one_ (i := 14) (N := some 27) #[true,true,true,true,true,true,true,true,true,true,true,true,true,true,true,false] rfl rfl (by kernel_rfl) (by decide) (fun K hK => ?_)
    have HRW2 := Aside0.mk (Kd.R_below HRW.out B2.out)
    have APM := Aside0.mk (show Kd.R k66 66 w2 w.heap.size (fun k => W1.heap.size ≤ k) (.slice A1 ex.row.length c1) ex.row from Kd.R_lower (Kd.R_mono (Kd.R_bound HV.out) (fun k hk => hk.2.1)) (Nat.le_of_lt LTB.out))
    have APK := Aside0.mk (fun k (hk : W1.heap.size ≤ k) => show k ≠ w.heap.size ∧ some k ≠ ((.slice Av L.length cv) : Value).ownBlock from ⟨by have := LTB.out;omega,fun e => by have := Kd.R_lt HRW.out k e.symm;omega⟩)
    refine Kd.R_append_step k34 (w0 := w) w.heap.size (by rfl) (.tmp 13) (.tmp 26) 22 34 (.agg #[(.slice none 0 0),(.int .i64 0)]) 32 rfl Try.underlying22 info34 rfl (by decide) (by omega) (.slice Av L.length cv) L (⟨ex.row,ex.many⟩ : En) [.slice A1 ex.row.length c1,.int .i64 ex.many] (fun k => k ≠ w.heap.size) (fun k => W1.heap.size ≤ k) rfl rfl (k34_mkM _ _ _ (⟨ex.row,ex.many⟩ : En) APM.out) APK.out (fun k hk => by have := LTB.out;have := B2.out.size;omega) HRW2.out (HBW.out.trans (B2.out.mono HBW.out.size)) (by have := LTB.out;have := B2.out.size;omega) (by have := LPR.out;omega) ?_
    intro v3 w3 ho hb3 hg hat
    have BX3 := Aside0.mk (blk_grown BX2.out hg (fun e => (HRW2.out.1 _ e.symm) rfl))
    have NX3 := Aside0.mk (blk_grown NX2.out hg (fun e => by have h1 := (Kd.R_typed HRW2.out) _ e.symm;obtain ⟨cs,hcs⟩ := h1;rw [NX2.out] at hcs;cases hcs))
    have HO := Aside0.mk ho
    have HB3 := Aside0.mk hb3
    have KO3 := Aside0.mk ((KO.out.trans (keepsO_below B2.out)).trans (KeepsOthers.of_grownBy hg (fun j o e ho2 => by obtain ⟨cs,hcs⟩ := Kd.R_typed HRW2.out j e;rw [hcs] at ho2;cases ho2;rfl)))
    have HD3 := Aside0.mk ((HD.out.trans (B2.out.mono (by have := HBW.out.size;omega))).grown hg (by have := HBW.out.size;have := B2.out.size;omega) (fun k e => Kd.R_base HRW2.out k e))
    obtain ⟨A3,c3,e3⟩ := Kd.R_slice ho
    clear ho hb3 hg hat
    subst e3
    refine hK.out _ _ (heldS BX3.out NX3.out) (fun hHeld => ?_)
    clear hK K
    refine norm_ (a' := ?_) ?_ ?_
    rotate_left
    · show Act.put _ (some 27) _ = _
      simp only [Act.put,zA,zB,zC,i64_w,i32_w]
      rfl
    refine last_ (i := 15) (N := none) #[true,true,true,true,true,true,true,true,true,true,true,true,true,true,true,true] rfl rfl (by kernel_rfl) (by decide) (fun K hK => ?_)
    have z0 := blk_frozen BX3.out 0
    have y0 := (blk_cell BX3.out 0).trans rfl
    refine skip_ (w1 := w3.setCell ⟨w.heap.size,0,none⟩ (.slice A3 (L ++ [(⟨ex.row,ex.many⟩ : En)]).length c3)) (by rfl) rfl ?_ ?_
    · go_simp
      try with_reducible rfl
    refine hK.out _ _ ?_
    clear hK K
    refine done_ (by kernel_rfl) ?_
    show KeepsFrom _ _ _ ∧ Below _ _ _ ∧ RowsI _ _ _ ∧ Below _ _ _
    refine ⟨(KO3.out.trans (KeepsOthers.setCell _ _ _)).from _,HD3.out.setCell (Nat.le_refl _) _,⟨_,blk_put BX3.out 0 _ rfl,?_⟩,HB3.out.setCell (Nat.le_refl _) _⟩
    rw [List.map_append,HL.out]
    exact Kd.R_far (p := ⟨w.heap.size,0,none⟩) HO.out (fun k hk => hk) _
  case done =>
    rintro D2 ys W hD2 hys ⟨⟨v,hbx,hR⟩,hB⟩ hK
    have hd : ys.map (fun y => docI y.1) = docT t := by
      have h1 := congrArg (List.map docI) hys
      rw [List.map_map] at h1
      exact h1.trans (docT_items t).symm
    change Kd.R _ _ _ _ _ _ (ys.map (fun y => docI y.1)) at hR
    rw [hd] at hR
    clear hd
    obtain ⟨A9,c9,e9⟩ := Kd.R_slice hR
    have HR9 := Aside0.mk hR
    have HB9 := Aside0.mk hB
    have LK := Aside0.mk (show D2 ≠ w.heap.size by simp at hD2;omega)
    have y0 := (blk_cell hbx 0).trans rfl
    have HK := Aside0.mk hK
    have HYS := Aside0.mk hys
    have HD2 := Aside0.mk hD2
    clear hR hB hbx hK hys hD2
    subst e9
    gi_wp2
    refine ⟨by simp,.inl ⟨_,_,rfl,run_takeDeferred HK.out,?_⟩⟩
    have hg := grownBy_putObj' W D2 (.deferred none)
    have hR' := Kd.R_mono (ok' := fun _ => True) (Kd.R_grown (Kd.R_bound HR9.out) hg (fun k hk e => by
      obtain ⟨q,_,cs,hc⟩ := hk.2.2.2
      injection e with e
      subst e
      rw [HK.out] at hc
      cases hc)) (fun _ _ => trivial)
    exact ⟨_,results_tmp rfl _ _ _,.slice A9 (docT t).length c9,rfl,hR',HB9.out.trans (belowK_b (w := w) (Nat.le_refl _) W D2 _ _ (by have := HD2.out;simp at this;omega) HK.out rfl rfl)⟩
  case stop =>
    rintro D2 c pre W _ _ h _
    exact h.elim
end Go.Proofs.Ythmbfcfomcaaaaa.Z
end
section
namespace Go.Proofs.Ythmbfcfomcaaaaa.Z
open Go.RowKit Go.Proofs.YthmbfcfomcaaaaaW.PrintWords Go.Proofs.YthmbfcfomcaaaaaW.PrintLast Go.Proofs.YthmbfcfomcaaaaaW.PrintMore
attribute [local go_sem] max2_int min2_int max_two min_two max_three min_three max_four min_four
set_option linter.unusedVariables false
set_option linter.unusedSimpArgs false
def verdererref05_Alike.l0 : Nat → List (S34) → List (S34) → Int → Option (Bool)
  | 0,_,_,_ => none
  | k + 1,x0,x1,x5 => if x5 < (x0.length : Int) then (if 0 ≤ x5 then (if x5 < (x1.length : Int) then (if ((rd_T34 x0 x5).f1) = ((rd_T34 x1 x5).f1) then ((verdererref02_Equal.f k ((rd_T34 x0 x5).f0) ((rd_T34 x1 x5).f0)).bind fun t173 => (if t173 = true then (verdererref05_Alike.l0 k x0 x1 (wrap64 (x5 + 1))) else (some false))) else (some false)) else (none)) else (none)) else (some true)
def verdererref05_Alike.f (k : Nat) (l0 : List (S34)) (l1 : List (S34)) : Option (Bool) := if (l0.length : Int) = (l1.length : Int) then (verdererref05_Alike.l0 k l0 l1 0) else (some false)
theorem verdererref05_Alike.mono_l : ∀ k,(∀ y0 y1 y2,LeO (verdererref05_Alike.l0 k y0 y1 y2) (verdererref05_Alike.l0 (k + 1) y0 y1 y2))
  | 0 => fun _ _ _ r h => by simp [verdererref05_Alike.l0] at h
  | k + 1 => by
    have ih0 := verdererref05_Alike.mono_l k
    · intro y0 y1 y2
      unfold verdererref05_Alike.l0
      repeat' first
      | (with_reducible exact ih0 _ _ _)
      | (with_reducible exact verdererref02_Equal.mono _ _ _)
      | (with_reducible exact LeO.refl _)
      | (with_reducible exact LeO.none _)
      | (with_reducible refine LeO.ite ?_ ?_)
      | (with_reducible refine LeO.bind ?_ (fun _ => ?_))
      | exact ih0 _ _ _
      | exact verdererref02_Equal.mono _ _ _
      | exact LeO.none _
      | refine LeO.ite ?_ ?_
      | refine LeO.bind ?_ (fun _ => ?_)
theorem verdererref05_Alike.mono : ∀ a0 a1 k,LeO (verdererref05_Alike.f k a0 a1) (verdererref05_Alike.f (k + 1) a0 a1) := by
  intro a0 a1 k
  have ih0 := verdererref05_Alike.mono_l k
  unfold verdererref05_Alike.f
  repeat' first
      | (with_reducible exact ih0 _ _ _)
      | (with_reducible exact verdererref02_Equal.mono _ _ _)
      | (with_reducible exact LeO.refl _)
      | (with_reducible exact LeO.none _)
      | (with_reducible refine LeO.ite ?_ ?_)
      | (with_reducible refine LeO.bind ?_ (fun _ => ?_))
      | exact ih0 _ _ _
      | exact verdererref02_Equal.mono _ _ _
      | exact LeO.none _
      | refine LeO.ite ?_ ?_
      | refine LeO.bind ?_ (fun _ => ?_)
set_option maxHeartbeats 8000000 in
set_option maxRecDepth 100000 in
theorem verdererref05_Alike.calls (k : Nat) (A0 : Option Addr) (c0 : Nat) (l0 : List (S34)) (A1 : Option Addr) (c1 : Nat) (l1 : List (S34)) (r : Bool) (w : World) (hr0 : Kd.C k34 w A0 l0.length l0) (hc0 : l0.length ≤ c0) (hr1 : Kd.C k34 w A1 l1.length l1) (hc1 : l1.length ≤ c1) (h : verdererref05_Alike.f k l0 l1 = some r) :
    Calls Try.prog 31 #[.slice A0 l0.length c0,.slice A1 l1.length c1] w fun e w' => e = .returned (.bool r) ∧ Drawn0 w w' := by
  have HR0 := Aside0.mk hr0
  have HC0 := Aside0.mk hc0
  clear hr0 hc0
  have HR1 := Aside0.mk hr1
  have HC1 := Aside0.mk hc1
  clear hr1 hc1
  have H : (if (l0.length : Int) = (l1.length : Int) then (verdererref05_Alike.l0 k l0 l1 0) else (some false)) = some r := h
  clear h
  by_cases c3 : (l0.length : Int) = (l1.length : Int)
  · rw [if_pos c3] at H
    have c3b0 : ((l0.length : Int) == (l1.length : Int)) = true := beq_iff_eq.mpr c3
    have c3b1 : ((l0.length : Int) != (l1.length : Int)) = false := bne_eq_false_iff_eq.mpr c3
    have c3b2 : (l0.length == l1.length) = true := by first | simpa using c3 | (simp at c3 ⊢;omega)
    clear c3
    have H' := Aside0.mk H
    clear H
    go_enter Try.func31,Try.ntmps31
    go_wp2
    repeat (go_quiet (fail);try go_wp2)
    go_loopg [5] k (fun kq v5 w' => ∃ (x5_1 : Int),v5 = .int .i64 x5_1 ∧ Aside0 (verdererref05_Alike.l0 kq l0 l1 x5_1 = some r) ∧ Aside0 (kq ≤ k) ∧ Drawn0 w w')
    case atStart => exact ⟨(0),(by first | rfl | (simp;done) | (simp [*];done)),H',⟨Nat.le_refl _⟩,by repeat (first | exact Drawn0.refl _ | apply Drawn0.step)⟩
    case round =>
      clear H'
      try clear c1
      try clear p2
      try clear c3
      try clear c3b0
      try clear c3b1
      try clear c3b2
      obtain ⟨x5_1,rfl,HA,HK1,⟨m1,rfl⟩⟩ := hrel
      cases gk with
      | zero => exact absurd HA.out (by simp [verdererref05_Alike.l0])
      | succ k1 =>
        have H := HA.out
        clear HA
        simp only [verdererref05_Alike.l0] at H
        by_cases c4 : x5_1 < (l0.length : Int)
        · rw [if_pos c4] at H
          have c4b0 : decide (x5_1 < (l0.length : Int)) = true := decide_eq_true c4
          clear c4
          by_cases c5 : 0 ≤ x5_1
          · rw [if_pos c5] at H
            have c5b0 : decide (0 ≤ x5_1) = true := decide_eq_true c5
            clear c5
            by_cases c6 : x5_1 < (l1.length : Int)
            · rw [if_pos c6] at H
              have c6b0 : decide (x5_1 < (l1.length : Int)) = true := decide_eq_true c6
              clear c6
              by_cases c7 : ((rd_T34 l0 x5_1).f1) = ((rd_T34 l1 x5_1).f1)
              · rw [if_pos c7] at H
                have c7b0 : (((rd_T34 l0 x5_1).f1) == ((rd_T34 l1 x5_1).f1)) = true := beq_iff_eq.mpr c7
                have c7b1 : (((rd_T34 l0 x5_1).f1) != ((rd_T34 l1 x5_1).f1)) = false := bne_eq_false_iff_eq.mpr c7
                clear c7
                replace H := Option.bind_eq_some_iff.mp H
                obtain ⟨t173,A80,H⟩ := H
                replace H : (if t173 = true then (verdererref05_Alike.l0 k1 l0 l1 (wrap64 (x5_1 + 1))) else (some false)) = some r := H
                have A8 := Aside0.mk A80
                clear A80
                by_cases c9 : t173 = true
                · subst c9
                  have H1 : (verdererref05_Alike.l0 k1 l0 l1 (wrap64 (x5_1 + 1))) = some r := by rw [if_pos rfl] at H;exact H
                  clear H
                  have H := H1
                  clear H1
                  have H' := Aside0.mk H
                  clear H
                  have p169 : 0 ≤ (x5_1 : Int) := of_decide_eq_true (by first | (with_reducible assumption) | assumption)
                  have q169 : x5_1 < (l0.length : Int) := of_decide_eq_true (by first | (with_reducible assumption) | assumption)
                  obtain ⟨ad169,A169_0,c169_0,e169,hx169_0,hx169_1,hl169_0,hi169_0⟩ := at_T34 HR0.out x5_1 p169 q169
                  cases e169
                  have HR169_0 := Aside0.mk hi169_0
                  have HC169_0 := Aside0.mk hl169_0
                  clear hi169_0 hl169_0
                  replace p169 := eq_true p169
                  replace q169 := eq_true q169
                  have p170 : 0 ≤ (x5_1 : Int) := of_decide_eq_true (by first | (with_reducible assumption) | assumption)
                  have q170 : x5_1 < (l1.length : Int) := of_decide_eq_true (by first | (with_reducible assumption) | assumption)
                  obtain ⟨ad170,A170_0,c170_0,e170,hx170_0,hx170_1,hl170_0,hi170_0⟩ := at_T34 HR1.out x5_1 p170 q170
                  cases e170
                  have HR170_0 := Aside0.mk hi170_0
                  have HC170_0 := Aside0.mk hl170_0
                  clear hi170_0 hl170_0
                  replace p170 := eq_true p170
                  replace q170 := eq_true q170
                  have p171 : 0 ≤ (x5_1 : Int) := of_decide_eq_true (by first | (with_reducible assumption) | assumption)
                  have q171 : x5_1 < (l0.length : Int) := of_decide_eq_true (by first | (with_reducible assumption) | assumption)
                  obtain ⟨ad171,A171_0,c171_0,e171,hx171_0,hx171_1,hl171_0,hi171_0⟩ := at_T34 HR0.out x5_1 p171 q171
                  obtain rfl : ad169 = ad171 := (by injection e171)
                  have HR171_0 := Aside0.mk hi171_0
                  have HC171_0 := Aside0.mk hl171_0
                  clear hi171_0 hl171_0
                  replace p171 := eq_true p171
                  replace q171 := eq_true q171
                  have ea_ := Option.some.inj (hx169_0.symm.trans hx171_0)
                  injection ea_ with ea_ en_ ec_
                  subst ea_
                  subst ec_
                  clear en_
                  have p172 : 0 ≤ (x5_1 : Int) := of_decide_eq_true (by first | (with_reducible assumption) | assumption)
                  have q172 : x5_1 < (l1.length : Int) := of_decide_eq_true (by first | (with_reducible assumption) | assumption)
                  obtain ⟨ad172,A172_0,c172_0,e172,hx172_0,hx172_1,hl172_0,hi172_0⟩ := at_T34 HR1.out x5_1 p172 q172
                  obtain rfl : ad170 = ad172 := (by injection e172)
                  have HR172_0 := Aside0.mk hi172_0
                  have HC172_0 := Aside0.mk hl172_0
                  clear hi172_0 hl172_0
                  replace p172 := eq_true p172
                  replace q172 := eq_true q172
                  have ea_ := Option.some.inj (hx170_0.symm.trans hx172_0)
                  injection ea_ with ea_ en_ ec_
                  subst ea_
                  subst ec_
                  clear en_
                  go_wp2_with (first | (go_at_call 22;(with_reducible refine (verdererref02_Equal.calls k1 _ _ ((rd_T34 l0 x5_1).f0) _ _ ((rd_T34 l1 x5_1).f0) true _ ?side1 ?side2 ?side3 ?side4 A8.out).mono ?_);(case side1 => repeat (first | exact HR171_0.out | (with_reducible refine Kd.C_alloc ?_ _) | (with_reducible refine Kd.C_drewN ?_ _) | (with_reducible refine Kd.C_drew ?_)));(case side2 => exact HC171_0.out);(case side3 => repeat (first | exact HR172_0.out | (with_reducible refine Kd.C_alloc ?_ _) | (with_reducible refine Kd.C_drewN ?_ _) | (with_reducible refine Kd.C_drew ?_)));(case side4 => exact HC172_0.out);rintro e w' ⟨rfl,⟨nd,rfl⟩⟩;(try first | exact ⟨rfl,_,World.drewN_drewN _ _ _⟩ | exact ⟨rfl,_,Eq.trans (World.drewN_drewN _ _ _) (congrArg (World.drewN _) (Nat.add_assoc _ _ _))⟩)))
                  repeat (go_quiet (first | (go_at_call 22;(with_reducible refine (verdererref02_Equal.calls k1 _ _ ((rd_T34 l0 x5_1).f0) _ _ ((rd_T34 l1 x5_1).f0) true _ ?side1 ?side2 ?side3 ?side4 A8.out).mono ?_);(case side1 => repeat (first | exact HR171_0.out | (with_reducible refine Kd.C_alloc ?_ _) | (with_reducible refine Kd.C_drewN ?_ _) | (with_reducible refine Kd.C_drew ?_)));(case side2 => exact HC171_0.out);(case side3 => repeat (first | exact HR172_0.out | (with_reducible refine Kd.C_alloc ?_ _) | (with_reducible refine Kd.C_drewN ?_ _) | (with_reducible refine Kd.C_drew ?_)));(case side4 => exact HC172_0.out);rintro e w' ⟨rfl,⟨nd,rfl⟩⟩;(try first | exact ⟨rfl,_,World.drewN_drewN _ _ _⟩ | exact ⟨rfl,_,Eq.trans (World.drewN_drewN _ _ _) (congrArg (World.drewN _) (Nat.add_assoc _ _ _))⟩)));try go_wp2_with (first | (go_at_call 22;(with_reducible refine (verdererref02_Equal.calls k1 _ _ ((rd_T34 l0 x5_1).f0) _ _ ((rd_T34 l1 x5_1).f0) true _ ?side1 ?side2 ?side3 ?side4 A8.out).mono ?_);(case side1 => repeat (first | exact HR171_0.out | (with_reducible refine Kd.C_alloc ?_ _) | (with_reducible refine Kd.C_drewN ?_ _) | (with_reducible refine Kd.C_drew ?_)));(case side2 => exact HC171_0.out);(case side3 => repeat (first | exact HR172_0.out | (with_reducible refine Kd.C_alloc ?_ _) | (with_reducible refine Kd.C_drewN ?_ _) | (with_reducible refine Kd.C_drew ?_)));(case side4 => exact HC172_0.out);rintro e w' ⟨rfl,⟨nd,rfl⟩⟩;(try first | exact ⟨rfl,_,World.drewN_drewN _ _ _⟩ | exact ⟨rfl,_,Eq.trans (World.drewN_drewN _ _ _) (congrArg (World.drewN _) (Nat.add_assoc _ _ _))⟩))))
                  go_roundg k1
                  case measure => have := HK1.out;omega
                  case rel => exact ⟨(wrap64 (x5_1 + 1)),(by first | rfl | (simp;done) | (simp [*];done)),H',⟨by have := HK1.out;omega⟩,by repeat (first | exact Drawn0.refl _ | apply Drawn0.step)⟩
                · replace c9 := Bool.eq_false_iff.mpr c9
                  subst c9
                  have H1 : (some false) = some r := by rw [if_neg (show ¬ (false = true) by decide)] at H;exact H
                  clear H
                  have H := H1
                  clear H1
                  obtain rfl := Option.some.inj H
                  have p169 : 0 ≤ (x5_1 : Int) := of_decide_eq_true (by first | (with_reducible assumption) | assumption)
                  have q169 : x5_1 < (l0.length : Int) := of_decide_eq_true (by first | (with_reducible assumption) | assumption)
                  obtain ⟨ad169,A169_0,c169_0,e169,hx169_0,hx169_1,hl169_0,hi169_0⟩ := at_T34 HR0.out x5_1 p169 q169
                  cases e169
                  have HR169_0 := Aside0.mk hi169_0
                  have HC169_0 := Aside0.mk hl169_0
                  clear hi169_0 hl169_0
                  replace p169 := eq_true p169
                  replace q169 := eq_true q169
                  have p170 : 0 ≤ (x5_1 : Int) := of_decide_eq_true (by first | (with_reducible assumption) | assumption)
                  have q170 : x5_1 < (l1.length : Int) := of_decide_eq_true (by first | (with_reducible assumption) | assumption)
                  obtain ⟨ad170,A170_0,c170_0,e170,hx170_0,hx170_1,hl170_0,hi170_0⟩ := at_T34 HR1.out x5_1 p170 q170
                  cases e170
                  have HR170_0 := Aside0.mk hi170_0
                  have HC170_0 := Aside0.mk hl170_0
                  clear hi170_0 hl170_0
                  replace p170 := eq_true p170
                  replace q170 := eq_true q170
                  have p171 : 0 ≤ (x5_1 : Int) := of_decide_eq_true (by first | (with_reducible assumption) | assumption)
                  have q171 : x5_1 < (l0.length : Int) := of_decide_eq_true (by first | (with_reducible assumption) | assumption)
                  obtain ⟨ad171,A171_0,c171_0,e171,hx171_0,hx171_1,hl171_0,hi171_0⟩ := at_T34 HR0.out x5_1 p171 q171
                  obtain rfl : ad169 = ad171 := (by injection e171)
                  have HR171_0 := Aside0.mk hi171_0
                  have HC171_0 := Aside0.mk hl171_0
                  clear hi171_0 hl171_0
                  replace p171 := eq_true p171
                  replace q171 := eq_true q171
                  have ea_ := Option.some.inj (hx169_0.symm.trans hx171_0)
                  injection ea_ with ea_ en_ ec_
                  subst ea_
                  subst ec_
                  clear en_
                  have p172 : 0 ≤ (x5_1 : Int) := of_decide_eq_true (by first | (with_reducible assumption) | assumption)
                  have q172 : x5_1 < (l1.length : Int) := of_decide_eq_true (by first | (with_reducible assumption) | assumption)
                  obtain ⟨ad172,A172_0,c172_0,e172,hx172_0,hx172_1,hl172_0,hi172_0⟩ := at_T34 HR1.out x5_1 p172 q172
                  obtain rfl : ad170 = ad172 := (by injection e172)
                  have HR172_0 := Aside0.mk hi172_0
                  have HC172_0 := Aside0.mk hl172_0
                  clear hi172_0 hl172_0
                  replace p172 := eq_true p172
                  replace q172 := eq_true q172
                  have ea_ := Option.some.inj (hx170_0.symm.trans hx172_0)
                  injection ea_ with ea_ en_ ec_
                  subst ea_
                  subst ec_
                  clear en_
                  go_wp2_with (first | (go_at_call 22;(with_reducible refine (verdererref02_Equal.calls k1 _ _ ((rd_T34 l0 x5_1).f0) _ _ ((rd_T34 l1 x5_1).f0) false _ ?side1 ?side2 ?side3 ?side4 A8.out).mono ?_);(case side1 => repeat (first | exact HR171_0.out | (with_reducible refine Kd.C_alloc ?_ _) | (with_reducible refine Kd.C_drewN ?_ _) | (with_reducible refine Kd.C_drew ?_)));(case side2 => exact HC171_0.out);(case side3 => repeat (first | exact HR172_0.out | (with_reducible refine Kd.C_alloc ?_ _) | (with_reducible refine Kd.C_drewN ?_ _) | (with_reducible refine Kd.C_drew ?_)));(case side4 => exact HC172_0.out);rintro e w' ⟨rfl,⟨nd,rfl⟩⟩;(try first | exact ⟨rfl,_,World.drewN_drewN _ _ _⟩ | exact ⟨rfl,_,Eq.trans (World.drewN_drewN _ _ _) (congrArg (World.drewN _) (Nat.add_assoc _ _ _))⟩)))
                  repeat (go_quiet (first | (go_at_call 22;(with_reducible refine (verdererref02_Equal.calls k1 _ _ ((rd_T34 l0 x5_1).f0) _ _ ((rd_T34 l1 x5_1).f0) false _ ?side1 ?side2 ?side3 ?side4 A8.out).mono ?_);(case side1 => repeat (first | exact HR171_0.out | (with_reducible refine Kd.C_alloc ?_ _) | (with_reducible refine Kd.C_drewN ?_ _) | (with_reducible refine Kd.C_drew ?_)));(case side2 => exact HC171_0.out);(case side3 => repeat (first | exact HR172_0.out | (with_reducible refine Kd.C_alloc ?_ _) | (with_reducible refine Kd.C_drewN ?_ _) | (with_reducible refine Kd.C_drew ?_)));(case side4 => exact HC172_0.out);rintro e w' ⟨rfl,⟨nd,rfl⟩⟩;(try first | exact ⟨rfl,_,World.drewN_drewN _ _ _⟩ | exact ⟨rfl,_,Eq.trans (World.drewN_drewN _ _ _) (congrArg (World.drewN _) (Nat.add_assoc _ _ _))⟩)));try go_wp2_with (first | (go_at_call 22;(with_reducible refine (verdererref02_Equal.calls k1 _ _ ((rd_T34 l0 x5_1).f0) _ _ ((rd_T34 l1 x5_1).f0) false _ ?side1 ?side2 ?side3 ?side4 A8.out).mono ?_);(case side1 => repeat (first | exact HR171_0.out | (with_reducible refine Kd.C_alloc ?_ _) | (with_reducible refine Kd.C_drewN ?_ _) | (with_reducible refine Kd.C_drew ?_)));(case side2 => exact HC171_0.out);(case side3 => repeat (first | exact HR172_0.out | (with_reducible refine Kd.C_alloc ?_ _) | (with_reducible refine Kd.C_drewN ?_ _) | (with_reducible refine Kd.C_drew ?_)));(case side4 => exact HC172_0.out);rintro e w' ⟨rfl,⟨nd,rfl⟩⟩;(try first | exact ⟨rfl,_,World.drewN_drewN _ _ _⟩ | exact ⟨rfl,_,Eq.trans (World.drewN_drewN _ _ _) (congrArg (World.drewN _) (Nat.add_assoc _ _ _))⟩))))
                  go_ret
                  exact ⟨by first | rfl | (simp;done) | (simp [*];done),by repeat (first | exact Drawn0.refl _ | apply Drawn0.step)⟩
              · rw [if_neg c7] at H
                have c7b0 : (((rd_T34 l0 x5_1).f1) == ((rd_T34 l1 x5_1).f1)) = false := beq_eq_false_iff_ne.mpr c7
                have c7b1 : (((rd_T34 l0 x5_1).f1) != ((rd_T34 l1 x5_1).f1)) = true := bne_iff_ne.mpr c7
                obtain rfl := Option.some.inj H
                have p169 : 0 ≤ (x5_1 : Int) := of_decide_eq_true (by first | (with_reducible assumption) | assumption)
                have q169 : x5_1 < (l0.length : Int) := of_decide_eq_true (by first | (with_reducible assumption) | assumption)
                obtain ⟨ad169,A169_0,c169_0,e169,hx169_0,hx169_1,hl169_0,hi169_0⟩ := at_T34 HR0.out x5_1 p169 q169
                cases e169
                have HR169_0 := Aside0.mk hi169_0
                have HC169_0 := Aside0.mk hl169_0
                clear hi169_0 hl169_0
                replace p169 := eq_true p169
                replace q169 := eq_true q169
                have p170 : 0 ≤ (x5_1 : Int) := of_decide_eq_true (by first | (with_reducible assumption) | assumption)
                have q170 : x5_1 < (l1.length : Int) := of_decide_eq_true (by first | (with_reducible assumption) | assumption)
                obtain ⟨ad170,A170_0,c170_0,e170,hx170_0,hx170_1,hl170_0,hi170_0⟩ := at_T34 HR1.out x5_1 p170 q170
                cases e170
                have HR170_0 := Aside0.mk hi170_0
                have HC170_0 := Aside0.mk hl170_0
                clear hi170_0 hl170_0
                replace p170 := eq_true p170
                replace q170 := eq_true q170
                go_wp2
                repeat (go_quiet (fail);try go_wp2)
                go_ret
                exact ⟨by first | rfl | (simp;done) | (simp [*];done),by repeat (first | exact Drawn0.refl _ | apply Drawn0.step)⟩
            · rw [if_neg c6] at H
              exact absurd H (by simp)
          · rw [if_neg c5] at H
            exact absurd H (by simp)
        · rw [if_neg c4] at H
          have c4b0 : decide (x5_1 < (l0.length : Int)) = false := decide_eq_false c4
          clear c4
          obtain rfl := Option.some.inj H
          go_wp2
          repeat (go_quiet (fail);try go_wp2)
          go_ret
          exact ⟨by first | rfl | (simp;done) | (simp [*];done),by repeat (first | exact Drawn0.refl _ | apply Drawn0.step)⟩
  · rw [if_neg c3] at H
    have c3b0 : ((l0.length : Int) == (l1.length : Int)) = false := beq_eq_false_iff_ne.mpr c3
    have c3b1 : ((l0.length : Int) != (l1.length : Int)) = true := bne_iff_ne.mpr c3
    have c3b2 : (l0.length == l1.length) = false := by first | simpa using c3 | (simp at c3 ⊢;omega)
    obtain rfl := Option.some.inj H
    go_enter Try.func31,Try.ntmps31
    go_wp2
    repeat (go_quiet (fail);try go_wp2)
    go_ret
    exact ⟨by first | rfl | (simp;done) | (simp [*];done),by repeat (first | exact Drawn0.refl _ | apply Drawn0.step)⟩
end Go.Proofs.Ythmbfcfomcaaaaa.Z
end
section
namespace Go.Proofs.Ythmbfcfomcaaaaa.Z
set_option linter.unusedVariables false
set_option linter.unusedSimpArgs false
open Go.RowKit Go.Proofs.YthmbfcfomcaaaaaW.PrintWords Go.Proofs.YthmbfcfomcaaaaaW.PrintLast Go.Proofs.YthmbfcfomcaaaaaW.PrintMore Go.Proofs.Ythmbfcfomcaaaaa.Cmp
structure EnsC (w : World) (A : Option Addr) (c : Nat) (L : List En) : Prop where
  cap : L.length ≤ c
  row : Kd.C k34 w A L.length L
theorem EnsC.below {w w1 : World} {A : Option Addr} {c : Nat} {L : List En} (h : EnsC w A c L) (hb : Below w.heap.size w w1) : EnsC w1 A c L := ⟨h.cap,Kd.C_below h.row hb⟩
theorem equal_at (A0 A1 : Option Addr) (c0 c1 : Nat) (l : Rw) (w : World) (h0 : RowC w A0 c0 l) (h1 : RowC w A1 c1 l) :
    Calls Try.prog 22 #[.slice A0 l.length c0,.slice A1 l.length c1] w fun e w' => e = .returned (.bool true) ∧ Drawn0 w w' :=
  verdererref02_Equal.calls (l.length + 1) A0 c0 l A1 c1 l true w h0.row h0.cap h1.row h1.cap (equal_self l h0.max (l.length + 1) (by omega))
end Go.Proofs.Ythmbfcfomcaaaaa.Z
end
section
namespace Go.Proofs.Ythmbfcfomcaaaaa.Z
set_option linter.unusedVariables false
set_option linter.unusedSimpArgs false
open Go.RowKit Go.Proofs.YthmbfcfomcaaaaaW.PrintWords Go.Proofs.YthmbfcfomcaaaaaW.PrintLast Go.Proofs.YthmbfcfomcaaaaaW.PrintMore Go.Proofs.Ythmbfcfomcaaaaa.Cmp
structure SameW (w w' : World) : Prop where
  heap : w'.heap = w.heap
  os : w'.os = w.os
  tape : w'.tape = w.tape
  output : w'.output = w.output
structure NextW (N : Nat) (w w' : World) : Prop where
  below : Below N w w'
  le : N ≤ w'.heap.size
theorem NextW.refl (w : World) : NextW w.heap.size w w := ⟨Below.refl _ _,Nat.le_refl _⟩
theorem NextW.next {N : Nat} {w w1 w2 W : World} (h : NextW N w w1) (hb : Below W.heap.size W w2) (e : SameW w1 W := by exact ⟨rfl,rfl,rfl,rfl⟩) : NextW N w w2 := by
  have h1 : Below N w W := ⟨e.os.trans h.below.os,e.tape.trans h.below.tape,e.output.trans h.below.output,by rw [e.heap];exact h.below.size,fun k hk => by rw [e.heap];exact h.below.block k hk⟩
  have hs : N ≤ W.heap.size := by rw [e.heap];exact h.le
  exact ⟨h1.trans (hb.mono hs),Nat.le_trans hs hb.size⟩
theorem NextW.nextN {N : Nat} {w w1 w2 W : World} (h : NextW N w w1) (hb : Below N W w2) (e : SameW w1 W := by exact ⟨rfl,rfl,rfl,rfl⟩) : NextW N w w2 := by
  have h1 : Below N w W := ⟨e.os.trans h.below.os,e.tape.trans h.below.tape,e.output.trans h.below.output,by rw [e.heap];exact h.below.size,fun k hk => by rw [e.heap];exact h.below.block k hk⟩
  have hs : N ≤ W.heap.size := by rw [e.heap];exact h.le
  exact ⟨h1.trans hb,Nat.le_trans hs hb.size⟩
theorem NextW.at_ {N : Nat} {w w1 W : World} (h : NextW N w w1) (e : SameW w1 W := by exact ⟨rfl,rfl,rfl,rfl⟩) : Below N w W :=
  ⟨e.os.trans h.below.os,e.tape.trans h.below.tape,e.output.trans h.below.output,by rw [e.heap];exact h.below.size,fun k hk => by rw [e.heap];exact h.below.block k hk⟩
theorem SameW.below {w W : World} (e : SameW w W) (N : Nat) : Below N w W := ⟨e.os,e.tape,e.output,by rw [e.heap];exact Nat.le_refl _,fun k _ => by rw [e.heap]⟩
theorem SameW.refl (w : World) : SameW w w := ⟨rfl,rfl,rfl,rfl⟩
theorem SameW.drew (w : World) : SameW w w.drew := ⟨rfl,rfl,rfl,rfl⟩
theorem SameW.drewN (w : World) (n : Nat) : SameW w (w.drewN n) := ⟨rfl,rfl,rfl,rfl⟩
theorem OkD.len {L : List En} (h : OkD L) : ∀ x ∈ L,x.f0.length ≤ 1000000 := fun x hx => by have := right_len (h x hx).1;omega
structure Two (N : Nat) (w : World) (b : Nat) (t : Tr) (D : Nat → Prop) (g : Nat) (A : Option Addr) (c : Nat) (L : List En) (E : Nat → Prop) : Prop where
  bag : BagAt w b t D
  ref : RefV w g A c L E
  own : ∀ k,BagOwn b t D k → N ≤ k ∧ k ≠ g ∧ ¬ E k
  g_le : N ≤ g
  e_le : ∀ k,E k → N ≤ k
theorem BagAt.own_lt {w : World} {b : Nat} {t : Tr} {D : Nat → Prop} (h : BagAt w b t D) : ∀ k,BagOwn b t D k → k < w.heap.size := fun k hk => by
  rcases hk with rfl | q | q
  · exact h.lt.1
  · exact h.lt.2.1 k q
  · exact h.lt.2.2 k q
theorem RefV.g_lt {w : World} {g : Nat} {A : Option Addr} {c : Nat} {L : List En} {E : Nat → Prop} (h : RefV w g A c L E) : g < w.heap.size := blk_lt h.blk
theorem Two.below {N : Nat} {w w1 : World} {b : Nat} {t : Tr} {D : Nat → Prop} {g : Nat} {A : Option Addr} {c : Nat} {L : List En} {E : Nat → Prop} (h : Two N w b t D g A c L E) (hb : Below w.heap.size w w1) : Two N w1 b t D g A c L E :=
  ⟨h.bag.below hb,h.ref.below hb,h.own,h.g_le,h.e_le⟩
theorem Two.heap {N : Nat} {w w1 : World} {b : Nat} {t : Tr} {D : Nat → Prop} {g : Nat} {A : Option Addr} {c : Nat} {L : List En} {E : Nat → Prop} (h : Two N w b t D g A c L E) (e : SameW w w1 := by exact ⟨rfl,rfl,rfl,rfl⟩) : Two N w1 b t D g A c L E :=
  h.below ⟨e.os,e.tape,e.output,by rw [e.heap];exact Nat.le_refl _,fun k _ => by rw [e.heap]⟩
theorem Two.bagged {N : Nat} {w w1 : World} {b : Nat} {t t' : Tr} {D D' : Nat → Prop} {g : Nat} {A : Option Addr} {c : Nat} {L : List En} {E : Nat → Prop} (h : Two N w b t D g A c L E) (hN : N ≤ w.heap.size) (ha : BagAt w1 b t' D') (hc : BagCh w w1 b t t' D D') : Two N w1 b t' D' g A c L E ∧ Below N w w1 := by
  have hg := h.ref.g_lt
  refine ⟨⟨ha,h.ref.keep hc.ch (fun s => (h.own g (s.elim .inl (fun q => .inr (.inl q)))).2.1 rfl) (fun k hk s => (h.own k (s.elim .inl (fun q => .inr (.inl q)))).2.2 hk),fun k hk => ?_,h.g_le,h.e_le⟩,hc.ch.toBelow hN (fun k s => (h.own k (s.elim .inl (fun q => .inr (.inl q)))).1)⟩
  rcases hc.own k hk with q | q
  · exact h.own k q
  · exact ⟨by omega,by omega,fun he => by have := h.ref.lt k he;omega⟩
end Go.Proofs.Ythmbfcfomcaaaaa.Z
end
section
namespace Go.Proofs.Ythmbfcfomcaaaaa.Z
set_option linter.unusedVariables false
set_option linter.unusedSimpArgs false
open Go.RowKit Go.Proofs.YthmbfcfomcaaaaaW.PrintWords Go.Proofs.YthmbfcfomcaaaaaW.PrintLast Go.Proofs.YthmbfcfomcaaaaaW.PrintMore Go.Proofs.Ythmbfcfomcaaaaa.Cmp
theorem row_one {w : World} {g q : Nat} {x : S66} (h : w.heap[g]? = some (.cells #[.int .i64 x.f0,.bool x.f1,.int .i64 x.f2,.string x.f3] q (0,0))) : RowC w (some ⟨g,0,none⟩) 1 [x] :=
  ⟨Nat.le_refl 1,rfl,by simp,fun _ => ⟨_,rfl,fun j p hj => by
    cases j with
    | succ j => simp at hj
    | zero =>
      simp only [List.getElem?_cons_zero,Option.some.injEq] at hj
      subst hj
      refine ⟨_,rfl,k66_mk w x,fun i u hi => ?_⟩
      rw [Nat.zero_mul,Nat.zero_add,add_plain]
      have h1 := blk_cell h i
      rw [h1,← hi]
      simp⟩⟩
def knV (n : Int) : S66 := ⟨2,false,n,⟨#[]⟩⟩
theorem kn1 : addD [knV 1] 2 [] = (0,[⟨[knV 1],2⟩]) := by kernel_rfl
theorem kn2 : addD [knV 2] 1 [⟨[knV 1],2⟩] = (0,[⟨[knV 1],2⟩,⟨[knV 2],1⟩]) := by kernel_rfl
theorem kn3 : addD [knV 1] (-2) [⟨[knV 1],2⟩,⟨[knV 2],1⟩] = (0,[⟨[knV 2],1⟩]) := by kernel_rfl
theorem kn4 : manyD [knV 2] [⟨[knV 2],1⟩] = 1 := by decide +kernel
theorem kn5 : manyD [knV 1] [⟨[knV 2],1⟩] = 0 := by decide +kernel
structure One (N : Nat) (w : World) (b : Nat) (t : Tr) (D : Nat → Prop) : Prop where
  bag : BagAt w b t D
  own : ∀ k,BagOwn b t D k → N ≤ k
theorem One.below {N : Nat} {w w1 : World} {b : Nat} {t : Tr} {D : Nat → Prop} (h : One N w b t D) (hb : Below w.heap.size w w1) : One N w1 b t D := ⟨h.bag.below hb,h.own⟩
theorem One.bagged {N : Nat} {w w1 : World} {b : Nat} {t t' : Tr} {D D' : Nat → Prop} (h : One N w b t D) (hN : N ≤ w.heap.size) (ha : BagAt w1 b t' D') (hc : BagCh w w1 b t t' D D') : One N w1 b t' D' ∧ Below N w w1 :=
  ⟨⟨ha,fun k hk => (hc.own k hk).elim (h.own k) (fun q => by omega)⟩,hc.ch.toBelow hN (fun k s => h.own k (s.elim .inl (fun q => .inr (.inl q))))⟩
theorem bag_new1 (w : World) : Calls Try.prog 15 #[] w fun e w' => ∃ b,e = .returned (.pointer (some ⟨b,0,none⟩)) ∧ One w.heap.size w' b .nil (fun _ => False) ∧ Below w.heap.size w w' := by
  refine (bag_new w).mono ?_
  rintro e w1 ⟨rfl,hA,hb⟩
  exact ⟨_,rfl,⟨hA,fun k hk => by rcases hk with rfl | q | q <;> first | exact Nat.le_refl _ | (simp [Tr.ids_nil] at q) | exact q.elim⟩,hb⟩
def Off (w w' : World) (o o' : Nat → Prop) : Prop := ∀ k,k < w.heap.size → ¬ o k → w'.heap[k]? = w.heap[k]? ∧ ¬ o' k
theorem BagCh.off {w w' : World} {b : Nat} {t t' : Tr} {D D' : Nat → Prop} (h : BagCh w w' b t t' D D') : Off w w' (BagOwn b t D) (BagOwn b t' D') := fun k hk hn =>
  ⟨h.ch.block k hk (fun s => hn (s.elim .inl (fun q => .inr (.inl q)))),fun ho => (h.own k ho).elim hn (fun q => by omega)⟩
structure Lit (w : World) (o : Nat → Prop) (g : Nat) (x : S66) : Prop where
  blk : w.heap[g]? = some (.cells #[.int .i64 x.f0,.bool x.f1,.int .i64 x.f2,.string x.f3] 66 (0,0))
  off : ¬ o g
theorem Lit.step {w w' : World} {o o' : Nat → Prop} {g : Nat} {x : S66} (h : Lit w o g x) (k : Off w w' o o') : Lit w' o' g x := ⟨(k g (blk_lt h.blk) h.off).1.trans h.blk,(k g (blk_lt h.blk) h.off).2⟩
theorem Lit.below {w w' : World} {o : Nat → Prop} {g : Nat} {x : S66} (h : Lit w o g x) (k : Below w.heap.size w w') : Lit w' o g x := ⟨(k.block g (blk_lt h.blk)).trans h.blk,h.off⟩
theorem Lit.row {w : World} {o : Nat → Prop} {g : Nat} {x : S66} (h : Lit w o g x) : RowC w (some ⟨g,0,none⟩) 1 [x] := row_one h.blk
theorem add1 {N : Nat} {D : Nat → Prop} {b : Nat} {t : Tr} {A : Option Addr} {c : Nat} {r : Rw} (m : Int) {w : World} {L L' : List En} {q : Int} (h : One N w b t D) (hN : N ≤ w.heap.size) (hr : RowC w A c r) (hd : docT t = L) (hs : L.length ≤ 1000000) (ha : addD r m L = (q,L')) :
    Calls Try.prog 16 #[.pointer (some ⟨b,0,none⟩),.slice A r.length c,.int .i64 m] w fun e w' => ∃ t' D',e = .returned (.int .i64 q) ∧ docT t' = L' ∧ One N w' b t' D' ∧ Below N w w' ∧ Off w w' (BagOwn b t D) (BagOwn b t' D') := by
  refine (bag_add b t A c r m w h.bag hr (by rw [← doc_len,hd];omega)).mono ?_
  rintro e w1 ⟨t',D',rfl,h2,h3,h4⟩
  rw [hd,ha] at h2 ⊢
  obtain ⟨i1,i2⟩ := h.bagged hN h3 h4
  exact ⟨t',D',rfl,h2,i1,i2,h4.off⟩
theorem many1 {N : Nat} {D : Nat → Prop} {b : Nat} {t : Tr} {A : Option Addr} {c : Nat} {r : Rw} {w : World} {L : List En} {q : Int} (h : One N w b t D) (hr : RowC w A c r) (hd : docT t = L) (ha : manyD r L = q) :
    Calls Try.prog 18 #[.pointer (some ⟨b,0,none⟩),.slice A r.length c] w fun e w' => e = .returned (.int .i64 q) ∧ Below w.heap.size w w' := by
  have h1 := bag_many b t A c r w h.bag hr
  rw [hd,ha] at h1
  exact h1
set_option maxHeartbeats 4000000 in
set_option maxRecDepth 100000 in
theorem known_at (w : World) : Calls Try.prog 14 #[] w fun e w' => e = .returned (.bool true) ∧ Below w.heap.size w w' := by
  go_enter Try.func14,Try.ntmps14
  go_wp2_with (fail)
  refine (bag_new1 w).mono ?_
  rintro e w1 ⟨b,rfl,hA,hb⟩
  have I1 := Aside0.mk ((NextW.refl w).next hb)
  have HA := Aside0.mk hA
  clear hA hb
  go_upto_region 4 with (fail)
  have B2 : Below w1.heap.size w1 (w1.alloc (Obj.cells #[.int .i64 2,.bool false,.int .i64 1,.string ⟨#[]⟩] 66)) := below_alloc (Below.refl w1.heap.size w1) _
  have I2 := Aside0.mk (I1.out.next B2)
  have R2 := Aside0.mk (show Lit (w1.alloc (Obj.cells #[.int .i64 2,.bool false,.int .i64 1,.string ⟨#[]⟩] 66)) (BagOwn b .nil fun _ => False) w1.heap.size (knV 1) from ⟨blk_new w1 _,fun ho => absurd (HA.out.bag.own_lt _ ho) (Nat.lt_irrefl _)⟩)
  have HA2 := Aside0.mk (HA.out.below B2)
  have E2 : (w1.alloc (Obj.cells #[.int .i64 2,.bool false,.int .i64 1,.string ⟨#[]⟩] 66)).heap.size = w1.heap.size + 1 := Array.size_push _
  obtain ⟨x1,hx1⟩ : ∃ x1,w1.heap.size = x1 := ⟨_,rfl⟩
  rw [hx1] at R2 E2 ⊢
  clear hx1 I1 HA B2
  generalize w1.alloc (Obj.cells #[.int .i64 2,.bool false,.int .i64 1,.string ⟨#[]⟩] 66) = w2 at *
  have B3 : Below w2.heap.size w2 (w2.alloc (Obj.cells #[.int .i64 2,.bool false,.int .i64 2,.string ⟨#[]⟩] 66)) := below_alloc (Below.refl w2.heap.size w2) _
  have I3 := Aside0.mk (I2.out.next B3)
  have S3 := Aside0.mk (show Lit (w2.alloc (Obj.cells #[.int .i64 2,.bool false,.int .i64 2,.string ⟨#[]⟩] 66)) (BagOwn b .nil fun _ => False) w2.heap.size (knV 2) from ⟨blk_new w2 _,fun ho => absurd (HA2.out.bag.own_lt _ ho) (Nat.lt_irrefl _)⟩)
  have HA3 := Aside0.mk (HA2.out.below B3)
  have R3 := Aside0.mk (R2.out.below B3)
  rw [← E2]
  obtain ⟨x2,hx2⟩ : ∃ x2,w2.heap.size = x2 := ⟨_,rfl⟩
  rw [hx2] at S3 ⊢
  clear hx2 E2 I2 HA2 R2 B3
  generalize w2.alloc (Obj.cells #[.int .i64 2,.bool false,.int .i64 2,.string ⟨#[]⟩] 66) = w3 at *
  go_wp2_with (fail)
  refine (add1 2 HA3.out I3.out.le R3.out.row rfl (by decide) kn1).mono ?_
  rintro e w4 ⟨t4,D4,rfl,hd,hA,hb,ho⟩
  have E4 := Aside0.mk hd
  have HA4 := Aside0.mk hA
  have R4 := Aside0.mk (R3.out.step ho)
  have S4 := Aside0.mk (S3.out.step ho)
  have I4 := Aside0.mk (I3.out.nextN hb)
  clear hd hA hb ho HA3 R3 S3 I3
  go_wp2_with (fail)
  refine (add1 1 HA4.out I4.out.le S4.out.row E4.out (by decide) kn2).mono ?_
  rintro e w5 ⟨t5,D5,rfl,hd,hA,hb,ho⟩
  have E5 := Aside0.mk hd
  have HA5 := Aside0.mk hA
  have R5 := Aside0.mk (R4.out.step ho)
  have S5 := Aside0.mk (S4.out.step ho)
  have I5 := Aside0.mk (I4.out.nextN hb)
  clear hd hA hb ho HA4 R4 S4 I4 E4
  go_wp2_with (fail)
  refine (add1 (-2) HA5.out I5.out.le R5.out.row E5.out (by decide) kn3).mono ?_
  rintro e w6 ⟨t6,D6,rfl,hd,hA,hb,ho⟩
  have E6 := Aside0.mk hd
  have HA6 := Aside0.mk hA
  have R6 := Aside0.mk (R5.out.step ho)
  have S6 := Aside0.mk (S5.out.step ho)
  have I6 := Aside0.mk (I5.out.nextN hb)
  clear hd hA hb ho HA5 R5 S5 I5 E5
  go_wp2_with (fail)
  have LS := Aside0.mk (bag_least b t6 w6 HA6.out.bag)
  rw [E6.out] at LS
  simp only [List.head?_cons,codeOf,rowOf] at LS
  refine LS.out.mono ?_
  rintro e w7 ⟨v7,rfl,hv,hb⟩
  have HA7 := Aside0.mk (HA6.out.below hb)
  have R7 := Aside0.mk (R6.out.below hb)
  have S7 := Aside0.mk (S6.out.below hb)
  have I7 := Aside0.mk (I6.out.next hb)
  obtain ⟨A7,c7,e7⟩ := Kd.R_slice hv
  have C7 := Aside0.mk (show RowC w7 A7 c7 [knV 2] by subst e7;exact ⟨(Kd.R_reads' hv).2.1,(Kd.R_reads' hv).2.2⟩)
  clear hv hb HA6 R6 S6 I6 LS
  subst e7
  simp only [List.length_cons,List.length_nil,Nat.zero_add]
  go_wp2_with (fail)
  have LN := Aside0.mk (bag_len b t6 w7 HA7.out.bag)
  rw [E6.out] at LN
  refine LN.out.mono ?_
  rintro e w7' ⟨rfl,rfl⟩
  clear LN
  simp only [List.length_cons,List.length_nil,Nat.zero_add]
  go_wp2_with (fail)
  refine (many1 HA7.out S7.out.row E6.out kn4).mono ?_
  rintro e w8 ⟨rfl,hb⟩
  have HA8 := Aside0.mk (HA7.out.below hb)
  have R8 := Aside0.mk (R7.out.below hb)
  have S8 := Aside0.mk (S7.out.below hb)
  have I8 := Aside0.mk (I7.out.next hb)
  have C8 := Aside0.mk (C7.out.below hb)
  clear hb HA7 R7 S7 I7 C7
  go_wp2_with (fail)
  refine (many1 HA8.out R8.out.row E6.out kn5).mono ?_
  rintro e w9 ⟨rfl,hb⟩
  have S9 := Aside0.mk (S8.out.below hb)
  have I9 := Aside0.mk (I8.out.next hb)
  have C9 := Aside0.mk (C8.out.below hb)
  clear hb HA8 R8 S8 I8 C8
  go_wp2_with (fail)
  refine (equal_at _ _ _ _ [knV 2] w9 C9.out S9.out.row).mono ?_
  rintro e w10 ⟨rfl,hd⟩
  have I10 := Aside0.mk (I9.out.next hd.below)
  clear hd C9 S9 I9
  go_wp2_with (fail)
  go_ret
  exact ⟨rfl,I10.out.at_⟩
end Go.Proofs.Ythmbfcfomcaaaaa.Z
end
section
namespace Go.Proofs.Ythmbfcfomcaaaaa.Z
open Go.RowKit Go.Proofs.YthmbfcfomcaaaaaW.PrintWords Go.Proofs.YthmbfcfomcaaaaaW.PrintLast Go.Proofs.YthmbfcfomcaaaaaW.PrintMore
attribute [local go_sem] max2_int min2_int max_two min_two max_three min_three max_four min_four
set_option linter.unusedVariables false
set_option linter.unusedSimpArgs false
def row_Same.f (k : Nat) (l0 : List (S66)) (l1 : List (S66)) : Option (Bool) := (row_Compare.f k l0 l1).bind fun t146 => (some (t146 == 0))
theorem row_Same.mono : ∀ a0 a1 k,LeO (row_Same.f k a0 a1) (row_Same.f (k + 1) a0 a1) := by
  intro a0 a1 k
  unfold row_Same.f
  repeat' first
      | (with_reducible exact row_Compare.mono _ _ _)
      | (with_reducible exact LeO.refl _)
      | (with_reducible exact LeO.none _)
      | (with_reducible refine LeO.ite ?_ ?_)
      | (with_reducible refine LeO.bind ?_ (fun _ => ?_))
      | exact row_Compare.mono _ _ _
      | exact LeO.none _
      | refine LeO.ite ?_ ?_
      | refine LeO.bind ?_ (fun _ => ?_)
set_option maxHeartbeats 8000000 in
set_option maxRecDepth 100000 in
theorem row_Same.calls (k : Nat) (A0 : Option Addr) (c0 : Nat) (l0 : List (S66)) (A1 : Option Addr) (c1 : Nat) (l1 : List (S66)) (r : Bool) (w : World) (hr0 : Kd.C k66 w A0 l0.length l0) (hc0 : l0.length ≤ c0) (hr1 : Kd.C k66 w A1 l1.length l1) (hc1 : l1.length ≤ c1) (h : row_Same.f k l0 l1 = some r) :
    Calls Try.prog 74 #[.slice A0 l0.length c0,.slice A1 l1.length c1] w fun e w' => e = .returned (.bool r) ∧ Below w.heap.size w w' := by
  have HR0 := Aside0.mk hr0
  have HC0 := Aside0.mk hc0
  clear hr0 hc0
  have HR1 := Aside0.mk hr1
  have HC1 := Aside0.mk hc1
  clear hr1 hc1
  have HB := Aside0.mk (Below.refl w.heap.size w)
  have H : ((row_Compare.f k l0 l1).bind fun t146 => (some (t146 == 0))) = some r := h
  clear h
  replace H := Option.bind_eq_some_iff.mp H
  obtain ⟨t146,A30,H⟩ := H
  replace H : (some (t146 == 0)) = some r := H
  have A3 := Aside0.mk A30
  clear A30
  obtain rfl := Option.some.inj H
  go_enter Try.func74,Try.ntmps74
  go_wp2_with (first | ((with_reducible refine gate_callee (f := 93) rfl ?_);refine goesL_ (some 7) rfl rfl Try.func93 (by kernel_rfl) rfl #[.slice A0 l0.length c0,.slice A1 l1.length c1] rfl (by (try simp only [List.map_toArray,List.map_cons,List.map_nil]);first | done | rfl | (simp only [List.length_drop,List.length_take];rfl)) ?_;(with_reducible refine (row_Compare.calls k _ _ l0 _ _ l1 t146 _ ?side1 ?side2 ?side3 ?side4 A3.out).mono ?_);(case side1 => repeat (first | exact HR0.out | (with_reducible refine Kd.C_alloc ?_ _) | (with_reducible refine Kd.C_drewN ?_ _) | (with_reducible refine Kd.C_drew ?_)));(case side2 => exact HC0.out);(case side3 => repeat (first | exact HR1.out | (with_reducible refine Kd.C_alloc ?_ _) | (with_reducible refine Kd.C_drewN ?_ _) | (with_reducible refine Kd.C_drew ?_)));(case side4 => exact HC1.out);rintro e w4 ⟨rfl,hb⟩;refine ⟨_,rfl,?_⟩;have n0_ := Aside0.mk (below_step (by repeat (first | (with_reducible first | exact HB.out | apply below_alloc | apply pw_below_drewN | apply below_drew1) | exact HB.out)) hb);clear HB;have HB := n0_;clear n0_;(try clear hb);(try clear hb2);(try clear hk);(try clear hi)))
  go_ret
  exact ⟨by first | rfl | (simp [errW_none,errW_some] <;> rfl) | (simp [*,errW_none,errW_some] <;> rfl),by repeat (first | (with_reducible first | exact HB.out | apply below_alloc | apply pw_below_drewN | apply below_drew1) | exact HB.out)⟩
end Go.Proofs.Ythmbfcfomcaaaaa.Z
end
section
namespace Go.Proofs.Ythmbfcfomcaaaaa.Z
open Go.RowKit Go.Proofs.YthmbfcfomcaaaaaW.PrintWords Go.Proofs.YthmbfcfomcaaaaaW.PrintLast Go.Proofs.YthmbfcfomcaaaaaW.PrintMore
attribute [local go_sem] max2_int min2_int max_two min_two max_three min_three max_four min_four
set_option linter.unusedVariables false
set_option linter.unusedSimpArgs false
def bag_Same_1.f (k : Nat) (l0_0 : List (S66)) (a0_1 : Int) (l1_0 : List (S66)) (a1_1 : Int) : Option (Bool) := if a0_1 = a1_1 then ((row_Same.f k l0_0 l1_0).bind fun t254 => (some t254)) else (some false)
theorem bag_Same_1.mono : ∀ a0 a1 a2 a3 k,LeO (bag_Same_1.f k a0 a1 a2 a3) (bag_Same_1.f (k + 1) a0 a1 a2 a3) := by
  intro a0 a1 a2 a3 k
  unfold bag_Same_1.f
  repeat' first
      | (with_reducible exact row_Same.mono _ _ _)
      | (with_reducible exact LeO.refl _)
      | (with_reducible exact LeO.none _)
      | (with_reducible refine LeO.ite ?_ ?_)
      | (with_reducible refine LeO.bind ?_ (fun _ => ?_))
      | exact row_Same.mono _ _ _
      | exact LeO.none _
      | refine LeO.ite ?_ ?_
      | refine LeO.bind ?_ (fun _ => ?_)
set_option maxHeartbeats 8000000 in
set_option maxRecDepth 100000 in
theorem bag_Same_1.calls (k : Nat) (A0_0 : Option Addr) (c0_0 : Nat) (l0_0 : List (S66)) (a0_1 : Int) (A1_0 : Option Addr) (c1_0 : Nat) (l1_0 : List (S66)) (a1_1 : Int) (r : Bool) (w : World) (hr0_0 : Kd.C k66 w A0_0 l0_0.length l0_0) (hc0_0 : l0_0.length ≤ c0_0) (hr1_0 : Kd.C k66 w A1_0 l1_0.length l1_0) (hc1_0 : l1_0.length ≤ c1_0) (h : bag_Same_1.f k l0_0 a0_1 l1_0 a1_1 = some r) :
    Calls Try.prog 73 #[.agg #[.slice A0_0 l0_0.length c0_0,.int .i64 a0_1],.agg #[.slice A1_0 l1_0.length c1_0,.int .i64 a1_1]] w fun e w' => e = .returned (.bool r) ∧ Below w.heap.size w w' := by
  have hu34 := Try.underlying34
  have HR0_0 := Aside0.mk hr0_0
  have HC0_0 := Aside0.mk hc0_0
  clear hr0_0 hc0_0
  have HR1_0 := Aside0.mk hr1_0
  have HC1_0 := Aside0.mk hc1_0
  clear hr1_0 hc1_0
  have HB := Aside0.mk (Below.refl w.heap.size w)
  have H : (if a0_1 = a1_1 then ((row_Same.f k l0_0 l1_0).bind fun t254 => (some t254)) else (some false)) = some r := h
  clear h
  by_cases c3 : a0_1 = a1_1
  · rw [if_pos c3] at H
    have c3b0 : (a0_1 == a1_1) = true := beq_iff_eq.mpr c3
    have c3b1 : (a0_1 != a1_1) = false := bne_eq_false_iff_eq.mpr c3
    clear c3
    replace H := Option.bind_eq_some_iff.mp H
    obtain ⟨t254,A40,H⟩ := H
    replace H : (some t254) = some r := H
    have A4 := Aside0.mk A40
    clear A40
    obtain rfl := Option.some.inj H
    go_enter Try.func73,Try.ntmps73
    go_wp2_with (first | ((with_reducible refine gate_dst (N := 2) rfl ?_);refine box_event ?hg (N := 2) ?hd (cs := #[.slice A0_0 l0_0.length c0_0,.int .i64 a0_1]) (t := 34) ?hr ?_;(case hd => rfl);(case hg => rfl);(case hr => first | (go_simp;done) | (go_simp;rfl));intro gb252 hg w5 hbox hb;have n0_ := Aside0.mk (below_step (by repeat (first | (with_reducible first | exact HB.out | apply below_alloc | apply pw_below_drewN | apply below_drew1) | exact HB.out)) hb);have n1_ := Aside0.mk (hbox);have n2_ := Aside0.mk ((by rw [hg];exact (below_size (by repeat (first | (with_reducible first | exact HB.out | apply below_alloc | apply pw_below_drewN | apply below_drew1) | exact HB.out))) : w.heap.size ≤ gb252));have n3_ := Aside0.mk ((by rw [hg];exact (below_size (by repeat (first | (with_reducible first | exact HB.out | apply below_alloc | apply pw_below_drewN | apply below_drew1) | exact HB.out))) : w.heap.size ≤ gb252));clear HB;have HB := n0_;have BK252 := n1_;have GW252 := n2_;have GE252 := n3_;clear n0_ n1_ n2_ n3_;clear hb hbox hg) | ((with_reducible refine gate_dst (N := 3) rfl ?_);refine box_event ?hg (N := 3) ?hd (cs := #[.slice A1_0 l1_0.length c1_0,.int .i64 a1_1]) (t := 34) ?hr ?_;(case hd => rfl);(case hg => rfl);(case hr => first | (go_simp;done) | (go_simp;rfl));intro gb253 hg w6 hbox hb;have n0_ := Aside0.mk (blk_below (g := gb252) (o := .cells #[.slice A0_0 l0_0.length c0_0,.int .i64 a0_1] 34 (0,0)) (by (with_reducible repeat (first | refine blk_drewN ?_ _ | refine blk_drew ?_ | refine blk_alloc ?_ _));exact BK252.out) hb);have n1_ := Aside0.mk (below_step (by repeat (first | (with_reducible first | exact HB.out | apply below_alloc | apply pw_below_drewN | apply below_drew1 | refine below_set ?_ GE252.out) | exact HB.out)) hb);have n2_ := Aside0.mk (hbox);have n3_ := Aside0.mk ((by rw [hg];exact (below_size (by repeat (first | (with_reducible first | exact HB.out | apply below_alloc | apply pw_below_drewN | apply below_drew1 | refine below_set ?_ GE252.out) | exact HB.out))) : w.heap.size ≤ gb253));have n4_ := Aside0.mk ((by rw [hg];exact (below_size (by repeat (first | (with_reducible first | exact HB.out | apply below_alloc | apply pw_below_drewN | apply below_drew1 | refine below_set ?_ GE252.out) | exact HB.out))) : w.heap.size ≤ gb253));have n5_ := Aside0.mk ((by rw [hg];exact Nat.ne_of_lt (blk_lt (g := gb252) (o := .cells #[.slice A0_0 l0_0.length c0_0,.int .i64 a0_1] 34 (0,0)) (by (with_reducible repeat (first | refine blk_drewN ?_ _ | refine blk_drew ?_ | refine blk_alloc ?_ _));exact BK252.out)) : gb252 ≠ gb253));have n6_ := Aside0.mk ((by rw [hg];exact Nat.ne_of_gt (blk_lt (g := gb252) (o := .cells #[.slice A0_0 l0_0.length c0_0,.int .i64 a0_1] 34 (0,0)) (by (with_reducible repeat (first | refine blk_drewN ?_ _ | refine blk_drew ?_ | refine blk_alloc ?_ _));exact BK252.out)) : gb253 ≠ gb252));clear BK252;clear HB;have BK252 := n0_;have HB := n1_;have BK253 := n2_;have GW253 := n3_;have GE253 := n4_;have NB252_253 := n5_;have NB253_252 := n6_;clear n0_ n1_ n2_ n3_ n4_ n5_ n6_;clear hb hbox hg;have hnb7 := NB252_253.out;have hnc7 := NB253_252.out;have hcz8_0 : w6.cell? ⟨gb252,0,none⟩ = some (.slice A0_0 l0_0.length c0_0) := (blk_cell BK252.out 0).trans rfl;have hcz8_1 : w6.cell? ⟨gb252,1,none⟩ = some (.int .i64 a0_1) := (blk_cell BK252.out 1).trans rfl;have hfz8_0 := blk_frozen BK252.out 0;have hfz8_1 := blk_frozen BK252.out 1;have hcz9_0 : w6.cell? ⟨gb253,0,none⟩ = some (.slice A1_0 l1_0.length c1_0) := (blk_cell BK253.out 0).trans rfl;have hcz9_1 : w6.cell? ⟨gb253,1,none⟩ = some (.int .i64 a1_1) := (blk_cell BK253.out 1).trans rfl;have hfz9_0 := blk_frozen BK253.out 0;have hfz9_1 := blk_frozen BK253.out 1) | (go_at_call 74;(with_reducible refine (row_Same.calls k _ _ l0_0 _ _ l1_0 t254 _ ?side1 ?side2 ?side3 ?side4 A4.out).mono ?_);(case side1 => repeat (first | exact (Kd.C_below HR0_0.out HB.out) | (with_reducible refine Kd.C_alloc ?_ _) | (with_reducible refine Kd.C_drewN ?_ _) | (with_reducible refine Kd.C_drew ?_)));(case side2 => exact HC0_0.out);(case side3 => repeat (first | exact (Kd.C_below HR1_0.out HB.out) | (with_reducible refine Kd.C_alloc ?_ _) | (with_reducible refine Kd.C_drewN ?_ _) | (with_reducible refine Kd.C_drew ?_)));(case side4 => exact HC1_0.out);rintro e w10 ⟨rfl,hb⟩;have n0_ := Aside0.mk (blk_below (g := gb252) (o := .cells #[.slice A0_0 l0_0.length c0_0,.int .i64 a0_1] 34 (0,0)) (by (with_reducible repeat (first | refine blk_drewN ?_ _ | refine blk_drew ?_ | refine blk_alloc ?_ _));exact BK252.out) hb);have n1_ := Aside0.mk (blk_below (g := gb253) (o := .cells #[.slice A1_0 l1_0.length c1_0,.int .i64 a1_1] 34 (0,0)) (by (with_reducible repeat (first | refine blk_drewN ?_ _ | refine blk_drew ?_ | refine blk_alloc ?_ _));exact BK253.out) hb);have n2_ := Aside0.mk (below_step (by repeat (first | (with_reducible first | exact HB.out | apply below_alloc | apply pw_below_drewN | apply below_drew1 | refine below_set ?_ GE252.out | refine below_set ?_ GE253.out) | exact HB.out)) hb);clear BK252;clear BK253;clear HB;have BK252 := n0_;have BK253 := n1_;have HB := n2_;clear n0_ n1_ n2_;(try clear hb);(try clear hb2);(try clear hk);(try clear hi)))
    go_ret
    exact ⟨by first | rfl | (simp [errW_none,errW_some] <;> rfl) | (simp [*,errW_none,errW_some] <;> rfl),by repeat (first | (with_reducible first | exact HB.out | apply below_alloc | apply pw_below_drewN | apply below_drew1 | refine below_set ?_ GE252.out | refine below_set ?_ GE253.out) | exact HB.out)⟩
  · rw [if_neg c3] at H
    have c3b0 : (a0_1 == a1_1) = false := beq_eq_false_iff_ne.mpr c3
    have c3b1 : (a0_1 != a1_1) = true := bne_iff_ne.mpr c3
    obtain rfl := Option.some.inj H
    go_enter Try.func73,Try.ntmps73
    go_wp2_with (first | ((with_reducible refine gate_dst (N := 2) rfl ?_);refine box_event ?hg (N := 2) ?hd (cs := #[.slice A0_0 l0_0.length c0_0,.int .i64 a0_1]) (t := 34) ?hr ?_;(case hd => rfl);(case hg => rfl);(case hr => first | (go_simp;done) | (go_simp;rfl));intro gb252 hg w11 hbox hb;have n0_ := Aside0.mk (below_step (by repeat (first | (with_reducible first | exact HB.out | apply below_alloc | apply pw_below_drewN | apply below_drew1) | exact HB.out)) hb);have n1_ := Aside0.mk (hbox);have n2_ := Aside0.mk ((by rw [hg];exact (below_size (by repeat (first | (with_reducible first | exact HB.out | apply below_alloc | apply pw_below_drewN | apply below_drew1) | exact HB.out))) : w.heap.size ≤ gb252));have n3_ := Aside0.mk ((by rw [hg];exact (below_size (by repeat (first | (with_reducible first | exact HB.out | apply below_alloc | apply pw_below_drewN | apply below_drew1) | exact HB.out))) : w.heap.size ≤ gb252));clear HB;have HB := n0_;have BK252 := n1_;have GW252 := n2_;have GE252 := n3_;clear n0_ n1_ n2_ n3_;clear hb hbox hg) | ((with_reducible refine gate_dst (N := 3) rfl ?_);refine box_event ?hg (N := 3) ?hd (cs := #[.slice A1_0 l1_0.length c1_0,.int .i64 a1_1]) (t := 34) ?hr ?_;(case hd => rfl);(case hg => rfl);(case hr => first | (go_simp;done) | (go_simp;rfl));intro gb253 hg w12 hbox hb;have n0_ := Aside0.mk (blk_below (g := gb252) (o := .cells #[.slice A0_0 l0_0.length c0_0,.int .i64 a0_1] 34 (0,0)) (by (with_reducible repeat (first | refine blk_drewN ?_ _ | refine blk_drew ?_ | refine blk_alloc ?_ _));exact BK252.out) hb);have n1_ := Aside0.mk (below_step (by repeat (first | (with_reducible first | exact HB.out | apply below_alloc | apply pw_below_drewN | apply below_drew1 | refine below_set ?_ GE252.out) | exact HB.out)) hb);have n2_ := Aside0.mk (hbox);have n3_ := Aside0.mk ((by rw [hg];exact (below_size (by repeat (first | (with_reducible first | exact HB.out | apply below_alloc | apply pw_below_drewN | apply below_drew1 | refine below_set ?_ GE252.out) | exact HB.out))) : w.heap.size ≤ gb253));have n4_ := Aside0.mk ((by rw [hg];exact (below_size (by repeat (first | (with_reducible first | exact HB.out | apply below_alloc | apply pw_below_drewN | apply below_drew1 | refine below_set ?_ GE252.out) | exact HB.out))) : w.heap.size ≤ gb253));have n5_ := Aside0.mk ((by rw [hg];exact Nat.ne_of_lt (blk_lt (g := gb252) (o := .cells #[.slice A0_0 l0_0.length c0_0,.int .i64 a0_1] 34 (0,0)) (by (with_reducible repeat (first | refine blk_drewN ?_ _ | refine blk_drew ?_ | refine blk_alloc ?_ _));exact BK252.out)) : gb252 ≠ gb253));have n6_ := Aside0.mk ((by rw [hg];exact Nat.ne_of_gt (blk_lt (g := gb252) (o := .cells #[.slice A0_0 l0_0.length c0_0,.int .i64 a0_1] 34 (0,0)) (by (with_reducible repeat (first | refine blk_drewN ?_ _ | refine blk_drew ?_ | refine blk_alloc ?_ _));exact BK252.out)) : gb253 ≠ gb252));clear BK252;clear HB;have BK252 := n0_;have HB := n1_;have BK253 := n2_;have GW253 := n3_;have GE253 := n4_;have NB252_253 := n5_;have NB253_252 := n6_;clear n0_ n1_ n2_ n3_ n4_ n5_ n6_;clear hb hbox hg;have hnb13 := NB252_253.out;have hnc13 := NB253_252.out;have hcz14_0 : w12.cell? ⟨gb252,0,none⟩ = some (.slice A0_0 l0_0.length c0_0) := (blk_cell BK252.out 0).trans rfl;have hcz14_1 : w12.cell? ⟨gb252,1,none⟩ = some (.int .i64 a0_1) := (blk_cell BK252.out 1).trans rfl;have hfz14_0 := blk_frozen BK252.out 0;have hfz14_1 := blk_frozen BK252.out 1;have hcz15_0 : w12.cell? ⟨gb253,0,none⟩ = some (.slice A1_0 l1_0.length c1_0) := (blk_cell BK253.out 0).trans rfl;have hcz15_1 : w12.cell? ⟨gb253,1,none⟩ = some (.int .i64 a1_1) := (blk_cell BK253.out 1).trans rfl;have hfz15_0 := blk_frozen BK253.out 0;have hfz15_1 := blk_frozen BK253.out 1))
    go_ret
    exact ⟨by first | rfl | (simp [errW_none,errW_some] <;> rfl) | (simp [*,errW_none,errW_some] <;> rfl),by repeat (first | (with_reducible first | exact HB.out | apply below_alloc | apply pw_below_drewN | apply below_drew1 | refine below_set ?_ GE252.out | refine below_set ?_ GE253.out) | exact HB.out)⟩
end Go.Proofs.Ythmbfcfomcaaaaa.Z
end
section
namespace Go.Proofs.Ythmbfcfomcaaaaa.Z
open Go.RowKit Go.Proofs.YthmbfcfomcaaaaaW.PrintWords Go.Proofs.YthmbfcfomcaaaaaW.PrintLast Go.Proofs.YthmbfcfomcaaaaaW.PrintMore
attribute [local go_sem] max2_int min2_int max_two min_two max_three min_three max_four min_four
set_option linter.unusedVariables false
set_option linter.unusedSimpArgs false
def slices_EqualFunc.l0 : Nat → List (S34) → List (S34) → Int → Int → Option (Bool)
  | 0,_,_,_,_ => none
  | k + 1,x1,x15,x16,x17 => if x17 < x16 then (if 0 ≤ x17 then (if x17 < (x15.length : Int) then (if x17 < (x1.length : Int) then ((bag_Same_1.f k ((rd_T34 x15 x17).f0) ((rd_T34 x15 x17).f1) ((rd_T34 x1 x17).f0) ((rd_T34 x1 x17).f1)).bind fun t259 => (if t259 = true then (slices_EqualFunc.l0 k x1 x15 x16 (wrap64 (x17 + 1))) else (some false))) else (none)) else (none)) else (none)) else (some true)
def slices_EqualFunc.f (k : Nat) (l0 : List (S34)) (l1 : List (S34)) (a2 : Int) : Option (Bool) := if (l0.length : Int) = (l1.length : Int) then (slices_EqualFunc.l0 k l1 l0 (l0.length : Int) 0) else (some false)
theorem slices_EqualFunc.mono_l : ∀ k,(∀ y0 y1 y2 y3,LeO (slices_EqualFunc.l0 k y0 y1 y2 y3) (slices_EqualFunc.l0 (k + 1) y0 y1 y2 y3))
  | 0 => fun _ _ _ _ r h => by simp [slices_EqualFunc.l0] at h
  | k + 1 => by
    have ih0 := slices_EqualFunc.mono_l k
    · intro y0 y1 y2 y3
      unfold slices_EqualFunc.l0
      repeat' first
      | (with_reducible exact ih0 _ _ _ _)
      | (with_reducible exact bag_Same_1.mono _ _ _ _ _)
      | (with_reducible exact LeO.refl _)
      | (with_reducible exact LeO.none _)
      | (with_reducible refine LeO.ite ?_ ?_)
      | (with_reducible refine LeO.bind ?_ (fun _ => ?_))
      | exact ih0 _ _ _ _
      | exact bag_Same_1.mono _ _ _ _ _
      | exact LeO.none _
      | refine LeO.ite ?_ ?_
      | refine LeO.bind ?_ (fun _ => ?_)
theorem slices_EqualFunc.mono : ∀ a0 a1 a2 k,LeO (slices_EqualFunc.f k a0 a1 a2) (slices_EqualFunc.f (k + 1) a0 a1 a2) := by
  intro a0 a1 a2 k
  have ih0 := slices_EqualFunc.mono_l k
  unfold slices_EqualFunc.f
  repeat' first
      | (with_reducible exact ih0 _ _ _ _)
      | (with_reducible exact bag_Same_1.mono _ _ _ _ _)
      | (with_reducible exact LeO.refl _)
      | (with_reducible exact LeO.none _)
      | (with_reducible refine LeO.ite ?_ ?_)
      | (with_reducible refine LeO.bind ?_ (fun _ => ?_))
      | exact ih0 _ _ _ _
      | exact bag_Same_1.mono _ _ _ _ _
      | exact LeO.none _
      | refine LeO.ite ?_ ?_
      | refine LeO.bind ?_ (fun _ => ?_)
set_option maxHeartbeats 8000000 in
set_option maxRecDepth 100000 in
theorem slices_EqualFunc.calls (k : Nat) (A0 : Option Addr) (c0 : Nat) (l0 : List (S34)) (A1 : Option Addr) (c1 : Nat) (l1 : List (S34)) (a2 : Int) (r : Bool) (w : World) (hr0 : Kd.C k34 w A0 l0.length l0) (hc0 : l0.length ≤ c0) (hr1 : Kd.C k34 w A1 l1.length l1) (hc1 : l1.length ≤ c1) (h : slices_EqualFunc.f k l0 l1 a2 = some r) :
    Calls Try.prog 72 #[.slice A0 l0.length c0,.slice A1 l1.length c1,.func (.func 73) #[] #[]] w fun e w' => e = .returned (.bool r) ∧ Below w.heap.size w w' := by
  have hu34 := Try.underlying34
  have HR0 := Aside0.mk hr0
  have HC0 := Aside0.mk hc0
  clear hr0 hc0
  have HR1 := Aside0.mk hr1
  have HC1 := Aside0.mk hc1
  clear hr1 hc1
  have HB := Aside0.mk (Below.refl w.heap.size w)
  have H : (if (l0.length : Int) = (l1.length : Int) then (slices_EqualFunc.l0 k l1 l0 (l0.length : Int) 0) else (some false)) = some r := h
  clear h
  by_cases c4 : (l0.length : Int) = (l1.length : Int)
  · rw [if_pos c4] at H
    have c4b0 : ((l0.length : Int) == (l1.length : Int)) = true := beq_iff_eq.mpr c4
    have c4b1 : ((l0.length : Int) != (l1.length : Int)) = false := bne_eq_false_iff_eq.mpr c4
    have c4b2 : (l0.length == l1.length) = true := by first | simpa using c4 | (simp at c4 ⊢;omega)
    clear c4
    have H' := Aside0.mk H
    clear H
    go_enter Try.func72,Try.ntmps72
    go_wp2
    go_loopg [17] k (fun kq v17 w' => ∃ (x17_1 : Int),v17 = .int .i64 x17_1 ∧ Aside0 (slices_EqualFunc.l0 kq l1 l0 (l0.length : Int) x17_1 = some r) ∧ Aside0 (kq ≤ k) ∧ Aside0 (Below w.heap.size w w'))
    case atStart => exact ⟨(0),(by first | rfl | (simp;done) | (simp [*];done)),H',⟨Nat.le_refl _⟩,⟨by repeat (first | (with_reducible first | exact HB.out | apply below_alloc | apply pw_below_drewN | apply below_drew1) | exact HB.out)⟩⟩
    case round =>
      clear H'
      try clear c1
      try clear p2
      try clear c4
      try clear c4b0
      try clear c4b1
      try clear c4b2
      obtain ⟨x17_1,rfl,HA,HK1,HB⟩ := hrel
      cases gk with
      | zero => exact absurd HA.out (by simp [slices_EqualFunc.l0])
      | succ k1 =>
        have H := HA.out
        clear HA
        simp only [slices_EqualFunc.l0] at H
        by_cases c5 : x17_1 < (l0.length : Int)
        · rw [if_pos c5] at H
          have c5b0 : decide (x17_1 < (l0.length : Int)) = true := decide_eq_true c5
          clear c5
          by_cases c6 : 0 ≤ x17_1
          · rw [if_pos c6] at H
            have c6b0 : decide (0 ≤ x17_1) = true := decide_eq_true c6
            clear c6
            by_cases c7 : x17_1 < (l0.length : Int)
            · rw [if_pos c7] at H
              have c7b0 : decide (x17_1 < (l0.length : Int)) = true := decide_eq_true c7
              clear c7
              by_cases c8 : x17_1 < (l1.length : Int)
              · rw [if_pos c8] at H
                have c8b0 : decide (x17_1 < (l1.length : Int)) = true := decide_eq_true c8
                clear c8
                replace H := Option.bind_eq_some_iff.mp H
                obtain ⟨t259,A90,H⟩ := H
                replace H : (if t259 = true then (slices_EqualFunc.l0 k1 l1 l0 (l0.length : Int) (wrap64 (x17_1 + 1))) else (some false)) = some r := H
                have A9 := Aside0.mk A90
                clear A90
                by_cases c10 : t259 = true
                · subst c10
                  have H1 : (slices_EqualFunc.l0 k1 l1 l0 (l0.length : Int) (wrap64 (x17_1 + 1))) = some r := by rw [if_pos rfl] at H;exact H
                  clear H
                  have H := H1
                  clear H1
                  have H' := Aside0.mk H
                  clear H
                  have p255 : 0 ≤ (x17_1 : Int) := of_decide_eq_true (by first | (with_reducible assumption) | assumption)
                  have q255 : x17_1 < (l0.length : Int) := of_decide_eq_true (by first | (with_reducible assumption) | assumption)
                  obtain ⟨ad255,A255_0,c255_0,e255,hx255_0,hx255_1,hl255_0,hi255_0⟩ := at_T34 HR0.out x17_1 p255 q255
                  cases e255
                  replace hx255_0 := (HB.out.cell (World.block_lt_of_cell? w _ hx255_0)).trans hx255_0
                  replace hx255_1 := (HB.out.cell (World.block_lt_of_cell? w _ hx255_1)).trans hx255_1
                  have HR255_0 := Aside0.mk hi255_0
                  have HC255_0 := Aside0.mk hl255_0
                  clear hi255_0 hl255_0
                  replace p255 := eq_true p255
                  replace q255 := eq_true q255
                  go_wp2_with (first | ((with_reducible refine gate_dst (N := 8) rfl ?_);refine box_event ?hg (N := 8) ?hd (cs := #[.slice none 0 0,.int .i64 0]) (t := 34) ?hr ?_;(case hd => rfl);(case hg => rfl);(case hr => first | (go_simp;done) | (go_simp;rfl));intro gb256 hg w11 hbox hb;have n0_ := Aside0.mk (below_step (by repeat (first | (with_reducible first | exact HB.out | apply below_alloc | apply pw_below_drewN | apply below_drew1) | exact HB.out)) hb);have n1_ := Aside0.mk (hbox);have n2_ := Aside0.mk ((by rw [hg];exact (below_size (by repeat (first | (with_reducible first | exact HB.out | apply below_alloc | apply pw_below_drewN | apply below_drew1) | exact HB.out))) : w.heap.size ≤ gb256));have n3_ := Aside0.mk ((by rw [hg];exact (below_size (by repeat (first | (with_reducible first | exact HB.out | apply below_alloc | apply pw_below_drewN | apply below_drew1) | exact HB.out))) : w.heap.size ≤ gb256));clear HB;have HB := n0_;have BK256 := n1_;have GW256 := n2_;have GE256 := n3_;clear n0_ n1_ n2_ n3_;clear hb hbox hg;have hcz12_0 : w11.cell? ⟨gb256,0,none⟩ = some (.slice none 0 0) := (blk_cell BK256.out 0).trans rfl;have hcz12_1 : w11.cell? ⟨gb256,1,none⟩ = some (.int .i64 0) := (blk_cell BK256.out 1).trans rfl;have hfz12_0 := blk_frozen BK256.out 0;have hfz12_1 := blk_frozen BK256.out 1;have p257 : 0 ≤ (x17_1 : Int) := of_decide_eq_true (by first | (with_reducible assumption) | assumption);have q257 : x17_1 < (l1.length : Int) := of_decide_eq_true (by first | (with_reducible assumption) | assumption);obtain ⟨ad257,A257_0,c257_0,e257,hx257_0,hx257_1,hl257_0,hi257_0⟩ := at_T34 HR1.out x17_1 p257 q257;cases e257;have hn257_0 : ad257.block ≠ gb256 := Nat.ne_of_lt (Nat.lt_of_lt_of_le (by have := World.block_lt_of_cell? _ _ hx257_0;first | rwa [add_block] at this | exact this) GW256.out);have hn257_1 : ad257.block ≠ gb256 := Nat.ne_of_lt (Nat.lt_of_lt_of_le (by have := World.block_lt_of_cell? _ _ hx257_0;first | rwa [add_block] at this | exact this) GW256.out);replace hx257_0 := (HB.out.cell (World.block_lt_of_cell? w _ hx257_0)).trans hx257_0;replace hx257_1 := (HB.out.cell (World.block_lt_of_cell? w _ hx257_1)).trans hx257_1;have HR257_0 := Aside0.mk hi257_0;have HC257_0 := Aside0.mk hl257_0;clear hi257_0 hl257_0;replace hx257_0 := (cell_far (p := ⟨gb256,0,none⟩) (by first | (rw [add_block];exact hn257_0) | (show (Addr.add _ _).block ≠ _;rw [add_block];exact hn257_0) | exact hn257_0) (.slice A255_0 ((rd_T34 l0 x17_1).f0).length c255_0)).trans hx257_0;replace hx257_1 := (cell_far (p := ⟨gb256,0,none⟩) (by first | (rw [add_block];exact hn257_0) | (show (Addr.add _ _).block ≠ _;rw [add_block];exact hn257_0) | exact hn257_0) (.slice A255_0 ((rd_T34 l0 x17_1).f0).length c255_0)).trans hx257_1;replace hx257_0 := (cell_far (p := ⟨gb256,1,none⟩) (by first | (rw [add_block];exact hn257_1) | (show (Addr.add _ _).block ≠ _;rw [add_block];exact hn257_1) | exact hn257_1) (.int .i64 ((rd_T34 l0 x17_1).f1))).trans hx257_0;replace hx257_1 := (cell_far (p := ⟨gb256,1,none⟩) (by first | (rw [add_block];exact hn257_1) | (show (Addr.add _ _).block ≠ _;rw [add_block];exact hn257_1) | exact hn257_1) (.int .i64 ((rd_T34 l0 x17_1).f1))).trans hx257_1;clear hn257_0;clear hn257_1;replace p257 := eq_true p257;replace q257 := eq_true q257) | ((with_reducible refine gate_dst (N := 9) rfl ?_);refine box_event ?hg (N := 9) ?hd (cs := #[.slice none 0 0,.int .i64 0]) (t := 34) ?hr ?_;(case hd => rfl);(case hg => rfl);(case hr => first | (go_simp;done) | (go_simp;rfl));intro gb258 hg w13 hbox hb;have n0_ := Aside0.mk (blk_below (g := gb256) (o := .cells #[.slice A255_0 ((rd_T34 l0 x17_1).f0).length c255_0,.int .i64 ((rd_T34 l0 x17_1).f1)] 34 (0,0)) (by (with_reducible repeat (first | refine blk_drewN ?_ _ | refine blk_drew ?_ | refine blk_alloc ?_ _));refine blk_put (cs := #[.slice A255_0 ((rd_T34 l0 x17_1).f0).length c255_0,.int .i64 0]) ?_ 1 _ rfl;(with_reducible repeat (first | refine blk_drewN ?_ _ | refine blk_drew ?_ | refine blk_alloc ?_ _));refine blk_put (cs := #[.slice none 0 0,.int .i64 0]) ?_ 0 _ rfl;(with_reducible repeat (first | refine blk_drewN ?_ _ | refine blk_drew ?_ | refine blk_alloc ?_ _));exact BK256.out) hb);have n1_ := Aside0.mk (below_step (by repeat (first | (with_reducible first | exact HB.out | apply below_alloc | apply pw_below_drewN | apply below_drew1 | refine below_set ?_ GE256.out) | exact HB.out)) hb);have n2_ := Aside0.mk (hbox);have n3_ := Aside0.mk ((by rw [hg];exact (below_size (by repeat (first | (with_reducible first | exact HB.out | apply below_alloc | apply pw_below_drewN | apply below_drew1 | refine below_set ?_ GE256.out) | exact HB.out))) : w.heap.size ≤ gb258));have n4_ := Aside0.mk ((by rw [hg];exact (below_size (by repeat (first | (with_reducible first | exact HB.out | apply below_alloc | apply pw_below_drewN | apply below_drew1 | refine below_set ?_ GE256.out) | exact HB.out))) : w.heap.size ≤ gb258));have n5_ := Aside0.mk ((by rw [hg];exact Nat.ne_of_lt (blk_lt (g := gb256) (o := .cells #[.slice A255_0 ((rd_T34 l0 x17_1).f0).length c255_0,.int .i64 ((rd_T34 l0 x17_1).f1)] 34 (0,0)) (by (with_reducible repeat (first | refine blk_drewN ?_ _ | refine blk_drew ?_ | refine blk_alloc ?_ _));refine blk_put (cs := #[.slice A255_0 ((rd_T34 l0 x17_1).f0).length c255_0,.int .i64 0]) ?_ 1 _ rfl;(with_reducible repeat (first | refine blk_drewN ?_ _ | refine blk_drew ?_ | refine blk_alloc ?_ _));refine blk_put (cs := #[.slice none 0 0,.int .i64 0]) ?_ 0 _ rfl;(with_reducible repeat (first | refine blk_drewN ?_ _ | refine blk_drew ?_ | refine blk_alloc ?_ _));exact BK256.out)) : gb256 ≠ gb258));have n6_ := Aside0.mk ((by rw [hg];exact Nat.ne_of_gt (blk_lt (g := gb256) (o := .cells #[.slice A255_0 ((rd_T34 l0 x17_1).f0).length c255_0,.int .i64 ((rd_T34 l0 x17_1).f1)] 34 (0,0)) (by (with_reducible repeat (first | refine blk_drewN ?_ _ | refine blk_drew ?_ | refine blk_alloc ?_ _));refine blk_put (cs := #[.slice A255_0 ((rd_T34 l0 x17_1).f0).length c255_0,.int .i64 0]) ?_ 1 _ rfl;(with_reducible repeat (first | refine blk_drewN ?_ _ | refine blk_drew ?_ | refine blk_alloc ?_ _));refine blk_put (cs := #[.slice none 0 0,.int .i64 0]) ?_ 0 _ rfl;(with_reducible repeat (first | refine blk_drewN ?_ _ | refine blk_drew ?_ | refine blk_alloc ?_ _));exact BK256.out)) : gb258 ≠ gb256));clear BK256;clear HB;have BK256 := n0_;have HB := n1_;have BK258 := n2_;have GW258 := n3_;have GE258 := n4_;have NB256_258 := n5_;have NB258_256 := n6_;clear n0_ n1_ n2_ n3_ n4_ n5_ n6_;clear hb hbox hg;have hnb14 := NB258_256.out;have hnc14 := NB256_258.out;have hcz15_0 : w13.cell? ⟨gb258,0,none⟩ = some (.slice none 0 0) := (blk_cell BK258.out 0).trans rfl;have hcz15_1 : w13.cell? ⟨gb258,1,none⟩ = some (.int .i64 0) := (blk_cell BK258.out 1).trans rfl;have hfz15_0 := blk_frozen BK258.out 0;have hfz15_1 := blk_frozen BK258.out 1;have hcz16_0 : w13.cell? ⟨gb256,0,none⟩ = some (.slice A255_0 ((rd_T34 l0 x17_1).f0).length c255_0) := (blk_cell BK256.out 0).trans rfl;have hcz16_1 : w13.cell? ⟨gb256,1,none⟩ = some (.int .i64 ((rd_T34 l0 x17_1).f1)) := (blk_cell BK256.out 1).trans rfl;have hfz16_0 := blk_frozen BK256.out 0;have hfz16_1 := blk_frozen BK256.out 1) | ((with_reducible refine gate_tmp (n := 26) rfl ?_);refine goesT_ (some 29) rfl rfl Try.func73 (by kernel_rfl) rfl #[.agg #[.slice A255_0 ((rd_T34 l0 x17_1).f0).length c255_0,.int .i64 ((rd_T34 l0 x17_1).f1)],.agg #[.slice A257_0 ((rd_T34 l1 x17_1).f0).length c257_0,.int .i64 ((rd_T34 l1 x17_1).f1)]] rfl rfl (by (try simp only [List.map_toArray,List.map_cons,List.map_nil]);first | done | rfl | (simp only [List.length_drop,List.length_take];rfl)) ?_;(with_reducible refine (bag_Same_1.calls k1 _ _ ((rd_T34 l0 x17_1).f0) ((rd_T34 l0 x17_1).f1) _ _ ((rd_T34 l1 x17_1).f0) ((rd_T34 l1 x17_1).f1) true _ ?side1 ?side2 ?side3 ?side4 A9.out).mono ?_);(case side1 => exact Kd.C_below HR255_0.out (by repeat (first | (with_reducible first | exact HB.out | apply below_alloc | apply pw_below_drewN | apply below_drew1 | refine below_set ?_ GE256.out | refine below_set ?_ GE258.out) | exact HB.out)));(case side2 => exact HC255_0.out);(case side3 => exact Kd.C_below HR257_0.out (by repeat (first | (with_reducible first | exact HB.out | apply below_alloc | apply pw_below_drewN | apply below_drew1 | refine below_set ?_ GE256.out | refine below_set ?_ GE258.out) | exact HB.out)));(case side4 => exact HC257_0.out);rintro e w17 ⟨rfl,hb⟩;refine ⟨_,rfl,?_⟩;have n0_ := Aside0.mk (blk_below (g := gb256) (o := .cells #[.slice A255_0 ((rd_T34 l0 x17_1).f0).length c255_0,.int .i64 ((rd_T34 l0 x17_1).f1)] 34 (0,0)) (by (with_reducible repeat (first | refine blk_drewN ?_ _ | refine blk_drew ?_ | refine blk_alloc ?_ _));refine blk_far ?_ NB256_258.out _;(with_reducible repeat (first | refine blk_drewN ?_ _ | refine blk_drew ?_ | refine blk_alloc ?_ _));refine blk_far ?_ NB256_258.out _;(with_reducible repeat (first | refine blk_drewN ?_ _ | refine blk_drew ?_ | refine blk_alloc ?_ _));exact BK256.out) hb);have n1_ := Aside0.mk (blk_below (g := gb258) (o := .cells #[.slice A257_0 ((rd_T34 l1 x17_1).f0).length c257_0,.int .i64 ((rd_T34 l1 x17_1).f1)] 34 (0,0)) (by (with_reducible repeat (first | refine blk_drewN ?_ _ | refine blk_drew ?_ | refine blk_alloc ?_ _));refine blk_put (cs := #[.slice A257_0 ((rd_T34 l1 x17_1).f0).length c257_0,.int .i64 0]) ?_ 1 _ rfl;(with_reducible repeat (first | refine blk_drewN ?_ _ | refine blk_drew ?_ | refine blk_alloc ?_ _));refine blk_put (cs := #[.slice none 0 0,.int .i64 0]) ?_ 0 _ rfl;(with_reducible repeat (first | refine blk_drewN ?_ _ | refine blk_drew ?_ | refine blk_alloc ?_ _));exact BK258.out) hb);have n2_ := Aside0.mk (below_step (by repeat (first | (with_reducible first | exact HB.out | apply below_alloc | apply pw_below_drewN | apply below_drew1 | refine below_set ?_ GE256.out | refine below_set ?_ GE258.out) | exact HB.out)) hb);clear BK256;clear BK258;clear HB;have BK256 := n0_;have BK258 := n1_;have HB := n2_;clear n0_ n1_ n2_;(try clear hb);(try clear hb2);(try clear hk);(try clear hi)))
                  go_roundg k1
                  case measure => have := HK1.out;omega
                  case rel => exact ⟨(wrap64 (x17_1 + 1)),(by first | rfl | (simp;done) | (simp [*];done)),H',⟨by have := HK1.out;omega⟩,⟨by repeat (first | (with_reducible first | exact HB.out | apply below_alloc | apply pw_below_drewN | apply below_drew1 | refine below_set ?_ GE256.out | refine below_set ?_ GE258.out) | exact HB.out)⟩⟩
                · replace c10 := Bool.eq_false_iff.mpr c10
                  subst c10
                  have H1 : (some false) = some r := by rw [if_neg (show ¬ (false = true) by decide)] at H;exact H
                  clear H
                  have H := H1
                  clear H1
                  obtain rfl := Option.some.inj H
                  have p255 : 0 ≤ (x17_1 : Int) := of_decide_eq_true (by first | (with_reducible assumption) | assumption)
                  have q255 : x17_1 < (l0.length : Int) := of_decide_eq_true (by first | (with_reducible assumption) | assumption)
                  obtain ⟨ad255,A255_0,c255_0,e255,hx255_0,hx255_1,hl255_0,hi255_0⟩ := at_T34 HR0.out x17_1 p255 q255
                  cases e255
                  replace hx255_0 := (HB.out.cell (World.block_lt_of_cell? w _ hx255_0)).trans hx255_0
                  replace hx255_1 := (HB.out.cell (World.block_lt_of_cell? w _ hx255_1)).trans hx255_1
                  have HR255_0 := Aside0.mk hi255_0
                  have HC255_0 := Aside0.mk hl255_0
                  clear hi255_0 hl255_0
                  replace p255 := eq_true p255
                  replace q255 := eq_true q255
                  go_wp2_with (first | ((with_reducible refine gate_dst (N := 8) rfl ?_);refine box_event ?hg (N := 8) ?hd (cs := #[.slice none 0 0,.int .i64 0]) (t := 34) ?hr ?_;(case hd => rfl);(case hg => rfl);(case hr => first | (go_simp;done) | (go_simp;rfl));intro gb256 hg w18 hbox hb;have n0_ := Aside0.mk (below_step (by repeat (first | (with_reducible first | exact HB.out | apply below_alloc | apply pw_below_drewN | apply below_drew1) | exact HB.out)) hb);have n1_ := Aside0.mk (hbox);have n2_ := Aside0.mk ((by rw [hg];exact (below_size (by repeat (first | (with_reducible first | exact HB.out | apply below_alloc | apply pw_below_drewN | apply below_drew1) | exact HB.out))) : w.heap.size ≤ gb256));have n3_ := Aside0.mk ((by rw [hg];exact (below_size (by repeat (first | (with_reducible first | exact HB.out | apply below_alloc | apply pw_below_drewN | apply below_drew1) | exact HB.out))) : w.heap.size ≤ gb256));clear HB;have HB := n0_;have BK256 := n1_;have GW256 := n2_;have GE256 := n3_;clear n0_ n1_ n2_ n3_;clear hb hbox hg;have hcz19_0 : w18.cell? ⟨gb256,0,none⟩ = some (.slice none 0 0) := (blk_cell BK256.out 0).trans rfl;have hcz19_1 : w18.cell? ⟨gb256,1,none⟩ = some (.int .i64 0) := (blk_cell BK256.out 1).trans rfl;have hfz19_0 := blk_frozen BK256.out 0;have hfz19_1 := blk_frozen BK256.out 1;have p257 : 0 ≤ (x17_1 : Int) := of_decide_eq_true (by first | (with_reducible assumption) | assumption);have q257 : x17_1 < (l1.length : Int) := of_decide_eq_true (by first | (with_reducible assumption) | assumption);obtain ⟨ad257,A257_0,c257_0,e257,hx257_0,hx257_1,hl257_0,hi257_0⟩ := at_T34 HR1.out x17_1 p257 q257;cases e257;have hn257_0 : ad257.block ≠ gb256 := Nat.ne_of_lt (Nat.lt_of_lt_of_le (by have := World.block_lt_of_cell? _ _ hx257_0;first | rwa [add_block] at this | exact this) GW256.out);have hn257_1 : ad257.block ≠ gb256 := Nat.ne_of_lt (Nat.lt_of_lt_of_le (by have := World.block_lt_of_cell? _ _ hx257_0;first | rwa [add_block] at this | exact this) GW256.out);replace hx257_0 := (HB.out.cell (World.block_lt_of_cell? w _ hx257_0)).trans hx257_0;replace hx257_1 := (HB.out.cell (World.block_lt_of_cell? w _ hx257_1)).trans hx257_1;have HR257_0 := Aside0.mk hi257_0;have HC257_0 := Aside0.mk hl257_0;clear hi257_0 hl257_0;replace hx257_0 := (cell_far (p := ⟨gb256,0,none⟩) (by first | (rw [add_block];exact hn257_0) | (show (Addr.add _ _).block ≠ _;rw [add_block];exact hn257_0) | exact hn257_0) (.slice A255_0 ((rd_T34 l0 x17_1).f0).length c255_0)).trans hx257_0;replace hx257_1 := (cell_far (p := ⟨gb256,0,none⟩) (by first | (rw [add_block];exact hn257_0) | (show (Addr.add _ _).block ≠ _;rw [add_block];exact hn257_0) | exact hn257_0) (.slice A255_0 ((rd_T34 l0 x17_1).f0).length c255_0)).trans hx257_1;replace hx257_0 := (cell_far (p := ⟨gb256,1,none⟩) (by first | (rw [add_block];exact hn257_1) | (show (Addr.add _ _).block ≠ _;rw [add_block];exact hn257_1) | exact hn257_1) (.int .i64 ((rd_T34 l0 x17_1).f1))).trans hx257_0;replace hx257_1 := (cell_far (p := ⟨gb256,1,none⟩) (by first | (rw [add_block];exact hn257_1) | (show (Addr.add _ _).block ≠ _;rw [add_block];exact hn257_1) | exact hn257_1) (.int .i64 ((rd_T34 l0 x17_1).f1))).trans hx257_1;clear hn257_0;clear hn257_1;replace p257 := eq_true p257;replace q257 := eq_true q257) | ((with_reducible refine gate_dst (N := 9) rfl ?_);refine box_event ?hg (N := 9) ?hd (cs := #[.slice none 0 0,.int .i64 0]) (t := 34) ?hr ?_;(case hd => rfl);(case hg => rfl);(case hr => first | (go_simp;done) | (go_simp;rfl));intro gb258 hg w20 hbox hb;have n0_ := Aside0.mk (blk_below (g := gb256) (o := .cells #[.slice A255_0 ((rd_T34 l0 x17_1).f0).length c255_0,.int .i64 ((rd_T34 l0 x17_1).f1)] 34 (0,0)) (by (with_reducible repeat (first | refine blk_drewN ?_ _ | refine blk_drew ?_ | refine blk_alloc ?_ _));refine blk_put (cs := #[.slice A255_0 ((rd_T34 l0 x17_1).f0).length c255_0,.int .i64 0]) ?_ 1 _ rfl;(with_reducible repeat (first | refine blk_drewN ?_ _ | refine blk_drew ?_ | refine blk_alloc ?_ _));refine blk_put (cs := #[.slice none 0 0,.int .i64 0]) ?_ 0 _ rfl;(with_reducible repeat (first | refine blk_drewN ?_ _ | refine blk_drew ?_ | refine blk_alloc ?_ _));exact BK256.out) hb);have n1_ := Aside0.mk (below_step (by repeat (first | (with_reducible first | exact HB.out | apply below_alloc | apply pw_below_drewN | apply below_drew1 | refine below_set ?_ GE256.out) | exact HB.out)) hb);have n2_ := Aside0.mk (hbox);have n3_ := Aside0.mk ((by rw [hg];exact (below_size (by repeat (first | (with_reducible first | exact HB.out | apply below_alloc | apply pw_below_drewN | apply below_drew1 | refine below_set ?_ GE256.out) | exact HB.out))) : w.heap.size ≤ gb258));have n4_ := Aside0.mk ((by rw [hg];exact (below_size (by repeat (first | (with_reducible first | exact HB.out | apply below_alloc | apply pw_below_drewN | apply below_drew1 | refine below_set ?_ GE256.out) | exact HB.out))) : w.heap.size ≤ gb258));have n5_ := Aside0.mk ((by rw [hg];exact Nat.ne_of_lt (blk_lt (g := gb256) (o := .cells #[.slice A255_0 ((rd_T34 l0 x17_1).f0).length c255_0,.int .i64 ((rd_T34 l0 x17_1).f1)] 34 (0,0)) (by (with_reducible repeat (first | refine blk_drewN ?_ _ | refine blk_drew ?_ | refine blk_alloc ?_ _));refine blk_put (cs := #[.slice A255_0 ((rd_T34 l0 x17_1).f0).length c255_0,.int .i64 0]) ?_ 1 _ rfl;(with_reducible repeat (first | refine blk_drewN ?_ _ | refine blk_drew ?_ | refine blk_alloc ?_ _));refine blk_put (cs := #[.slice none 0 0,.int .i64 0]) ?_ 0 _ rfl;(with_reducible repeat (first | refine blk_drewN ?_ _ | refine blk_drew ?_ | refine blk_alloc ?_ _));exact BK256.out)) : gb256 ≠ gb258));have n6_ := Aside0.mk ((by rw [hg];exact Nat.ne_of_gt (blk_lt (g := gb256) (o := .cells #[.slice A255_0 ((rd_T34 l0 x17_1).f0).length c255_0,.int .i64 ((rd_T34 l0 x17_1).f1)] 34 (0,0)) (by (with_reducible repeat (first | refine blk_drewN ?_ _ | refine blk_drew ?_ | refine blk_alloc ?_ _));refine blk_put (cs := #[.slice A255_0 ((rd_T34 l0 x17_1).f0).length c255_0,.int .i64 0]) ?_ 1 _ rfl;(with_reducible repeat (first | refine blk_drewN ?_ _ | refine blk_drew ?_ | refine blk_alloc ?_ _));refine blk_put (cs := #[.slice none 0 0,.int .i64 0]) ?_ 0 _ rfl;(with_reducible repeat (first | refine blk_drewN ?_ _ | refine blk_drew ?_ | refine blk_alloc ?_ _));exact BK256.out)) : gb258 ≠ gb256));clear BK256;clear HB;have BK256 := n0_;have HB := n1_;have BK258 := n2_;have GW258 := n3_;have GE258 := n4_;have NB256_258 := n5_;have NB258_256 := n6_;clear n0_ n1_ n2_ n3_ n4_ n5_ n6_;clear hb hbox hg;have hnb21 := NB258_256.out;have hnc21 := NB256_258.out;have hcz22_0 : w20.cell? ⟨gb258,0,none⟩ = some (.slice none 0 0) := (blk_cell BK258.out 0).trans rfl;have hcz22_1 : w20.cell? ⟨gb258,1,none⟩ = some (.int .i64 0) := (blk_cell BK258.out 1).trans rfl;have hfz22_0 := blk_frozen BK258.out 0;have hfz22_1 := blk_frozen BK258.out 1;have hcz23_0 : w20.cell? ⟨gb256,0,none⟩ = some (.slice A255_0 ((rd_T34 l0 x17_1).f0).length c255_0) := (blk_cell BK256.out 0).trans rfl;have hcz23_1 : w20.cell? ⟨gb256,1,none⟩ = some (.int .i64 ((rd_T34 l0 x17_1).f1)) := (blk_cell BK256.out 1).trans rfl;have hfz23_0 := blk_frozen BK256.out 0;have hfz23_1 := blk_frozen BK256.out 1) | ((with_reducible refine gate_tmp (n := 26) rfl ?_);refine goesT_ (some 29) rfl rfl Try.func73 (by kernel_rfl) rfl #[.agg #[.slice A255_0 ((rd_T34 l0 x17_1).f0).length c255_0,.int .i64 ((rd_T34 l0 x17_1).f1)],.agg #[.slice A257_0 ((rd_T34 l1 x17_1).f0).length c257_0,.int .i64 ((rd_T34 l1 x17_1).f1)]] rfl rfl (by (try simp only [List.map_toArray,List.map_cons,List.map_nil]);first | done | rfl | (simp only [List.length_drop,List.length_take];rfl)) ?_;(with_reducible refine (bag_Same_1.calls k1 _ _ ((rd_T34 l0 x17_1).f0) ((rd_T34 l0 x17_1).f1) _ _ ((rd_T34 l1 x17_1).f0) ((rd_T34 l1 x17_1).f1) false _ ?side1 ?side2 ?side3 ?side4 A9.out).mono ?_);(case side1 => exact Kd.C_below HR255_0.out (by repeat (first | (with_reducible first | exact HB.out | apply below_alloc | apply pw_below_drewN | apply below_drew1 | refine below_set ?_ GE256.out | refine below_set ?_ GE258.out) | exact HB.out)));(case side2 => exact HC255_0.out);(case side3 => exact Kd.C_below HR257_0.out (by repeat (first | (with_reducible first | exact HB.out | apply below_alloc | apply pw_below_drewN | apply below_drew1 | refine below_set ?_ GE256.out | refine below_set ?_ GE258.out) | exact HB.out)));(case side4 => exact HC257_0.out);rintro e w24 ⟨rfl,hb⟩;refine ⟨_,rfl,?_⟩;have n0_ := Aside0.mk (blk_below (g := gb256) (o := .cells #[.slice A255_0 ((rd_T34 l0 x17_1).f0).length c255_0,.int .i64 ((rd_T34 l0 x17_1).f1)] 34 (0,0)) (by (with_reducible repeat (first | refine blk_drewN ?_ _ | refine blk_drew ?_ | refine blk_alloc ?_ _));refine blk_far ?_ NB256_258.out _;(with_reducible repeat (first | refine blk_drewN ?_ _ | refine blk_drew ?_ | refine blk_alloc ?_ _));refine blk_far ?_ NB256_258.out _;(with_reducible repeat (first | refine blk_drewN ?_ _ | refine blk_drew ?_ | refine blk_alloc ?_ _));exact BK256.out) hb);have n1_ := Aside0.mk (blk_below (g := gb258) (o := .cells #[.slice A257_0 ((rd_T34 l1 x17_1).f0).length c257_0,.int .i64 ((rd_T34 l1 x17_1).f1)] 34 (0,0)) (by (with_reducible repeat (first | refine blk_drewN ?_ _ | refine blk_drew ?_ | refine blk_alloc ?_ _));refine blk_put (cs := #[.slice A257_0 ((rd_T34 l1 x17_1).f0).length c257_0,.int .i64 0]) ?_ 1 _ rfl;(with_reducible repeat (first | refine blk_drewN ?_ _ | refine blk_drew ?_ | refine blk_alloc ?_ _));refine blk_put (cs := #[.slice none 0 0,.int .i64 0]) ?_ 0 _ rfl;(with_reducible repeat (first | refine blk_drewN ?_ _ | refine blk_drew ?_ | refine blk_alloc ?_ _));exact BK258.out) hb);have n2_ := Aside0.mk (below_step (by repeat (first | (with_reducible first | exact HB.out | apply below_alloc | apply pw_below_drewN | apply below_drew1 | refine below_set ?_ GE256.out | refine below_set ?_ GE258.out) | exact HB.out)) hb);clear BK256;clear BK258;clear HB;have BK256 := n0_;have BK258 := n1_;have HB := n2_;clear n0_ n1_ n2_;(try clear hb);(try clear hb2);(try clear hk);(try clear hi)))
                  go_ret
                  exact ⟨by first | rfl | (simp [errW_none,errW_some] <;> rfl) | (simp [*,errW_none,errW_some] <;> rfl),by repeat (first | (with_reducible first | exact HB.out | apply below_alloc | apply pw_below_drewN | apply below_drew1 | refine below_set ?_ GE256.out | refine below_set ?_ GE258.out) | exact HB.out)⟩
              · rw [if_neg c8] at H
                exact absurd H (by simp)
            · rw [if_neg c7] at H
              exact absurd H (by simp)
          · rw [if_neg c6] at H
            exact absurd H (by simp)
        · rw [if_neg c5] at H
          have c5b0 : decide (x17_1 < (l0.length : Int)) = false := decide_eq_false c5
          clear c5
          obtain rfl := Option.some.inj H
          go_wp2
          go_ret
          exact ⟨by first | rfl | (simp [errW_none,errW_some] <;> rfl) | (simp [*,errW_none,errW_some] <;> rfl),by repeat (first | (with_reducible first | exact HB.out | apply below_alloc | apply pw_below_drewN | apply below_drew1) | exact HB.out)⟩
  · rw [if_neg c4] at H
    have c4b0 : ((l0.length : Int) == (l1.length : Int)) = false := beq_eq_false_iff_ne.mpr c4
    have c4b1 : ((l0.length : Int) != (l1.length : Int)) = true := bne_iff_ne.mpr c4
    have c4b2 : (l0.length == l1.length) = false := by first | simpa using c4 | (simp at c4 ⊢;omega)
    obtain rfl := Option.some.inj H
    go_enter Try.func72,Try.ntmps72
    go_wp2
    go_ret
    exact ⟨by first | rfl | (simp [errW_none,errW_some] <;> rfl) | (simp [*,errW_none,errW_some] <;> rfl),by repeat (first | (with_reducible first | exact HB.out | apply below_alloc | apply pw_below_drewN | apply below_drew1) | exact HB.out)⟩
end Go.Proofs.Ythmbfcfomcaaaaa.Z
end
section
namespace Go.Proofs.Ythmbfcfomcaaaaa.Z
set_option linter.unusedVariables false
set_option linter.unusedSimpArgs false
open Go.RowKit Go.Proofs.YthmbfcfomcaaaaaW.PrintWords Go.Proofs.YthmbfcfomcaaaaaW.PrintLast Go.Proofs.YthmbfcfomcaaaaaW.PrintMore Go.Proofs.Ythmbfcfomcaaaaa.Cmp
theorem from_nil (A : Option Addr) (n c : Nat) (w : World) : Calls Try.prog 20 #[.pointer none,.slice A n c] w fun e w' => e = .returned (.tuple #[.slice none 0 0,.int .i64 1]) ∧ w = w' := by
  go_enter Try.func20,Try.ntmps20
  go_wp2
  go_ret2
  exact ⟨rfl,rfl⟩
theorem least_nil (w : World) : Calls Try.prog 24 #[.pointer none] w fun e w' => e = .returned (.tuple #[.slice none 0 0,.int .i64 1]) ∧ w = w' := by
  go_enter Try.func24,Try.ntmps24
  go_wp2
  go_ret2
  exact ⟨rfl,rfl⟩
theorem most_nil (w : World) : Calls Try.prog 25 #[.pointer none] w fun e w' => e = .returned (.tuple #[.slice none 0 0,.int .i64 1]) ∧ w = w' := by
  go_enter Try.func25,Try.ntmps25
  go_wp2
  go_ret2
  exact ⟨rfl,rfl⟩
theorem add_nil (A : Option Addr) (n c : Nat) (m : Int) (w : World) : Calls Try.prog 16 #[.pointer none,.slice A n c,.int .i64 m] w fun e w' => e = .returned (.int .i64 1) ∧ w = w' := by
  go_enter Try.func16,Try.ntmps16
  go_wp2
  go_ret
  exact ⟨rfl,rfl⟩
theorem many_nil (A : Option Addr) (n c : Nat) (w : World) : Calls Try.prog 18 #[.pointer none,.slice A n c] w fun e w' => e = .returned (.int .i64 0) ∧ w = w' := by
  go_enter Try.func18,Try.ntmps18
  go_wp2
  go_ret
  exact ⟨rfl,rfl⟩
theorem len_nil (w : World) : Calls Try.prog 33 #[.pointer none] w fun e w' => e = .returned (.int .i64 0) ∧ w = w' := by
  go_enter Try.func33,Try.ntmps33
  go_wp2
  go_ret
  exact ⟨rfl,rfl⟩
theorem rows_nil (w : World) : Calls Try.prog 34 #[.pointer none] w fun e w' => e = .returned (.slice none 0 0) ∧ w = w' := by
  go_enter Try.func34,Try.ntmps34
  go_wp2
  go_ret
  exact ⟨rfl,rfl⟩
theorem copy_nil (w : World) : Calls Try.prog 30 #[.pointer none] w fun e w' => e = .returned (.pointer none) ∧ w = w' := by
  go_enter Try.func30,Try.ntmps30
  go_wp2
  go_ret
  exact ⟨rfl,rfl⟩
theorem merge_nil (p : Option Addr) (m : Int) (w : World) : Calls Try.prog 28 #[.pointer none,.pointer p,.int .i64 m] w fun e w' => e = .returned (.int .i64 1) ∧ w = w' := by
  go_enter Try.func28,Try.ntmps28
  go_wp2
  go_ret
  exact ⟨rfl,rfl⟩
theorem merge_nil2 (b : Nat) (m : Int) (w : World) : Calls Try.prog 28 #[.pointer (some ⟨b,0,none⟩),.pointer none,.int .i64 m] w fun e w' => e = .returned (.int .i64 1) ∧ w = w' := by
  go_enter Try.func28,Try.ntmps28
  go_wp2
  go_ret
  exact ⟨rfl,rfl⟩
theorem bag_rows1 {N : Nat} {D : Nat → Prop} {b : Nat} {t : Tr} {L : List En} {w : World} (h : One N w b t D) (hd : docT t = L) (hl : L.length ≤ 1000000) :
    Calls Try.prog 34 #[.pointer (some ⟨b,0,none⟩)] w fun e w' => ∃ A c,e = .returned (.slice A L.length c) ∧ Kd.C k34 w' A L.length L ∧ L.length ≤ c ∧ Below w.heap.size w w' := by
  refine (bag_rows b t w h.bag (by rw [← doc_len,hd];exact hl)).mono ?_
  rintro e w1 ⟨v,rfl,hv,hb⟩
  rw [hd] at hv
  obtain ⟨A,c,rfl⟩ := Kd.R_slice hv
  exact ⟨A,c,rfl,(Kd.R_reads' hv).2.2,(Kd.R_reads' hv).2.1,hb⟩
set_option maxHeartbeats 4000000 in
theorem same_nil {N : Nat} {D : Nat → Prop} {b : Nat} {t : Tr} {w : World} (h : One N w b t D) (hd : docT t = []) :
    Calls Try.prog 27 #[.pointer none,.pointer (some ⟨b,0,none⟩)] w fun e w' => e = .returned (.bool true) ∧ Below w.heap.size w w' := by
  have RW := Aside0.mk (fun W (e : SameW w W) => bag_rows1 (h.below (e.below _)) hd (by decide))
  clear h hd
  go_enter Try.func27,Try.ntmps27
  go_wp2_with (fail)
  refine (rows_nil _).mono ?_
  rintro e w1 ⟨rfl,rfl⟩
  go_wp2_with (fail)
  refine (RW.out _ (by first | exact SameW.refl _ | exact ⟨rfl,rfl,rfl,rfl⟩)).mono ?_
  rintro e w1 ⟨A,c,rfl,hC,hc,hb⟩
  have HC := Aside0.mk hC
  have CP := Aside0.mk hc
  have HB := Aside0.mk hb
  clear hC hc hb RW
  simp only [List.length_nil]
  go_wp2_with (fail)
  refine (slices_EqualFunc.calls 5 none 0 [] A c [] 0 true w1 ⟨rfl,by simp,fun h => absurd h (by simp)⟩ (by simp) HC.out CP.out (by simp [slices_EqualFunc.f,slices_EqualFunc.l0])).mono ?_
  rintro e w2 ⟨rfl,hb⟩
  have HB2 := Aside0.mk (HB.out.trans (hb.mono HB.out.size))
  clear hb
  go_wp2_with (fail)
  go_ret
  exact ⟨rfl,HB2.out⟩
set_option maxHeartbeats 4000000 in
set_option maxRecDepth 100000 in
theorem bag_nil_law (A : Option Addr) (n c : Nat) (m : Int) (w : World) : Calls Try.prog 6 #[.slice A n c,.int .i64 m] w fun e w' => e = .returned (.bool true) ∧ Below w.heap.size w w' := by
  have I0 := Aside0.mk (NextW.refl w)
  obtain ⟨N,hN⟩ : ∃ N,w.heap.size = N := ⟨_,rfl⟩
  rw [hN] at I0 ⊢
  go_enter Try.func6,Try.ntmps6
  go_wp2_with (fail)
  refine (from_nil A n c w).mono ?_
  rintro e w' ⟨rfl,rfl⟩
  go_wp2_with (fail)
  refine (least_nil w).mono ?_
  rintro e w' ⟨rfl,rfl⟩
  go_wp2_with (fail)
  refine (most_nil w).mono ?_
  rintro e w' ⟨rfl,rfl⟩
  go_wp2_with (fail)
  refine (add_nil A n c m w).mono ?_
  rintro e w' ⟨rfl,rfl⟩
  go_wp2_with (fail)
  refine (many_nil A n c w).mono ?_
  rintro e w' ⟨rfl,rfl⟩
  go_wp2_with (fail)
  refine (len_nil w).mono ?_
  rintro e w' ⟨rfl,rfl⟩
  go_wp2_with (fail)
  refine (rows_nil w).mono ?_
  rintro e w' ⟨rfl,rfl⟩
  go_wp2_with (fail)
  refine (bag_new1 w).mono ?_
  rintro e w1 ⟨b1,rfl,_,hb⟩
  have I1 := Aside0.mk (I0.out.next hb)
  clear hb
  go_wp2_with (fail)
  refine (merge_nil _ 1 w1).mono ?_
  rintro e w' ⟨rfl,rfl⟩
  go_wp2_with (fail)
  refine (copy_nil w1).mono ?_
  rintro e w' ⟨rfl,rfl⟩
  go_wp2_with (fail)
  refine (bag_new1 w1).mono ?_
  rintro e w2 ⟨b2,rfl,hA,hb⟩
  have I2 := Aside0.mk (I1.out.next hb)
  have H2 := Aside0.mk hA
  clear hb hA I1
  go_wp2_with (fail)
  refine (same_nil H2.out rfl).mono ?_
  rintro e w3 ⟨rfl,hb⟩
  have I3 := Aside0.mk (I2.out.next hb)
  clear hb I2 H2
  go_wp2_with (fail)
  refine (bag_new1 w3).mono ?_
  rintro e w4 ⟨b4,rfl,hA,hb⟩
  have I4 := Aside0.mk (I3.out.next hb)
  clear hb hA I3
  go_wp2_with (fail)
  refine (merge_nil2 b4 1 w4).mono ?_
  rintro e w' ⟨rfl,rfl⟩
  go_wp2_with (fail)
  refine (known_at w4).mono ?_
  rintro e w5 ⟨rfl,hb⟩
  have I5 := Aside0.mk (I4.out.next hb)
  clear hb I4
  go_wp2_with (fail)
  go_ret
  exact ⟨rfl,I5.out.at_⟩
end Go.Proofs.Ythmbfcfomcaaaaa.Z
end
section
namespace Go.Proofs.Ythmbfcfomcaaaaa.Z
set_option linter.unusedVariables false
open Go.RowKit Go.Proofs.YthmbfcfomcaaaaaW.PrintWords Go.Proofs.YthmbfcfomcaaaaaW.PrintLast Go.Proofs.YthmbfcfomcaaaaaW.PrintMore
def verdererlaw05_BagNil.f (l0 : List (S66)) (a1 : Int) : Option (Bool) := some true
theorem verdererlaw05_BagNil.calls (A0 : Option Addr) (c0 : Nat) (l0 : List (S66)) (a1 : Int) (r : Bool) (w : World) (hr0 : Kd.C k66 w A0 l0.length l0) (hc0 : l0.length ≤ c0) (h : verdererlaw05_BagNil.f l0 a1 = some r) :
    Calls Try.prog 6 #[.slice A0 l0.length c0,.int .i64 a1] w fun e w' => e = .returned (.bool r) ∧ Below w.heap.size w w' := by
  obtain rfl := Option.some.inj h
  exact bag_nil_law A0 l0.length c0 a1 w
end Go.Proofs.Ythmbfcfomcaaaaa.Z
end
section
namespace Go.Proofs.Ythmbfcfomcaaaaa.Z
open Go.RowKit Go.Proofs.YthmbfcfomcaaaaaW.PrintWords Go.Proofs.YthmbfcfomcaaaaaW.PrintLast Go.Proofs.YthmbfcfomcaaaaaW.PrintMore
theorem bagNil_pure : ∀ (l0 : (List S66)) (a1 : Int),(l0.length ≤ maxLen ∧ ∀ x ∈ l0,G66 x) → (Lit.int .i64 a1).wf = true → verdererlaw05_BagNil.f l0 a1 = some true := by
  intros
  rfl
end Go.Proofs.Ythmbfcfomcaaaaa.Z
end
namespace Go.Proofs.Ythmbfcfomcaaaaa.bagNil
open Go.ChangeShapes Go.WideShapes Go.ChangeAt Go.RowKit Go.Proofs.YthmbfcfomcaaaaaW.PrintWords
open Go.ChangeMaps (open_string shut_string)
set_option linter.unusedVariables false
theorem own : ownKnob Try.prog.godebug = none := by kernel_rfl
theorem laidOut : laidOutB Try.prog = true := by kernel_rfl
set_option maxRecDepth 100000 in
theorem lifted (os : Os) (started : os.Started) (H : Type) (enc : TypeId × Value → H) :
    ReturnsInHanded {} Try.checked os 6 .any (Rows.bagNilSpec.pre6 enc Try.prog Try.f6 Rows.bagNilRow.domain false) (Rows.bagNilSpec.post enc Try.prog Try.f6 false true false false) := by
  refine returnsInHanded_of_change (C := Try.checked) own started (by kernel_rfl) Try.func6
    (ChangeSpec.witness6 (enc := enc) (C := Try.checked) false ⟨#[],#[.slice none 0 0,.int .i64 0],[]⟩ 8 (by kernel_rfl) (by kernel_rfl) (by kernel_rfl) (by kernel_rfl)) ?_
  intro W base args ds gs before hval0 hW hcnd _
  have hval : ∀ (j : Nat) t v,Try.f6.params[j]? = some t → args[j]? = some v → Value.okWide Try.prog W .any base t v := hval0
  have hW' := hW
  obtain ⟨p,q,hA0,hV,rfl,hfz,hnd⟩ := hW
  have hA : DataW.TrodAll enc Try.prog W 0 (fun _ => true) true Try.f6.params.toList args.toList ds p := hA0
  rw [Try.params6] at hA hval
  obtain ⟨v0,vs0,d0,ds0,p0,q0,hargs,rfl,rfl,h0,r0⟩ := trodAll_cons hA
  obtain ⟨v1,vs1,d1,ds1,p1,q1,rfl,rfl,rfl,h1,r1⟩ := trodAll_cons r0
  obtain ⟨rfl,rfl,rfl⟩ := trodAll_nil r1
  obtain rfl : args = #[v0,v1] := by cases args;simp_all
  obtain ⟨rfl,rfl⟩ := trodVars_none hV
  obtain ⟨a0,len0,cap0,rfl⟩ := okWide_slice Try.underlying23 (hval 0 23 v0 rfl rfl)
  have k0 := h0
  have lt0 : ∀ x ∈ p0,x.block < W.heap.size := by obtain ⟨m,hm⟩ := k0;exact DataW.trod_lt m _ _ _ hm
  obtain ⟨l0,hK0,hG0⟩ : ∃ l,((Kd.slice 66 Z.k66) : Kd (List Z.S66)).K W l [.slice a0 len0 cap0] ∧ (l.length ≤ maxLen ∧ ∀ x ∈ l,Z.G66 x) := by obtain ⟨fuel,hf⟩ := h0;exact (show OfTrod Try.prog 23 (Kd.slice 66 Z.k66) _ from (ofTrod_slice Try.underlying23 (by kernel_rfl) Z.of66)) _ _ _ _ _ _ _ _ _ hf
  obtain ⟨A0,c0,he0,hl0,hC0⟩ := hK0
  simp only [List.cons.injEq,Value.slice.injEq,and_true] at he0
  obtain ⟨rfl,rfl,rfl⟩ := he0
  obtain ⟨a1,rfl,rfl,rfl,w1⟩ := open_int Try.underlying2 (hval 1 2 v1 rfl rfl) h1
  clear hA0 hval0
  have h := Z.bagNil_pure l0 a1 hG0 w1
  refine (Z.verdererlaw05_BagNil.calls _ _ l0 a1 true W hC0 hl0 h).mono fun e W' ⟨he,bel⟩ => ?_
  subst he
  exact ⟨_,rfl,_,_,_,[],_,[],hW',trodAll_mk1 (shut_bool Try.underlying4 _),(trodAll_cons_mk (Below.trod laidOut (by kernel_rfl) (of_decide_eq_true (by kernel_rfl)) k0 bel lt0) (trodAll_cons_mk (shut_int Try.underlying2 w1) trodAll_mk0)),rfl,bel.frame _,fun h => by cases h⟩
theorem over : Rows.bagNilRow.holds Try.pinned (OpenSpec.ofChange Rows.bagNilSpec) :=
  OpenClaim.holds_of_wide 6 Try.f6 rfl rfl rfl rfl rfl rfl rfl ⟨rfl,rfl,rfl,rfl,rfl⟩ rfl rfl rfl rfl rfl (by kernel_rfl) Try.func6 (by kernel_rfl)
    (of_decide_eq_true (by kernel_rfl)) (by unfold Func.isWrapper;first | (rw [if_pos (by decide +kernel)];kernel_rfl) | (rw [if_neg (by decide +kernel)];exact ⟨rfl,rfl⟩))
    (fun os started H enc _ => lifted os started H enc)
theorem proved : Rows.BagNilSaid := over
#print axioms proved
end Go.Proofs.Ythmbfcfomcaaaaa.bagNil
namespace Go.Proofs.Ythmbfcfomcaaaaa
theorem bagNil_holds : Rows.BagNilSaid := bagNil.proved
end Go.Proofs.Ythmbfcfomcaaaaa
