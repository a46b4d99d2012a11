/- Parts of the proof of BagOrder: what its functions answer. -/
import Derived.Test.YthmbfcfomcaaaaaMBagOrdera
import Derived.Test.YthmbfcfomcaaaaaMBagOrderb
import Derived.Test.YthmbfcfomcaaaaaMBagOrderc
import Derived.RangeFuncNested
import Derived.RangeFuncBound
import Derived.RangeFuncCalls
import Derived.RangeFuncLeaves
import Derived.Shelf.Abstract
import Derived.WalkKit
import Derived.OwnWalkIn
import Derived.TacticsInMore
import Derived.Deep.Cut
import Derived.Deep.RegionHeld3
section
namespace Go.Proofs.Ythmbfcfomcaaaaa.Z
set_option linter.unusedVariables false
set_option linter.unusedSimpArgs false
open Go.RowKit Go.Proofs.YthmbfcfomcaaaaaW.PrintWords Go.Proofs.YthmbfcfomcaaaaaW.PrintLast Go.Proofs.YthmbfcfomcaaaaaW.PrintMore Go.Proofs.Ythmbfcfomcaaaaa.Cmp
abbrev En := S34
abbrev Rw := List S66
def docE (L : List Ent) : List En := L.map (fun e => ⟨e.row,e.many⟩)
def docT (t : Tr) : List En := docE t.ents
def SrtD (L : List En) : Prop := L.Pairwise (fun a b => rcmp a.f0 b.f0 < 0)
def OkD (L : List En) : Prop := ∀ x ∈ L,rright x.f0 = true ∧ x.f1 ≠ 0 ∧ -1073741824 ≤ x.f1 ∧ x.f1 ≤ 1073741824
def few (n : Int) : Bool := decide (-1073741824 ≤ n) && decide (n ≤ 1073741824)
def loD (r : Rw) (L : List En) : List En := L.filter (fun x => decide (rcmp x.f0 r < 0))
def eqD (r : Rw) (L : List En) : List En := L.filter (fun x => decide (rcmp r x.f0 = 0))
def hiD (r : Rw) (L : List En) : List En := L.filter (fun x => decide (rcmp r x.f0 < 0))
def fndD (r : Rw) (L : List En) : Option En := L.find? (fun x => decide (rcmp r x.f0 = 0))
def manyD (r : Rw) (L : List En) : Int := match fndD r L with | some x => x.f1 | none => 0
def putD (r : Rw) (now : Int) (L : List En) : List En := loD r L ++ (if now = 0 then [] else [⟨r,now⟩]) ++ hiD r L
def okAdd (r : Rw) (m : Int) (L : List En) : Bool := decide (-2147483648 ≤ m) && decide (m ≤ 2147483648) && few (manyD r L + m)
def addD (r : Rw) (m : Int) (L : List En) : Int × List En := if rright r = true then (if okAdd r m L = true then (0,putD r (manyD r L + m) L) else (10,L)) else (2,L)
theorem SrtD.cons {x : En} {L : List En} (h : SrtD (x :: L)) : (∀ y ∈ L,rcmp x.f0 y.f0 < 0) ∧ SrtD L := List.pairwise_cons.1 h
theorem srt_split (r : Rw) : ∀ {L : List En},SrtD L → L = loD r L ++ eqD r L ++ hiD r L ∧ eqD r L = (fndD r L).toList
  | [],_ => ⟨rfl,rfl⟩
  | x :: L,h => by
    obtain ⟨h1,h2⟩ := h.cons
    obtain ⟨i1,i2⟩ := srt_split r h2
    unfold loD eqD hiD fndD at *
    rw [List.filter_cons,List.filter_cons,List.filter_cons,List.find?_cons]
    have an := rcmp_anti x.f0 r
    rcases Int.lt_trichotomy (rcmp r x.f0) 0 with c | c | c
    · have hi : ∀ y ∈ L,rcmp r y.f0 < 0 := fun y hy => rcmp_law.lt_le c (Int.le_of_lt (h1 y hy))
      rw [filter_none (l := L) (fun y hy => by have := hi y hy;rw [rcmp_anti y.f0 r] at this;exact decide_eq_false (by omega)),filter_none (l := L) (fun y hy => by have := hi y hy;exact decide_eq_false (by omega)),filter_all (l := L) (fun y hy => decide_eq_true (hi y hy)),find_none' (a := L) (fun y hy => by have := hi y hy;exact decide_eq_false (by omega))]
      have a1 : ¬ rcmp x.f0 r < 0 := by omega
      have a2 : ¬ rcmp r x.f0 = 0 := by omega
      simp [a1,a2,c]
    · have hi : ∀ y ∈ L,rcmp r y.f0 < 0 := fun y hy => by rw [show rcmp r y.f0 = rcmp x.f0 y.f0 from rcmp_law.eq_left y.f0 c];exact h1 y hy
      rw [filter_none (l := L) (fun y hy => by have := hi y hy;rw [rcmp_anti y.f0 r] at this;exact decide_eq_false (by omega)),filter_none (l := L) (fun y hy => by have := hi y hy;exact decide_eq_false (by omega)),filter_all (l := L) (fun y hy => decide_eq_true (hi y hy))]
      have a1 : ¬ rcmp x.f0 r < 0 := by omega
      simp [a1,c]
    · have a0 : rcmp x.f0 r < 0 := by omega
      have a1 : ¬ rcmp r x.f0 < 0 := by omega
      have a2 : ¬ rcmp r x.f0 = 0 := by omega
      simp only [a0,a1,a2,decide_true,decide_false,if_true,Bool.false_eq_true,if_false]
      exact ⟨by rw [List.cons_append,List.cons_append,← i1],i2⟩
theorem mem_lo {r : Rw} {L : List En} {x : En} (h : x ∈ loD r L) : x ∈ L ∧ rcmp x.f0 r < 0 := by
  have := List.mem_filter.1 h;exact ⟨this.1,of_decide_eq_true this.2⟩
theorem mem_hi {r : Rw} {L : List En} {x : En} (h : x ∈ hiD r L) : x ∈ L ∧ rcmp r x.f0 < 0 := by
  have := List.mem_filter.1 h;exact ⟨this.1,of_decide_eq_true this.2⟩
theorem SrtD.filter {L : List En} (h : SrtD L) (p : En → Bool) : SrtD (L.filter p) := List.Pairwise.filter p h
theorem putD_srt {r : Rw} {now : Int} {L : List En} (h : SrtD L) : SrtD (putD r now L) := by
  have hl := h.filter (fun x => decide (rcmp x.f0 r < 0))
  have hh := h.filter (fun x => decide (rcmp r x.f0 < 0))
  unfold putD
  split
  · rw [List.append_nil]
    exact List.pairwise_append.2 ⟨hl,hh,fun x hx y hy => rcmp_law.lt_le (mem_lo hx).2 (Int.le_of_lt (mem_hi hy).2)⟩
  · rw [List.append_assoc]
    refine List.pairwise_append.2 ⟨hl,List.pairwise_cons.2 ⟨fun y hy => (mem_hi hy).2,hh⟩,fun x hx y hy => ?_⟩
    rcases List.mem_cons.1 hy with q | q
    · rw [q];exact (mem_lo hx).2
    · exact rcmp_law.lt_le (mem_lo hx).2 (Int.le_of_lt (mem_hi q).2)
theorem few_iff {n : Int} : few n = true ↔ -1073741824 ≤ n ∧ n ≤ 1073741824 := by
  unfold few;rw [Bool.and_eq_true,decide_eq_true_eq,decide_eq_true_eq]
theorem putD_ok {r : Rw} {now : Int} {L : List En} (h : OkD L) (hr : rright r = true) (hn : few now = true) : OkD (putD r now L) := by
  intro x hx
  unfold putD at hx
  rcases List.mem_append.1 hx with q | q
  · rcases List.mem_append.1 q with q | q
    · exact h x (mem_lo q).1
    · split at q
      · cases q
      · rename_i h0
        rw [List.mem_singleton] at q
        subst q
        exact ⟨hr,h0,few_iff.1 hn⟩
  · exact h x (mem_hi q).1
theorem addD_inv {r : Rw} {m : Int} {L : List En} (h : SrtD L) (k : OkD L) : SrtD (addD r m L).2 ∧ OkD (addD r m L).2 := by
  unfold addD
  split
  · rename_i hr
    split
    · rename_i ha
      unfold okAdd at ha
      rw [Bool.and_eq_true] at ha
      exact ⟨putD_srt h,putD_ok k hr ha.2⟩
    · exact ⟨h,k⟩
  · exact ⟨h,k⟩
theorem many_bd {r : Rw} {L : List En} (k : OkD L) : -1073741824 ≤ manyD r L ∧ manyD r L ≤ 1073741824 := by
  unfold manyD fndD
  cases hf : L.find? (fun x => decide (rcmp r x.f0 = 0)) with
  | none => simp
  | some x => exact (k x (List.mem_of_find?_eq_some hf)).2.2
theorem srtD_of {L : List Ent} (h : Srt L) : SrtD (docE L) := by
  unfold docE SrtD
  rw [List.pairwise_map]
  exact h
theorem srt_of {L : List Ent} (h : SrtD (docE L)) : Srt L := by
  unfold docE SrtD at h
  rw [List.pairwise_map] at h
  exact h
theorem put_ents (g : Nat) (en : Ent) : ∀ {t : Tr},Srt t.ents → (∀ x ∈ t.ents,rcmp en.row x.row ≠ 0) → entsL (t.put g en) = ahead en.row t.ents ++ en :: behind en.row t.ents
  | .nil,_,_ => rfl
  | .node b e l r h,hs,hx => by
    have hs' := hs
    rw [Tr.ents_node] at hs hx ⊢
    simp only [Tr.put]
    by_cases hc : rcmp en.row e.row < 0
    · rw [if_pos hc,entsL_app,put_ents g en (srt_left hs').1 (fun x q => hx x (by simp [q]))]
      obtain ⟨a1,a2⟩ := ins_left en.row hs hc
      rw [a1,a2]
      simp [entsL,Tr.ents]
    · have hn := hx e (by simp)
      rw [if_neg hc,entsL_app]
      show entsL l.items ++ e :: entsL (r.put g en) = _
      rw [put_ents g en (srt_left hs').2 (fun x q => hx x (by simp [q]))]
      obtain ⟨a1,a2⟩ := ins_right en.row hs (by omega)
      rw [a1,a2]
      simp [Tr.ents]
theorem doc_put (g : Nat) (en : Ent) {t t' : Tr} (hs : Srt t.ents) (hx : fndD en.row (docT t) = none) (h0 : en.many ≠ 0) (hi : t'.items = t.put g en) : docT t' = putD en.row en.many (docT t) := by
  have hne : ∀ x ∈ t.ents,rcmp en.row x.row ≠ 0 := fun x hxm => by
    have := List.find?_eq_none.1 hx ⟨x.row,x.many⟩ (List.mem_map_of_mem (f := fun e : Ent => (⟨e.row,e.many⟩ : En)) hxm)
    simpa using this
  have e1 : t'.ents = ahead en.row t.ents ++ en :: behind en.row t.ents := by
    rw [← put_ents g en hs hne,← hi];rfl
  unfold docT docE
  rw [e1]
  unfold putD loD hiD ahead behind
  rw [if_neg h0,List.map_append,List.map_cons,List.filter_map,List.filter_map,List.append_assoc]
  congr 1
  show _ :: _ = _ :: _
  congr 1
  congr 1
  apply List.filter_congr
  intro x hxm
  have := hne x hxm
  have an := rcmp_anti en.row x.row
  show (!decide (rcmp x.row en.row < 0)) = decide (rcmp en.row x.row < 0)
  by_cases c : rcmp x.row en.row < 0
  · rw [decide_eq_true c,decide_eq_false (show ¬ rcmp en.row x.row < 0 by omega)];rfl
  · rw [decide_eq_false c,decide_eq_true (show rcmp en.row x.row < 0 by omega)];rfl
theorem doc_drop {r : Rw} {t t' : Tr} (hs : Srt t.ents) (hi : t'.ents = others r t.ents) : docT t' = putD r 0 (docT t) := by
  have e1 : docT t' = (docT t).filter (fun x => !decide (rcmp r x.f0 = 0)) := by
    unfold docT docE
    rw [hi,List.filter_map]
    rfl
  rw [e1]
  obtain ⟨s1,s2⟩ := srt_split r (srtD_of hs)
  show List.filter _ (docE t.ents) = _
  rw [s1,List.filter_append,List.filter_append,filter_all (l := loD _ _) (fun x hx => by
    have := (mem_lo hx).2
    rw [rcmp_anti] at this
    simp;omega),filter_none (l := eqD _ _) (fun x hx => by
    have := List.mem_filter.1 hx
    simpa using this.2),filter_all (l := hiD _ _) (fun x hx => by
    have := (mem_hi hx).2
    simp;omega)]
  unfold putD
  rw [if_pos rfl]
  rfl
def Tr.upd (bx : Nat) (m : Int) : Tr → Tr
  | .nil => .nil
  | .node b e l r h => .node b (if b = bx then { e with many := m } else e) (l.upd bx m) (r.upd bx m) h
theorem Tr.upd_ptr (bx : Nat) (m : Int) (t : Tr) : (t.upd bx m).ptr = t.ptr := by cases t <;> rfl
def updI (bx : Nat) (m : Int) (x : Nat × Ent) : Nat × Ent := if x.1 = bx then (x.1,{ x.2 with many := m }) else x
theorem Tr.upd_items (bx : Nat) (m : Int) : ∀ t : Tr,(t.upd bx m).items = t.items.map (updI bx m)
  | .nil => rfl
  | .node b e l r h => by
    simp only [Tr.upd,Tr.items]
    rw [Tr.upd_items bx m l,Tr.upd_items bx m r,List.map_append,List.map_cons]
    unfold updI
    by_cases c : b = bx
    · simp [c]
    · simp [c]
theorem Tr.upd_ids (bx : Nat) (m : Int) (t : Tr) : (t.upd bx m).ids = t.ids := by
  unfold Tr.ids idsL
  rw [Tr.upd_items,List.map_map]
  apply List.map_congr_left
  intro x _
  show (updI bx m x).1 = x.1
  unfold updI
  split <;> rfl
theorem Tr.upd_size (bx : Nat) (m : Int) (t : Tr) : (t.upd bx m).size = t.size := by unfold Tr.size;rw [Tr.upd_items,List.length_map]
theorem Tr.upd_hok (bx : Nat) (m : Int) : ∀ {t : Tr},t.Hok → (t.upd bx m).Hok
  | .nil,_ => trivial
  | .node b e l r h,⟨h1,h2,hl,hr⟩ => ⟨h1,by rw [Tr.upd_size,Tr.upd_size];exact h2,Tr.upd_hok bx m hl,Tr.upd_hok bx m hr⟩
theorem Tr.In.upd {w : World} {D : Nat → Prop} {bx : Nat} (m : Int) (hD : ¬ D bx) : ∀ {t : Tr},t.In w D → (t.upd bx m).In (w.setCell ⟨bx,1,none⟩ (.int .i64 m)) D
  | .nil,_ => trivial
  | .node b e l r h,⟨h0,he,hl,hr⟩ => by
    have cb : Ch (fun x => x = bx) w (w.setCell ⟨bx,1,none⟩ (.int .i64 m)) := (Ch.refl (fun x => x = bx) w).setCell (p := ⟨bx,1,none⟩) (.inl rfl) _
    refine ⟨?_,?_,Tr.In.upd m hD hl,Tr.In.upd m hD hr⟩
    · by_cases c : b = bx
      · subst c
        rw [if_pos rfl]
        refine blk_put h0 1 _ ?_
        unfold ncells
        rw [Tr.upd_ptr,Tr.upd_ptr]
        rfl
      · rw [if_neg c]
        refine (blk_far h0 (p := ⟨bx,1,none⟩) c _).trans ?_
        unfold ncells
        rw [Tr.upd_ptr,Tr.upd_ptr]
    · have hs := he.step (fun x hx hlt => cb.block x hlt (fun q => hD (q ▸ hx)))
      by_cases c : b = bx
      · rw [if_pos c];exact ⟨hs.cap,hs.row⟩
      · rw [if_neg c];exact hs
theorem NdIn.upd {w : World} {D : Nat → Prop} {t : Tr} {bx : Nat} (m : Int) (h : NdIn w D t) (hb : bx ∈ t.ids) : NdIn (w.setCell ⟨bx,1,none⟩ (.int .i64 m)) D (t.upd bx m) :=
  ⟨h.inn.upd m (fun hd => h.dis bx hd hb),by rw [Tr.upd_ids];exact h.nd,fun x hx => by rw [Tr.upd_ids];exact h.dis x hx⟩
theorem find_parts {α : Type} {p : α → Bool} {l : List α} {x : α} (h : l.find? p = some x) : ∃ a b,l = a ++ x :: b ∧ p x = true := by
  obtain ⟨h1,a,b,e,_⟩ := List.find?_eq_some_iff_append.1 h
  exact ⟨a,b,e,h1⟩
theorem ids_mem {t : Tr} {x : Nat × Ent} (h : x ∈ t.items) : x.1 ∈ t.ids := List.mem_map_of_mem (f := Prod.fst) h
theorem doc_upd {r : Rw} {now : Int} {t : Tr} {bx : Nat} {ex : Ent} (hs : Srt t.ents) (hnd : t.ids.Nodup) (hf : t.items.find? (isRow r) = some (bx,ex)) (he : ex.row = r) (h0 : now ≠ 0) : docT (t.upd bx now) = putD r now (docT t) := by
  obtain ⟨a,b,e1,hp⟩ := find_parts hf
  have hs' : Srt (entsL (a ++ (bx,ex) :: b)) := by rw [← e1];exact hs
  have hn' : (idsL (a ++ (bx,ex) :: b)).Nodup := by rw [← e1];exact hnd
  obtain ⟨s1,s2⟩ := srt_items hs'
  have n1 : ∀ y ∈ a,y.1 ≠ bx := fun y hy q => by
    rw [idsL_app] at hn'
    exact (List.nodup_append.1 hn').2.2 y.1 (List.mem_map_of_mem (f := Prod.fst) hy) bx (by simp [idsL]) q
  have n2 : ∀ y ∈ b,y.1 ≠ bx := fun y hy q => by
    rw [idsL_app] at hn'
    have := (List.nodup_append.1 hn').2.1
    exact (List.nodup_cons.1 (show (bx :: idsL b).Nodup from this)).1 (q ▸ List.mem_map_of_mem (f := Prod.fst) hy)
  have m1 : a.map (updI bx now) = a := by
    conv => rhs;rw [← List.map_id a]
    exact List.map_congr_left (fun y hy => by unfold updI;rw [if_neg (n1 y hy)];rfl)
  have m2 : b.map (updI bx now) = b := by
    conv => rhs;rw [← List.map_id b]
    exact List.map_congr_left (fun y hy => by unfold updI;rw [if_neg (n2 y hy)];rfl)
  have d1 : docT (t.upd bx now) = docE (entsL a) ++ (⟨ex.row,now⟩ : En) :: docE (entsL b) := by
    unfold docT Tr.ents
    rw [Tr.upd_items,e1,List.map_append,List.map_cons,m1,m2,entsL_app]
    unfold updI
    rw [if_pos rfl]
    unfold docE
    rw [List.map_append]
    rfl
  have d2 : docT t = docE (entsL a) ++ (⟨ex.row,ex.many⟩ : En) :: docE (entsL b) := by
    unfold docT Tr.ents
    rw [e1,entsL_app]
    unfold docE
    rw [List.map_append]
    rfl
  have ha : ∀ y ∈ docE (entsL a),rcmp y.f0 r < 0 := fun y hy => by
    unfold docE entsL at hy
    rw [List.map_map] at hy
    obtain ⟨z,hz,rfl⟩ := List.mem_map.1 hy
    have := s1 z hz
    rw [← he];exact this
  have hb : ∀ y ∈ docE (entsL b),rcmp r y.f0 < 0 := fun y hy => by
    unfold docE entsL at hy
    rw [List.map_map] at hy
    obtain ⟨z,hz,rfl⟩ := List.mem_map.1 hy
    have := s2 z hz
    rw [← he];exact this
  rw [d1,d2]
  unfold putD loD hiD
  rw [if_neg h0,List.filter_append,List.filter_append,List.filter_cons,List.filter_cons,filter_all (l := docE (entsL a)) (fun y hy => decide_eq_true (ha y hy)),filter_none (l := docE (entsL b)) (fun y hy => by have := hb y hy;rw [rcmp_anti] at this;exact decide_eq_false (by omega)),filter_none (l := docE (entsL a)) (fun y hy => by have := ha y hy;rw [rcmp_anti] at this;exact decide_eq_false (by omega)),filter_all (l := docE (entsL b)) (fun y hy => decide_eq_true (hb y hy))]
  have z1 : rcmp r r = 0 := rcmp_law.self r
  have z2 : ¬ rcmp r r < 0 := by omega
  simp [he,z2]
theorem fnd_doc (r : Rw) (t : Tr) : fndD r (docT t) = (t.items.find? (isRow r)).map (fun x => ⟨x.2.row,x.2.many⟩) := by
  unfold fndD docT docE Tr.ents entsL
  rw [List.map_map,List.find?_map]
  rfl
theorem many_some {r : Rw} {t : Tr} {x : Nat × Ent} (h : t.items.find? (isRow r) = some x) : manyD r (docT t) = x.2.many := by
  unfold manyD;rw [fnd_doc,h];rfl
theorem many_none {r : Rw} {t : Tr} (h : t.items.find? (isRow r) = none) : manyD r (docT t) = 0 := by
  unfold manyD;rw [fnd_doc,h];rfl
theorem doc_len (t : Tr) : (docT t).length = t.size := by unfold docT docE;rw [List.length_map,Tr.size_ents]
end Go.Proofs.Ythmbfcfomcaaaaa.Z
end
section
namespace Go.Proofs.YthmbfcfomcaaaaaW.PrintMore
set_option linter.unusedVariables false
open Go.RowKit Go.Proofs.YthmbfcfomcaaaaaW.PrintWords Go.Proofs.YthmbfcfomcaaaaaW.PrintLast
section
variable {P : Program} {ops : Array Oper} {Q : Exit → Act → World → Prop} {l n : Nat}
theorem rows_round {row : String} {args : Array Value} {w : World} {R : Value → World → Prop} (h : Rows P row args w R) : RowsIn (Fence.wide.inRound l) n P row args w R := by
  intro c cs _
  obtain ⟨v,w',r,s⟩ := h c cs
  exact ⟨v,w',r,stepsIn_wide.2 s⟩
theorem oper_round {o : Oper} {a : Act} {w : World} {K K' : Act → World → Prop} (hd : ∀ c,o.op ≠ .defer c) (hq : ¬ LetsOut Q) (hk : ∀ a w,K a w → K' a w) (h : o.wp P a w K Q) : o.wpIn (Fence.wide.inRound l) n P a w K' Q := by
  refine ⟨fun f _ => trivial,?_⟩
  show o.uponIn _ _ _ _ _ _ ((o.semAt (some l) a.eval).run P w)
  rw [Oper.semAt_some l a.eval o hd]
  unfold Oper.wp at h
  cases hr : (execOp a.eval o).run P w with
  | ok x w' =>
    rw [hr] at h
    cases x with
    | value v => exact hk _ _ h
    | skip => exact hk _ _ h
    | defer d => exact hk _ _ h
    | enter f args =>
      refine ⟨(fun hh => by cases hh),CallsIn.inRound l (callsIn_wide.2 (Calls.mono h ?_))⟩
      intro e w2 he
      cases e with
      | returned v => exact hk _ _ he
      | panicked c => exact he
      | outgrown => exact he
    | row r args => exact ⟨(fun hh => by cases hh),rows_round (Rows.mono h (fun v w2 he => hk _ _ he))⟩
    | _ => exact h.elim
  | halt x w' =>
    rw [hr] at h
    cases x <;> first | exact h | exact h.elim
theorem any_round {md : Region.Mode} (hd : ∀ (j : Nat) (o : Oper),ops[j]? = some o → ∀ c,o.op ≠ .defer c) (hq : ¬ LetsOut Q) : ∀ (fuel : Nat) (listed : Array Bool) (a : Act) (w : World),wpAny P md ops Q fuel listed a w → wpAnyIn (Fence.wide.inRound l) n P md ops Q fuel listed a w
  | 0,_,_,_,h => h
  | fuel + 1,listed,a,w,h => ⟨h.1,fun i hi => by
      have hw := h.2 i hi
      unfold wpOp at hw
      unfold wpOpIn
      cases ho : ops[i]? with
      | none => rw [ho] at hw;exact any_round hd hq fuel _ a w hw
      | some o =>
        rw [ho] at hw
        show if _ then _ else _
        replace hw : (if Region.wanted o (yielded ops a.tmps) = true then _ else _) := hw
        split
        · rename_i hc
          rw [if_pos hc] at hw
          rcases hw with hw | hw
          · exact oper_round (hd i o ho) hq (fun a w h => any_round hd hq fuel _ a w h) hw
          · exact absurd hw.2 hq
        · rename_i hc
          rw [if_neg hc] at hw
          exact ⟨fun _ _ => trivial,any_round hd hq fuel _ _ w hw⟩⟩
theorem region_round {id : Nat} {a : Act} {w : World} (hm : P.follows .mixedOrders = true) (hd : ∀ (j : Nat) (o : Oper),ops[j]? = some o → ∀ c,o.op ≠ .defer c) (hq : ¬ LetsOut Q)
    (h : wpAny P .any ops Q ops.size (Array.replicate ops.size false) a { w with drawn := w.drawn + 1 }) : (Code.region id ops true).wpIn (Fence.wide.inRound l) n P Q a w :=
  wpIn_region_any hm (any_round hd hq _ _ _ _ h)
def noDefer (ops : Array Oper) : Bool := ops.toList.all fun o => match o.op with | .defer _ => false | _ => true
theorem noDefer_at (h : noDefer ops = true) : ∀ (j : Nat) (o : Oper),ops[j]? = some o → ∀ c,o.op ≠ .defer c := by
  intro j o hj c e
  have hm : o ∈ ops.toList := by
    rw [← Array.getElem?_toList] at hj
    exact List.mem_of_getElem? hj
  have := List.all_eq_true.1 h o hm
  rw [e] at this
  cases this
theorem startR_ {id m : Nat} {S : World → Prop} {ds : List Nat} {a : Act} {w : World} (l_ : Array Bool) (hm : P.follows .mixedOrders = true) (hd : ∀ (j : Nat) (o : Oper),ops[j]? = some o → ∀ c,o.op ≠ .defer c) (hq : ¬ LetsOut Q) (hn : ops.size = m) (hl : Array.replicate m false = l_) (hS : S w.drew)
    (h : S w.drew → wpAnyLast P .any ops Q S ds m l_ a w.drew) : (Code.region id ops true).wpIn (Fence.wide.inRound l) n P Q a w := by
  subst hn
  subst hl
  exact region_round hm hd hq (wpAny_of_last _ _ _ _ (h hS))
end
end Go.Proofs.YthmbfcfomcaaaaaW.PrintMore
end
section
namespace Go.Proofs.Ythmbfcfomcaaaaa.Z
set_option linter.unusedVariables false
set_option linter.unusedSimpArgs false
open Go.RowKit Go.Shelf Go.Proofs.YthmbfcfomcaaaaaW.PrintWords Go.Proofs.YthmbfcfomcaaaaaW.PrintLast Go.Proofs.YthmbfcfomcaaaaaW.PrintMore Go.Proofs.Ythmbfcfomcaaaaa.Cmp
attribute [local go_sem] Oper.semAt_some
theorem yield_any {m : Nat} (m' : Nat) {P : Program} {l : Nat} {args : Array Value} {W : World} {R : Ending → World → Prop} (h : YieldAt Fence.wide m P l args W R) : YieldAt Fence.wide m' P l args W R := by
  obtain ⟨fn,tmps,assign,body,hy,hR⟩ := h
  exact ⟨fn,tmps,assign,body,hy,hR.1,fun c cs _ => hR.2 c cs (room_wide _)⟩
def ptrOf (x : Nat × Ent) : Array Value := #[.pointer (some ⟨x.1,0,none⟩)]
structure InB (n₀ : Nat) (w : World) (D : Nat → Prop) (t : Tr) : Prop where
  inn : t.In w D
  ids : ∀ k ∈ t.ids,k < n₀
  dat : ∀ k,D k → k < n₀
theorem InB.below {n₀ : Nat} {w w1 : World} {D : Nat → Prop} {t : Tr} (h : InB n₀ w D t) (hb : Below n₀ w w1) : InB n₀ w1 D t :=
  ⟨h.inn.step (fun k hk => hb.block k (h.ids k hk)) (fun k hk _ => hb.block k (h.dat k hk)),h.ids,h.dat⟩
theorem InB.left {n₀ : Nat} {w : World} {D : Nat → Prop} {b : Nat} {e : Ent} {l r : Tr} {k : Int} (h : InB n₀ w D (.node b e l r k)) : InB n₀ w D l :=
  ⟨h.inn.2.2.1,fun x hx => h.ids x (by rw [Tr.ids_node];simp [hx]),h.dat⟩
theorem InB.right {n₀ : Nat} {w : World} {D : Nat → Prop} {b : Nat} {e : Ent} {l r : Tr} {k : Int} (h : InB n₀ w D (.node b e l r k)) : InB n₀ w D r :=
  ⟨h.inn.2.2.2,fun x hx => h.ids x (by rw [Tr.ids_node];simp [hx]),h.dat⟩
theorem InB.root {n₀ : Nat} {w : World} {D : Nat → Prop} {b : Nat} {e : Ent} {l r : Tr} {k : Int} (h : InB n₀ w D (.node b e l r k)) : b < n₀ := h.ids b (by rw [Tr.ids_node];simp)
set_option maxRecDepth 100000 in
set_option maxHeartbeats 2000000 in
theorem nd_walk {D : Nat → Prop} (l n₀ N : Nat) (S : Nat × Ent → Prop) (J Jx : List (Nat × Ent) → World → Prop)
    (hY : ∀ m pre x W,J pre W → S x → pre.length < N → YieldAt Fence.wide m Try.prog l (ptrOf x) W fun e W' =>
      (e = .returned (.bool true) ∧ J (pre ++ [x]) W' ∧ Below n₀ W W') ∨ (e = .returned (.bool false) ∧ Jx (pre ++ [x]) W')) (t : Tr) :
    ∀ (n : Nat) (pre : List (Nat × Ent)) (W : World),(∀ y ∈ t.items,S y) → InB n₀ W D t → J pre W → pre.length + t.items.length ≤ N →
      CallsIn Fence.wide n Try.prog 98 #[t.ptr,.func (.yield l) #[] #[]] W fun e W' =>
        (e = .returned (.bool true) ∧ J (pre ++ t.items) W' ∧ Below n₀ W W') ∨ (e = .returned (.bool false) ∧ ∃ q,q <+: t.items ∧ Jx (pre ++ q) W') := by
  induction t with
  | nil =>
    intro n pre W hS ht hJ _
    refine callsIn_of_wp Try.func98 rfl trivial ?_ rfl
    simp only [Tr.ptr,Try.ntmps98,List.size_toArray,List.length_cons,List.length_nil,Nat.reduceAdd,Nat.reduceSub,Array.replicate_succ,Array.replicate_zero,List.push_toArray,List.append_toArray,List.nil_append,List.cons_append]
    have hw98 : Fence.wide.fn 98 := trivial
    gi_wp2
    all_goals first
      | exact absurd ‹some undef = some (Value.bool _)› (by simp [undef])
      | (refine ⟨(fun _ h => by cases h),?_⟩
         gi_wp2
         go_ret
         exact .inl ⟨rfl,by simpa [Tr.items] using hJ,Below.refl _ _⟩)
  | node b e tl tr k ihl ihr =>
    intro n pre W hS ht hJ hN
    have hS0 : S (b,e) := hS _ (by simp [Tr.items])
    have hSl : ∀ y ∈ tl.items,S y := fun y hy => hS y (by simp [Tr.items,hy])
    have hSr : ∀ y ∈ tr.items,S y := fun y hy => hS y (by simp [Tr.items,hy])
    have HSR := Aside0.mk hSr
    have hb := ht.root
    have c2 := blk_cell ht.inn.1 2
    have c3 := blk_cell ht.inn.1 3
    simp only [ncells,List.getElem?_toArray,List.getElem?_cons_zero,List.getElem?_cons_succ] at c2 c3
    have hN2 : pre.length + (tl.items.length + (tr.items.length + 1)) ≤ N := by simpa [Tr.items] using hN
    have hy2 : ∀ W1,J (pre ++ tl.items) W1 → Below n₀ W W1 → YieldAt Fence.wide (n - 1) Try.prog l #[.pointer (some ⟨b,0,none⟩)] W1 fun e' W2 =>
        (e' = .returned (.bool true) ∧ J (pre ++ tl.items ++ [(b,e)]) W2 ∧ Below n₀ W W2 ∧ W2.cell? ⟨b,3,none⟩ = some tr.ptr ∧ InB n₀ W2 D tr) ∨ (e' = .returned (.bool false) ∧ Jx (pre ++ tl.items ++ [(b,e)]) W2) := fun W1 hJ1 hb1 =>
      YieldAt.mono (hY (n - 1) _ (b,e) W1 hJ1 hS0 (by simp;omega)) fun e' W2 h => h.elim
        (fun ⟨he,hj,hb2⟩ => .inl ⟨he,hj,hb1.trans hb2,((hb1.trans hb2).cell (p := ⟨b,3,none⟩) hb).trans c3,ht.right.below (hb1.trans hb2)⟩) .inr
    have ih1 := (ihl (n - 1) pre W hSl ht.left hJ (by omega)).mono (R' := fun e' W1 =>
        (e' = .returned (.bool true) ∧ YieldAt Fence.wide (n - 1) Try.prog l #[.pointer (some ⟨b,0,none⟩)] W1 fun e' W2 =>
          (e' = .returned (.bool true) ∧ J (pre ++ tl.items ++ [(b,e)]) W2 ∧ Below n₀ W W2 ∧ W2.cell? ⟨b,3,none⟩ = some tr.ptr ∧ InB n₀ W2 D tr) ∨ (e' = .returned (.bool false) ∧ Jx (pre ++ tl.items ++ [(b,e)]) W2)) ∨
        (e' = .returned (.bool false) ∧ ∃ q,q <+: tl.items ∧ Jx (pre ++ q) W1))
      (fun e' W1 h => h.elim (fun ⟨he,hj,hb1⟩ => .inl ⟨he,hy2 W1 hj hb1⟩) .inr)
    clear hy2 ihl c3 ht hN hY hS hS0 hSl hSr
    refine callsIn_of_wp Try.func98 rfl trivial ?_ rfl
    simp only [Tr.ptr,Try.ntmps98,List.size_toArray,List.length_cons,List.length_nil,Nat.reduceAdd,Nat.reduceSub,Array.replicate_succ,Array.replicate_zero,List.push_toArray,List.append_toArray,List.nil_append,List.cons_append]
    have hw98 : Fence.wide.fn 98 := trivial
    have hdd : ∀ k : Nat,(Fence.wide.depth.isSome = true → 1 ≤ k) := fun k h => by cases h
    gi_wp2_with (first
      | ((try refine ⟨hdd _,?_⟩);gi_at_call 98;refine ih1.mono ?_;clear ih1;rintro e' W1 (⟨rfl,fn,tmps,assign,body,hy,hR⟩ | ⟨rfl,q,hq,hx1⟩))
      | ((try refine ⟨hdd _,?_⟩);refine hR.mono ?_;clear hR;rintro e' W2 (⟨rfl,hJ2,hb2,c2',hr2⟩ | ⟨rfl,hx2⟩))
      | ((try refine ⟨hdd _,?_⟩);gi_at_call 98;refine (ihr (n - 1) _ _ HSR.out hr2 hJ2 (by simp;omega)).mono ?_;rintro e' W3 (⟨rfl,hJ3,hb3⟩ | ⟨rfl,q,hq,hx3⟩)))
    · go_ret
      exact .inl ⟨rfl,by simpa [Tr.items,List.append_assoc] using hJ3,hb2.trans hb3⟩
    · go_ret
      obtain ⟨r,hr'⟩ := hq
      exact .inr ⟨rfl,tl.items ++ (b,e) :: q,⟨r,by simp [Tr.items,← hr']⟩,by simpa [List.append_assoc] using hx3⟩
    · go_ret
      exact .inr ⟨rfl,tl.items ++ [(b,e)],⟨tr.items,by simp [Tr.items]⟩,by simpa [List.append_assoc] using hx2⟩
    · refine ⟨(fun _ h => by cases h),?_⟩
      gi_wp2
      go_ret
      exact .inr ⟨rfl,q,hq.trans (by simp [Tr.items]),hx1⟩
set_option maxRecDepth 100000 in
set_option maxHeartbeats 2000000 in
theorem nd_all1 {D : Nat → Prop} (n l Bt n₀ : Nat) (t : Tr) (J Jx : List (Nat × Ent) → World → Prop)
    (hY : ∀ pre x W,J pre W → x ∈ t.items → pre.length < t.items.length → YieldAt Fence.wide (n - 1) Try.prog l (ptrOf x) W fun e W' =>
      (e = .returned (.bool true) ∧ J (pre ++ [x]) W' ∧ Below n₀ W W') ∨ (e = .returned (.bool false) ∧ Jx (pre ++ [x]) W'))
    (W : World) (hBt : W.cell? ⟨Bt,0,none⟩ = some t.ptr) (hT : InB n₀ W D t) (h0 : J [] W) :
    CallsIn Fence.wide n Try.prog 97 #[.func (.yield l) #[] #[],.pointer (some ⟨Bt,0,none⟩)] W fun e W' => (∃ v,e = .returned v) ∧
      ((∃ ys,ys = t.items ∧ J ys W') ∨ (∃ pre,pre <+: t.items ∧ Jx pre W')) := by
  have hdd : ∀ k : Nat,(Fence.wide.depth.isSome = true → 1 ≤ k) := fun k h => by cases h
  have hp := nd_walk l n₀ t.items.length (fun x => x ∈ t.items) J Jx (fun m pre x W hj hs hl => yield_any m (hY pre x W hj hs hl)) t (n - 1) [] W (fun _ h => h) hT h0 (by simp)
  have hw98 : Fence.wide.fn 98 := trivial
  obtain ⟨q,hq⟩ := ptr_case t
  rw [hq] at hBt hp
  refine callsIn_of_wp Try.func97 rfl trivial ?_ rfl
  simp only [Try.ntmps97,List.size_toArray,List.length_cons,List.length_nil,Nat.reduceAdd,Nat.reduceSub,Array.replicate_succ,Array.replicate_zero,List.push_toArray,List.append_toArray,List.nil_append,List.cons_append]
  clear hY hq
  gi_wp2_with ((try refine ⟨hdd _,?_⟩);gi_at_call 98;refine hp.mono ?_;clear hp;rintro e W1 (⟨rfl,hJ1,_⟩ | ⟨rfl,q,hq,hx⟩))
  · go_end0
    exact ⟨⟨_,rfl⟩,.inl ⟨_,rfl,by simpa using hJ1⟩⟩
  · go_end0
    exact ⟨⟨_,rfl⟩,.inr ⟨q,hq,by simpa using hx⟩⟩
set_option maxRecDepth 100000 in
set_option maxHeartbeats 1000000 in
theorem nd_all (t : Tr) (w : World) :
    Calls Try.prog 76 #[t.ptr] w fun e w' => e = .returned (.func (.func 97) #[] #[.pointer (some ⟨w.heap.size,0,none⟩)]) ∧ w' = w.alloc (.cells #[t.ptr] 81) := by
  obtain ⟨q,hq⟩ := ptr_case t
  rw [hq]
  clear hq
  go_enter Try.func76,Try.ntmps76
  go_wp2
  go_ret
  exact ⟨rfl,rfl⟩
theorem nd_all_stops {D : Nat → Prop} (n Bt n₀ : Nat) (t : Tr) (w : World) (hBt : Bt < w.heap.size) (hn₀ : n₀ ≤ w.heap.size) (hc : w.cell? ⟨Bt,0,none⟩ = some t.ptr) (hT : InB n₀ w D t) :
    SeqStopsK Fence.wide n Try.prog 97 #[.pointer (some ⟨Bt,0,none⟩)] (fun x : { x : Nat × Ent // x ∈ t.items } => ptrOf x.1) (Below n₀) (fun ys => ys.map Subtype.val = t.items) (fun pre => pre.map Subtype.val <+: t.items) t.items.length w := fun l J Jx W hW _ _ hY h0 => by
  refine (nd_all1 n l Bt n₀ t (fun pre W => ∃ p : List { x : Nat × Ent // x ∈ t.items },p.map Subtype.val = pre ∧ J p W) (fun pre W => ∃ p : List { x : Nat × Ent // x ∈ t.items },p.map Subtype.val = pre ∧ Jx p W) ?_ W ((hW.cell (p := ⟨Bt,0,none⟩) hBt).trans hc) (hT.below (hW.mono hn₀)) ⟨[],rfl,h0⟩).mono ?_
  · rintro pre x W1 ⟨p,rfl,hj⟩ hx hlt
    refine YieldAt.mono (hY p ⟨x,hx⟩ W1 hj (by simpa using hlt)) ?_
    rintro e W2 (⟨he,hj2,hb⟩ | ⟨he,hj2⟩)
    · exact .inl ⟨he,⟨p ++ [⟨x,hx⟩],by simp,hj2⟩,hb⟩
    · exact .inr ⟨he,⟨p ++ [⟨x,hx⟩],by simp,hj2⟩⟩
  · rintro e W2 ⟨he,(⟨ys,rfl,p,hp,hj⟩ | ⟨pre,hpre,p,hp,hj⟩)⟩
    · exact ⟨he,.inl ⟨p,hp,hj⟩⟩
    · exact ⟨he,.inr ⟨p,(by show List.map Subtype.val p <+: t.items;rw [hp];exact hpre),hj⟩⟩
end Go.Proofs.Ythmbfcfomcaaaaa.Z
end
section
namespace Go.Proofs.Ythmbfcfomcaaaaa.Z
open Go.RowKit Go.Proofs.YthmbfcfomcaaaaaW.PrintWords Go.Proofs.YthmbfcfomcaaaaaW.PrintLast Go.Proofs.YthmbfcfomcaaaaaW.PrintMore
attribute [local go_sem] max2_int min2_int max_two min_two max_three min_three max_four min_four
set_option linter.unusedVariables false
set_option linter.unusedSimpArgs false
def bag_few.f (a0 : Int) : Option (Bool) := if a0 ≥ (-1073741824) then (some (decide (a0 ≤ 1073741824))) else (some false)
set_option maxHeartbeats 8000000 in
set_option maxRecDepth 100000 in
theorem bag_few.calls (a0 : Int) (r : Bool) (w : World) (h : bag_few.f a0 = some r) :
    Calls Try.prog 75 #[.int .i64 a0] w fun e w' => e = .returned (.bool r) ∧ Drawn0 w w' := by
  have H : (if a0 ≥ (-1073741824) then (some (decide (a0 ≤ 1073741824))) else (some false)) = some r := h
  clear h
  by_cases c2 : a0 ≥ (-1073741824)
  · rw [if_pos c2] at H
    have c2b0 : decide ((-1073741824) ≤ a0) = true := decide_eq_true c2
    clear c2
    obtain rfl := Option.some.inj H
    go_enter Try.func75,Try.ntmps75
    go_wp2
    go_ret
    exact ⟨by first | rfl | (simp;done) | (simp [*];done),by repeat (first | exact Drawn0.refl _ | apply Drawn0.step)⟩
  · rw [if_neg c2] at H
    have c2b0 : decide ((-1073741824) ≤ a0) = false := decide_eq_false c2
    clear c2
    obtain rfl := Option.some.inj H
    go_enter Try.func75,Try.ntmps75
    go_wp2
    go_ret
    exact ⟨by first | rfl | (simp;done) | (simp [*];done),by repeat (first | exact Drawn0.refl _ | apply Drawn0.step)⟩
end Go.Proofs.Ythmbfcfomcaaaaa.Z
end
section
namespace Go.Proofs.Ythmbfcfomcaaaaa.Z
set_option linter.unusedVariables false
set_option linter.unusedSimpArgs false
open Go.RowKit Go.Proofs.YthmbfcfomcaaaaaW.PrintWords Go.Proofs.YthmbfcfomcaaaaaW.PrintLast Go.Proofs.YthmbfcfomcaaaaaW.PrintMore Go.Proofs.Ythmbfcfomcaaaaa.Cmp
def bcells (t : Tr) : Array Value := #[t.ptr,.int .i64 t.size]
structure BagAt (w : World) (b : Nat) (t : Tr) (D : Nat → Prop) : Prop where
  blk : w.heap[b]? = some (.cells (bcells t) 83 (0,0))
  tree : NdIn w D t
  hok : t.Hok
  srt : Srt t.ents
  ok : OkD (docT t)
  b_ids : b ∉ t.ids
  b_dat : ¬ D b
  dcell : ∀ k,D k → ∃ cs q,w.heap[k]? = some (.cells cs q (0,0))
theorem BagAt.srtD {w : World} {b : Nat} {t : Tr} {D : Nat → Prop} (h : BagAt w b t D) : SrtD (docT t) := srtD_of h.srt
theorem BagAt.lt {w : World} {b : Nat} {t : Tr} {D : Nat → Prop} (h : BagAt w b t D) : b < w.heap.size ∧ (∀ k ∈ t.ids,k < w.heap.size) ∧ ∀ k,D k → k < w.heap.size :=
  ⟨blk_lt h.blk,h.tree.inn.lt,fun k hk => by obtain ⟨cs,q,hc⟩ := h.dcell k hk;exact blk_lt hc⟩
def BagOwn (b : Nat) (t : Tr) (D : Nat → Prop) (k : Nat) : Prop := k = b ∨ k ∈ t.ids ∨ D k
theorem BagAt.keep {w w1 : World} {b : Nat} {t : Tr} {D S : Nat → Prop} (h : BagAt w b t D) (hc : Ch S w w1) (hS : ∀ k,S k → ¬ BagOwn b t D k) : BagAt w1 b t D :=
  ⟨hc.blk h.blk (fun s => hS b s (.inl rfl)),h.tree.keep hc (fun k hk s => hS k s (.inr (.inl hk))) (fun k hk s => hS k s (.inr (.inr hk))),h.hok,h.srt,h.ok,h.b_ids,h.b_dat,fun k hk => by
    obtain ⟨cs,q,hk'⟩ := h.dcell k hk
    exact ⟨cs,q,hc.blk hk' (fun s => hS k s (.inr (.inr hk)))⟩⟩
theorem BagAt.below {w w1 : World} {b : Nat} {t : Tr} {D : Nat → Prop} (h : BagAt w b t D) (hb : Below w.heap.size w w1) : BagAt w1 b t D := h.keep (Ch.of_below (S := fun _ => False) hb) (fun _ hk => hk.elim)
theorem BagAt.heap {w w1 : World} {b : Nat} {t : Tr} {D : Nat → Prop} (h : BagAt w b t D) (e : w1.heap = w.heap) : BagAt w1 b t D :=
  ⟨by rw [e];exact h.blk,h.tree.heap e,h.hok,h.srt,h.ok,h.b_ids,h.b_dat,fun k hk => by rw [e];exact h.dcell k hk⟩
set_option maxHeartbeats 2000000 in
set_option maxRecDepth 100000 in
theorem bag_new (w : World) : Calls Try.prog 15 #[] w fun e w' => e = .returned (.pointer (some ⟨w.heap.size,0,none⟩)) ∧ BagAt w' w.heap.size .nil (fun _ => False) ∧ Below w.heap.size w w' := by
  have h1 := Aside0.mk (blk_new w (Obj.cells (bcells .nil) 83 (0,0)))
  have b1 := Aside0.mk (below_alloc (Below.refl w.heap.size w) (Obj.cells (bcells .nil) 83 (0,0)))
  go_enter Try.func15,Try.ntmps15
  go_wp2
  go_ret
  exact ⟨rfl,⟨h1.out,⟨trivial,List.nodup_nil,fun _ h => h.elim⟩,trivial,List.Pairwise.nil,fun x hx => by simp [docT,docE,Tr.ents_nil] at hx,by simp [Tr.ids_nil],fun h => h,fun _ h => h.elim⟩,b1.out⟩
set_option maxHeartbeats 2000000 in
set_option maxRecDepth 100000 in
theorem bag_many {D : Nat → Prop} (b : Nat) (t : Tr) (A : Option Addr) (c : Nat) (r : Rw) (w : World) (h : BagAt w b t D) (hr : RowC w A c r) :
    Calls Try.prog 18 #[.pointer (some ⟨b,0,none⟩),.slice A r.length c] w fun e w' => e = .returned (.int .i64 (manyD r (docT t))) ∧ Below w.heap.size w w' := by
  have HA := Aside0.mk h
  have FN := Aside0.mk (nd_find t A c r w h.tree.inn h.srt hr)
  have c0 := blk_cell h.blk 0
  simp only [bcells,List.getElem?_toArray,List.getElem?_cons_zero] at c0
  obtain ⟨q,hq⟩ := ptr_case t
  rw [hq] at c0 FN
  obtain ⟨mm,hmm⟩ : ∃ mm,manyD r (docT t) = mm := ⟨_,rfl⟩
  have HM := Aside0.mk hmm
  rw [hmm]
  clear h hr hq hmm
  go_enter Try.func18,Try.ntmps18
  go_wp2_with (fail)
  refine FN.out.mono ?_
  rintro e w1 ⟨rfl,hb⟩
  have HB := Aside0.mk hb
  have HA1 := Aside0.mk (HA.out.below hb)
  clear hb c0 FN
  cases hf : t.items.find? (isRow r) with
  | none =>
    obtain rfl : 0 = mm := by rw [← HM.out];exact (many_none hf).symm
    clear hf
    simp only [adr]
    go_wp2_with (fail)
    go_ret
    exact ⟨rfl,HB.out⟩
  | some x =>
    obtain rfl : x.2.many = mm := by rw [← HM.out];exact (many_some hf).symm
    obtain ⟨l,r',k,hx,_⟩ := HA1.out.tree.inn.node_of x (List.mem_of_find?_eq_some hf)
    have c1 := blk_cell hx 1
    simp only [ncells,List.getElem?_toArray,List.getElem?_cons_zero,List.getElem?_cons_succ] at c1
    clear hf hx
    obtain ⟨bx,ex⟩ := x
    simp only [adr]
    go_wp2_with (fail)
    go_ret
    exact ⟨rfl,HB.out⟩
theorem few_calls (n : Int) (w : World) : Calls Try.prog 75 #[.int .i64 n] w fun e w' => e = .returned (.bool (few n)) ∧ Drawn0 w w' := by
  refine bag_few.calls n (few n) w ?_
  unfold bag_few.f few
  by_cases h : n ≥ -1073741824
  · rw [if_pos h,decide_eq_true (show -1073741824 ≤ n from h)];rfl
  · rw [if_neg h,decide_eq_false (show ¬ -1073741824 ≤ n from h)];rfl
set_option maxHeartbeats 2000000 in
set_option maxRecDepth 100000 in
theorem bag_sum {D : Nat → Prop} (b : Nat) (t : Tr) (A : Option Addr) (c : Nat) (r : Rw) (m : Int) (w : World) (h : BagAt w b t D) (hr : RowC w A c r) :
    Calls Try.prog 60 #[.pointer (some ⟨b,0,none⟩),.slice A r.length c,.int .i64 m] w fun e w' => (∃ n,e = .returned (.tuple #[.int .i64 n,.bool (okAdd r m (docT t))]) ∧ (okAdd r m (docT t) = true → n = manyD r (docT t) + m)) ∧ Below w.heap.size w w' := by
  have MN := Aside0.mk (bag_many b t A c r w h hr)
  obtain ⟨m0,m1⟩ := many_bd (r := r) h.ok
  obtain ⟨k,hk⟩ : ∃ k,manyD r (docT t) = k := ⟨_,rfl⟩
  have OA : okAdd r m (docT t) = (decide (-2147483648 ≤ m) && decide (m ≤ 2147483648) && few (k + m)) := by unfold okAdd;rw [hk]
  rw [hk] at MN m0 m1 ⊢
  rw [OA]
  clear h hr hk OA
  by_cases h1 : m < -2147483648
  · have q1 : decide (m < -2147483648) = true := decide_eq_true h1
    have e1 : decide (-2147483648 ≤ m) = false := decide_eq_false (by omega)
    rw [e1]
    simp only [Bool.false_and]
    clear e1
    go_enter Try.func60,Try.ntmps60
    go_wp2_with (fail)
    refine MN.out.mono ?_
    rintro e w1 ⟨rfl,hb⟩
    have HB := Aside0.mk hb
    clear hb MN
    go_wp2_with (fail)
    go_ret2
    exact ⟨⟨_,rfl,fun h => by cases h⟩,HB.out⟩
  · have q1 : decide (m < -2147483648) = false := decide_eq_false h1
    have e1 : decide (-2147483648 ≤ m) = true := decide_eq_true (by omega)
    have m2 : -2147483648 ≤ m := by omega
    by_cases h2 : 2147483648 < m
    · have q2 : decide (2147483648 < m) = true := decide_eq_true h2
      have e2 : decide (m ≤ 2147483648) = false := decide_eq_false (by omega)
      rw [e1,e2]
      simp only [Bool.true_and,Bool.false_and]
      clear e1 e2
      go_enter Try.func60,Try.ntmps60
      go_wp2_with (fail)
      refine MN.out.mono ?_
      rintro e w1 ⟨rfl,hb⟩
      have HB := Aside0.mk hb
      clear hb MN
      go_wp2_with (fail)
      go_ret2
      exact ⟨⟨_,rfl,fun h => by cases h⟩,HB.out⟩
    · have q2 : decide (2147483648 < m) = false := decide_eq_false h2
      have e2 : decide (m ≤ 2147483648) = true := decide_eq_true (by omega)
      have m3 : m ≤ 2147483648 := by omega
      rw [e1,e2]
      simp only [Bool.true_and]
      clear e1 e2
      have FC := Aside0.mk (few_calls (k + m))
      obtain ⟨fb,hfb⟩ : ∃ fb,few (k + m) = fb := ⟨_,rfl⟩
      rw [hfb] at FC ⊢
      clear hfb
      go_enter Try.func60,Try.ntmps60
      go_wp2_with (fail)
      refine MN.out.mono ?_
      rintro e w1 ⟨rfl,hb⟩
      have HB := Aside0.mk hb
      clear hb MN
      go_wp2_with (fail)
      refine (FC.out w1).mono ?_
      rintro e w2 ⟨rfl,hd⟩
      have HB2 := Aside0.mk (HB.out.trans (hd.below.mono HB.out.size))
      clear hd HB FC
      go_wp2_with (fail)
      go_ret2
      exact ⟨⟨_,rfl,fun _ => rfl⟩,HB2.out⟩
set_option maxHeartbeats 2000000 in
set_option maxRecDepth 100000 in
theorem bag_len {D : Nat → Prop} (b : Nat) (t : Tr) (w : World) (h : BagAt w b t D) :
    Calls Try.prog 33 #[.pointer (some ⟨b,0,none⟩)] w fun e w' => e = .returned (.int .i64 ((docT t).length : Int)) ∧ w = w' := by
  have c1 := blk_cell h.blk 1
  simp only [bcells,List.getElem?_toArray,List.getElem?_cons_zero,List.getElem?_cons_succ] at c1
  rw [← doc_len t] at c1
  obtain ⟨n,hn⟩ : ∃ n,(docT t).length = n := ⟨_,rfl⟩
  rw [hn] at c1 ⊢
  clear h hn
  go_enter Try.func33,Try.ntmps33
  go_wp2
  go_ret
  exact ⟨rfl,rfl⟩
theorem clone_at (A : Option Addr) (c : Nat) (r : Rw) (w : World) (hr : RowC w A c r) (hl : r.length ≤ 1000000) :
    Calls Try.prog 63 #[.slice A r.length c] w fun e w' => ∃ v : Value,e = .returned v ∧ Kd.R k66 66 w' w.heap.size (fun _ => True) v r ∧ Below w.heap.size w w' := by
  refine slices_Clone.calls A c r r w hr.row hr.cap ?_
  unfold slices_Clone.f
  simp only [Option.bind_some,List.length_nil,Nat.zero_add,List.nil_append]
  rw [if_pos (by omega)]
def codeOf : Option En → Int | none => 5 | some _ => 0
def rowOf : Option En → Rw | none => [] | some x => x.f0
def docI (x : Nat × Ent) : En := ⟨x.2.row,x.2.many⟩
theorem right_len {r : Rw} (h : rright r = true) : r.length ≤ 40 := by
  unfold rright at h
  rw [Bool.and_eq_true,decide_eq_true_eq] at h
  exact h.1
theorem OkD.item {t : Tr} (h : OkD (docT t)) {x : Nat × Ent} (hx : x ∈ t.items) : rright x.2.row = true ∧ x.2.many ≠ 0 ∧ -1073741824 ≤ x.2.many ∧ x.2.many ≤ 1073741824 :=
  h ⟨x.2.row,x.2.many⟩ (List.mem_map_of_mem (f := fun e : Ent => (⟨e.row,e.many⟩ : En)) (List.mem_map_of_mem (f := Prod.snd) hx))
set_option maxHeartbeats 2000000 in
set_option maxRecDepth 100000 in
theorem bag_told {D : Nat → Prop} (t : Tr) (o : Option (Nat × Ent)) (ho : ∀ x,o = some x → x ∈ t.items) (w : World) (h : t.In w D) (hk : OkD (docT t)) :
    Calls Try.prog 68 #[.pointer (adr o)] w fun e w' => ∃ v,e = .returned (.tuple #[v,.int .i64 (codeOf (o.map docI))]) ∧ Kd.R k66 66 w' w.heap.size (fun _ => True) v (rowOf (o.map docI)) ∧ Below w.heap.size w w' := by
  cases o with
  | none =>
    simp only [adr,Option.map_none,codeOf,rowOf]
    go_enter Try.func68,Try.ntmps68
    go_wp2
    go_ret2
    exact ⟨_,rfl,Kd.R_nil _ _ _ _ _,Below.refl _ _⟩
  | some x =>
    obtain ⟨l,r',k,hx,he⟩ := h.node_of x (ho x rfl)
    have c0 := blk_cell hx 0
    simp only [ncells,List.getElem?_toArray,List.getElem?_cons_zero] at c0
    have CL := Aside0.mk (clone_at x.2.A x.2.c x.2.row w he.c (by have := right_len (hk.item (ho x rfl)).1;omega))
    obtain ⟨bx,ex⟩ := x
    simp only [adr,Option.map_some,codeOf,rowOf,docI] at c0 CL ⊢
    clear h hk ho hx he
    go_enter Try.func68,Try.ntmps68
    go_wp2_with (fail)
    refine CL.out.mono ?_
    rintro e w1 ⟨v,rfl,hv,hb⟩
    have HV := Aside0.mk hv
    have HB := Aside0.mk hb
    obtain ⟨A1,c1,e1⟩ := Kd.R_slice hv
    clear hv hb CL c0
    subst e1
    go_wp2_with (fail)
    go_ret2
    exact ⟨_,rfl,HV.out,HB.out⟩
theorem head_doc (t : Tr) : t.items.head?.map docI = (docT t).head? := by
  unfold docT docE Tr.ents entsL
  rw [List.map_map,List.head?_map]
  rfl
set_option maxHeartbeats 2000000 in
set_option maxRecDepth 100000 in
theorem bag_least {D : Nat → Prop} (b : Nat) (t : Tr) (w : World) (h : BagAt w b t D) :
    Calls Try.prog 24 #[.pointer (some ⟨b,0,none⟩)] w fun e w' => ∃ v,e = .returned (.tuple #[v,.int .i64 (codeOf (docT t).head?)]) ∧ Kd.R k66 66 w' w.heap.size (fun _ => True) v (rowOf (docT t).head?) ∧ Below w.heap.size w w' := by
  cases t with
  | nil =>
    have c0 := blk_cell h.blk 0
    simp only [bcells,List.getElem?_toArray,List.getElem?_cons_zero,Tr.ptr] at c0
    clear h
    show Calls Try.prog 24 #[.pointer (some ⟨b,0,none⟩)] w fun e w' => ∃ v,e = .returned (.tuple #[v,.int .i64 5]) ∧ Kd.R k66 66 w' w.heap.size (fun _ => True) v [] ∧ Below w.heap.size w w'
    go_enter Try.func24,Try.ntmps24
    go_wp2
    go_ret2
    exact ⟨_,rfl,Kd.R_nil _ _ _ _ _,Below.refl _ _⟩
  | node b' e' l r k =>
    have HA := Aside0.mk h
    have FN := Aside0.mk (nd_first b' e' l r k w h.tree.inn)
    have c0 := blk_cell h.blk 0
    simp only [bcells,List.getElem?_toArray,List.getElem?_cons_zero,Tr.ptr] at c0
    have TD := Aside0.mk (fun w' (hb : Below w.heap.size w w') => bag_told (.node b' e' l r k) (Tr.node b' e' l r k).items.head? (fun x hx => by first | exact List.mem_of_mem_head? hx | exact List.mem_of_getLast? hx) w' (h.tree.inn.below hb) h.ok)
    rw [head_doc] at TD
    obtain ⟨o,ho⟩ : ∃ o,(docT (.node b' e' l r k)).head? = o := ⟨_,rfl⟩
    obtain ⟨pp,hpp⟩ : ∃ pp,adr (Tr.node b' e' l r k).items.head? = pp := ⟨_,rfl⟩
    rw [ho] at TD ⊢
    rw [hpp] at TD FN
    obtain ⟨cc,hcc⟩ : ∃ cc,codeOf o = cc := ⟨_,rfl⟩
    rw [hcc] at TD ⊢
    clear h ho hpp hcc
    go_enter Try.func24,Try.ntmps24
    go_wp2_with (fail)
    refine FN.out.mono ?_
    rintro e w1 ⟨rfl,hb⟩
    have TD1 := Aside0.mk (TD.out w1 hb)
    have HB := Aside0.mk hb
    clear hb c0 FN TD
    go_wp2_with (fail)
    refine TD1.out.mono ?_
    rintro e w2 ⟨v,rfl,hv,hb⟩
    have HV := Aside0.mk (Kd.R_lower hv HB.out.size)
    have HB2 := Aside0.mk (HB.out.trans (hb.mono HB.out.size))
    obtain ⟨A1,c1,e1⟩ := Kd.R_slice hv
    clear hv hb TD1 HB
    subst e1
    go_wp2_with (fail)
    go_ret2
    exact ⟨_,rfl,HV.out,HB2.out⟩
end Go.Proofs.Ythmbfcfomcaaaaa.Z
end
section
namespace Go.Proofs.Ythmbfcfomcaaaaa.Z
set_option linter.unusedVariables false
set_option linter.unusedSimpArgs false
open Go.RowKit Go.Proofs.YthmbfcfomcaaaaaW.PrintWords Go.Proofs.YthmbfcfomcaaaaaW.PrintLast Go.Proofs.YthmbfcfomcaaaaaW.PrintMore Go.Proofs.Ythmbfcfomcaaaaa.Cmp
structure BagCh (w w' : World) (b : Nat) (t t' : Tr) (D D' : Nat → Prop) : Prop where
  ch : Ch (fun k => k = b ∨ k ∈ t.ids) w w'
  ids : ∀ k ∈ t'.ids,k ∈ t.ids ∨ w.heap.size ≤ k
  dat : ∀ k,D' k → D k ∨ w.heap.size ≤ k
theorem BagCh.same {w w' : World} {b : Nat} {t : Tr} {D : Nat → Prop} (h : Below w.heap.size w w') : BagCh w w' b t t D D := ⟨Ch.of_below h,fun _ h => .inl h,fun _ h => .inl h⟩
theorem BagCh.own {w w' : World} {b : Nat} {t t' : Tr} {D D' : Nat → Prop} (h : BagCh w w' b t t' D D') : ∀ k,BagOwn b t' D' k → BagOwn b t D k ∨ w.heap.size ≤ k := fun k hk => by
  rcases hk with q | q | q
  · exact .inl (.inl q)
  · exact (h.ids k q).imp (fun q => .inr (.inl q)) id
  · exact (h.dat k q).imp (fun q => .inr (.inr q)) id
theorem right_at (A : Option Addr) (c : Nat) (r : Rw) (w : World) (hr : RowC w A c r) : Calls Try.prog 59 #[.slice A r.length c] w fun e w' => e = .returned (.bool (rright r)) ∧ Below w.heap.size w w' :=
  row_Right.calls 41 A c r (rright r) w hr.row hr.cap (rright_f r 41 (by omega))
theorem add_right {r : Rw} {m : Int} {L : List En} (h : rright r = true) : addD r m L = if okAdd r m L = true then (0,putD r (manyD r L + m) L) else (10,L) := by unfold addD;rw [if_pos h]
theorem BagAt.root {w w1 : World} {b : Nat} {t t' : Tr} {D D' : Nat → Prop} (h : BagAt w b t D) (hb : w1.heap[b]? = some (.cells (bcells t) 83 (0,0))) (ht : NdIn w1 D' t') (hok : t'.Hok) (hd : SrtD (docT t')) (ho : OkD (docT t')) (hi : b ∉ t'.ids) (hbd : ¬ D' b) (hdc : ∀ k,D' k → ∃ cs q,w1.heap[k]? = some (.cells cs q (0,0))) :
    BagAt ((w1.setCell ⟨b,0,none⟩ t'.ptr).setCell ⟨b,1,none⟩ (.int .i64 t'.size)) b t' D' ∧ Ch (fun k => k = b) w1 ((w1.setCell ⟨b,0,none⟩ t'.ptr).setCell ⟨b,1,none⟩ (.int .i64 t'.size)) := by
  have cb : Ch (fun x => x = b) w1 ((w1.setCell ⟨b,0,none⟩ t'.ptr).setCell ⟨b,1,none⟩ (.int .i64 t'.size)) := ((Ch.refl (fun x => x = b) w1).setCell (p := ⟨b,0,none⟩) (.inl rfl) _).setCell (p := ⟨b,1,none⟩) (.inl rfl) _
  refine ⟨⟨blk_put (blk_put (cs' := #[t'.ptr,.int .i64 t.size]) hb 0 _ rfl) 1 _ rfl,ht.keep cb (fun k hk q => hi (q ▸ hk)) (fun k hk q => hbd (q ▸ hk)),hok,srt_of hd,ho,hi,hbd,fun k hk => ?_⟩,cb⟩
  obtain ⟨cs,q,hc⟩ := hdc k hk
  exact ⟨cs,q,cb.blk hc (fun s => hbd (s ▸ hk))⟩
theorem putD_len (r : Rw) (now : Int) {L : List En} (h : SrtD L) : (putD r now L).length + (fndD r L).toList.length = L.length + (if now = 0 then 0 else 1) := by
  obtain ⟨s1,s2⟩ := srt_split r h
  have e1 := congrArg List.length s1
  have e2 := congrArg List.length s2
  rw [List.length_append,List.length_append] at e1
  unfold putD
  rw [List.length_append,List.length_append]
  split <;> simp at * <;> omega
def NewD (w w1 : World) (k : Nat) : Prop := w.heap.size ≤ k ∧ ∃ cs q,w1.heap[k]? = some (.cells cs q (0,0))
theorem clone_dat {w w1 : World} {A1 : Option Addr} {c1 : Nat} {r : Rw} (m : Int) (hv : Kd.R k66 66 w1 w.heap.size (fun _ => True) (.slice A1 r.length c1) r) : EntIn w1 (NewD w w1) ⟨A1,c1,r,m⟩ :=
  ⟨(Kd.R_reads' hv).2.1,Kd.F_mono (Kd.R_F (Kd.R_bound hv)) (fun k hk => ⟨hk.2.1,by obtain ⟨q,_,cs,hc⟩ := hk.2.2.2;exact ⟨cs,q,hc⟩⟩)⟩
def OrD (D E : Nat → Prop) (k : Nat) : Prop := D k ∨ E k
theorem NdIn.more {w w1 : World} {D : Nat → Prop} {t : Tr} (h : NdIn w1 D t) (hl : ∀ k ∈ t.ids,k < w.heap.size) : NdIn w1 (OrD D (NewD w w1)) t :=
  ⟨h.inn.mono (fun k hk => .inl hk),h.nd,fun k hk hm => hk.elim (fun q => h.dis k q hm) (fun q => by have := hl k hm;have := q.1;omega)⟩
theorem put_at {w w1 : World} {b : Nat} {t : Tr} {D : Nat → Prop} {A1 : Option Addr} {c1 : Nat} {r : Rw} {m : Int} (h : BagAt w b t D) (hb : Below w.heap.size w w1) (hs : t.size ≤ 300000000000000000)
    (hv : Kd.R k66 66 w1 w.heap.size (fun _ => True) (.slice A1 r.length c1) r) :
    Calls Try.prog 62 #[t.ptr,.agg #[.slice A1 r.length c1,.int .i64 m]] w1 fun e' w' => ∃ t',e' = .returned t'.ptr ∧ Put w1 (OrD D (NewD w w1)) ⟨A1,c1,r,m⟩ t t' w' :=
  nd_put ⟨A1,c1,r,m⟩ t w1 ((h.below hb).tree.more h.lt.2.1) h.hok (by omega) ((clone_dat m hv).mono (fun k hk => .inr hk)) (fun k hk => hk.elim (fun q => Nat.lt_of_lt_of_le (h.lt.2.2 k q) hb.size) (fun q => by obtain ⟨cs,q',hc⟩ := q.2;exact blk_lt hc))
theorem putD0_ok {r : Rw} {L : List En} (h : OkD L) : OkD (putD r 0 L) := by
  intro x hx
  unfold putD at hx
  rw [if_pos rfl,List.append_nil] at hx
  rcases List.mem_append.1 hx with q | q
  · exact h x (mem_lo q).1
  · exact h x (mem_hi q).1
theorem there_of {r : Rw} {t : Tr} {x : Nat × Ent} (h : t.items.find? (isRow r) = some x) : ∃ y ∈ t.ents,rcmp r y.row = 0 := by
  refine ⟨x.2,List.mem_map_of_mem (f := Prod.snd) (List.mem_of_find?_eq_some h),?_⟩
  have := List.find?_some h
  unfold isRow at this
  exact of_decide_eq_true this
set_option maxHeartbeats 4000000 in
set_option maxRecDepth 100000 in
theorem bag_add {D : Nat → Prop} (b : Nat) (t : Tr) (A : Option Addr) (c : Nat) (r : Rw) (m : Int) (w : World) (h : BagAt w b t D) (hr : RowC w A c r) (hs : t.size ≤ 300000000000000000) :
    Calls Try.prog 16 #[.pointer (some ⟨b,0,none⟩),.slice A r.length c,.int .i64 m] w fun e w' => ∃ t' D',e = .returned (.int .i64 (addD r m (docT t)).1) ∧ docT t' = (addD r m (docT t)).2 ∧ BagAt w' b t' D' ∧ BagCh w w' b t t' D D' := by
  have HA := Aside0.mk h
  have HR := Aside0.mk hr
  have HS := Aside0.mk hs
  have RT := Aside0.mk (right_at A c r w hr)
  by_cases hrt : rright r = true
  · have HT := Aside0.mk hrt
    rw [hrt] at RT
    rw [add_right hrt]
    obtain ⟨n,hn⟩ : ∃ n,manyD r (docT t) + m = n := ⟨_,rfl⟩
    have HN := Aside0.mk hn
    rw [hn]
    have c0 := blk_cell h.blk 0
    simp only [bcells,List.getElem?_toArray,List.getElem?_cons_zero] at c0
    obtain ⟨q0,hq0⟩ := ptr_case t
    have HQ0 := Aside0.mk hq0
    rw [hq0] at c0
    clear h hr hs hrt hn hq0
    by_cases hok : okAdd r m (docT t) = true
    · have OK := Aside0.mk hok
      rw [if_pos hok]
      clear hok
      go_enter Try.func16,Try.ntmps16
      go_wp2_with (fail)
      refine RT.out.mono ?_
      rintro e w1 ⟨rfl,hb⟩
      have HB := Aside0.mk hb
      have HA1 := Aside0.mk (HA.out.below hb)
      have HR1 := Aside0.mk (HR.out.below hb)
      replace c0 := (hb.cell (World.block_lt_of_cell? w _ c0)).trans c0
      clear hb RT
      go_wp2_with (fail)
      refine (bag_sum b t A c r m w1 HA1.out HR1.out).mono ?_
      rintro e w2 ⟨⟨n',rfl,hn'⟩,hb⟩
      obtain rfl : n = n' := ((hn' OK.out).trans HN.out).symm
      rw [OK.out]
      have HB2 := Aside0.mk (HB.out.trans (hb.mono HB.out.size))
      have HA2 := Aside0.mk (HA1.out.below hb)
      have HR2 := Aside0.mk (HR1.out.below hb)
      replace c0 := (hb.cell (World.block_lt_of_cell? w1 _ c0)).trans c0
      clear hb hn' HB HA1 HR1
      go_wp2_with (fail)
      have FN := Aside0.mk (nd_find t A c r w2 HA2.out.tree.inn HA2.out.srt HR2.out)
      rw [HQ0.out] at FN
      refine FN.out.mono ?_
      rintro e w3 ⟨rfl,hb⟩
      have HB3 := Aside0.mk (HB2.out.trans (hb.mono HB2.out.size))
      have HA3 := Aside0.mk (HA2.out.below hb)
      have HR3 := Aside0.mk (HR2.out.below hb)
      replace c0 := (hb.cell (World.block_lt_of_cell? w2 _ c0)).trans c0
      clear hb HB2 HA2 HR2 FN
      obtain ⟨ff,hff⟩ : ∃ ff,t.items.find? (isRow r) = ff := ⟨_,rfl⟩
      have HF := Aside0.mk hff
      rw [hff]
      clear hff
      by_cases hn0 : n = 0
      · have q1 : (n != 0) = false := by simp [hn0]
        have q2 : (n == 0) = true := by simp [hn0]
        cases ff with
        | none =>
          simp only [adr]
          go_wp2_with (fail)
          go_ret
          have hz := HN.out
          rw [many_none HF.out] at hz
          have e1 : putD r n (docT t) = docT t := by
            obtain ⟨s1,s2⟩ := srt_split r HA.out.srtD
            rw [fnd_doc,HF.out] at s2
            unfold putD
            rw [if_pos hn0]
            conv => rhs;rw [s1,s2]
            rfl
          exact ⟨t,D,rfl,e1.symm,HA3.out,BagCh.same HB3.out⟩
        | some x =>
          simp only [adr]
          have hs2 := HS.out
          have TH := Aside0.mk (there_of HF.out)
          have DR := Aside0.mk (nd_drop t w3 A c r HA3.out.tree HA3.out.hok (by omega) HA3.out.srt HR3.out TH.out)
          rw [HQ0.out] at DR
          go_wp2_with (fail)
          refine DR.out.mono ?_
          rintro e w4 ⟨t',rfl,hp⟩
          have PT := Aside0.mk hp
          have K4 : w4.heap[b]? = some (.cells (bcells t) 83 (0,0)) := hp.ch.blk HA3.out.blk HA3.out.b_ids
          have B4 := Aside0.mk K4
          have z0 := blk_frozen K4 0
          have z1 := blk_frozen K4 1
          have y0 := blk_cell K4 0
          have y1 := blk_cell K4 1
          simp only [bcells,List.getElem?_toArray,List.getElem?_cons_zero,List.getElem?_cons_succ] at y0 y1
          rw [HQ0.out] at y0
          obtain ⟨q1',hq1⟩ := ptr_case t'
          have HQ1 := Aside0.mk hq1
          rw [hq1]
          clear hp K4 hq1 c0 DR
          go_wp2_with (fail)
          go_ret
          have hd := doc_drop HA3.out.srt PT.out.ents
          have hl := putD_len r 0 HA3.out.srtD
          rw [← hd,doc_len,doc_len,fnd_doc,HF.out] at hl
          have es : ((t.size : Int) - 1) = (t'.size : Int) := by simp at hl;omega
          rw [es,← HQ1.out]
          have hdc : ∀ k,D k → ∃ cs q,w4.heap[k]? = some (.cells cs q (0,0)) := by
            intro k hk
            obtain ⟨cs,q,hc⟩ := HA3.out.dcell k hk
            exact ⟨cs,q,PT.out.ch.blk hc (fun hm => HA3.out.tree.dis k hk hm)⟩
          obtain ⟨g1,g2⟩ := HA3.out.root B4.out PT.out.inn PT.out.hok (by rw [hd];exact putD_srt HA3.out.srtD) (by rw [hd];exact putD0_ok HA3.out.ok) (fun hm => HA3.out.b_ids (PT.out.sub b hm)) HA3.out.b_dat hdc
          refine ⟨t',D,rfl,by rw [hd,hn0],g1,((Ch.of_below (S := fun k => k = b ∨ k ∈ t.ids) HB3.out).then_ PT.out.ch (fun k hk => .inl (.inr hk))).then_ g2 (fun k hk => .inl (.inl hk)),fun k hk => .inl (PT.out.sub k hk),fun k hk => .inl hk⟩
      · have q1 : (n != 0) = true := by simp [hn0]
        have q2 : (n == 0) = false := by simp [hn0]
        cases ff with
        | none =>
          simp only [adr]
          have hs2 := HS.out
          go_wp2_with (fail)
          have CL := Aside0.mk (clone_at A c r w3.drew ((HR3.out.below (w1 := w3.drew) (below_drew1 (Below.refl _ _)))) (by have := right_len HT.out;omega))
          have HA4 := Aside0.mk (HA3.out.heap (w1 := w3.drew) rfl)
          have HB4 := Aside0.mk (below_drew1 HB3.out)
          go_region_with (first | (go_at_call 63;(with_reducible refine CL.out.mono ?_);rintro e w5 ⟨v,rfl,hv,hb⟩;replace c0 := (hb.cell (World.block_lt_of_cell? _ _ c0)).trans c0;have HV := Aside0.mk hv;have HB5 := Aside0.mk hb;obtain ⟨A1,c1,e1⟩ := Kd.R_slice hv;clear hv hb;subst e1) | (go_at_call 62;(have PP := put_at (m := n) HA4.out HB5.out HS.out HV.out;rw [HQ0.out] at PP;refine PP.mono ?_);clear PP;rintro e w6 ⟨t',rfl,hp⟩;have PT := Aside0.mk hp;have K6 := hp.ch.blk (HA4.out.below HB5.out).blk HA4.out.b_ids;have B6 := Aside0.mk K6;have z0 := blk_frozen K6 0;have z1 := blk_frozen K6 1;have y0 := blk_cell K6 0;have y1 := blk_cell K6 1;simp only [bcells,List.getElem?_toArray,List.getElem?_cons_zero,List.getElem?_cons_succ] at y0 y1;rw [HQ0.out] at y0;obtain ⟨q1',hq1⟩ := ptr_case t';have HQ1 := Aside0.mk hq1;rw [hq1];clear hp K6 hq1 c0))
          all_goals
            go_wp2_with (fail)
            go_ret
            have hd : docT t' = putD r n (docT t) := by
              obtain ⟨g,_,hi⟩ := PT.out.items
              exact doc_put g _ HA3.out.srt (by rw [fnd_doc,HF.out];rfl) hn0 hi
            have hl := putD_len r n HA3.out.srtD
            rw [← hd,doc_len,doc_len,fnd_doc,HF.out,if_neg hn0] at hl
            have es : ((t.size : Int) + 1) = (t'.size : Int) := by simp at hl;omega
            rw [es,← HQ1.out]
            have hfew : few n = true := by
              have := OK.out
              unfold okAdd at this
              rw [Bool.and_eq_true,HN.out] at this
              exact this.2
            have hdc : ∀ k,OrD D (NewD w3.drew w5) k → ∃ cs q,w6.heap[k]? = some (.cells cs q (0,0)) := by
              intro k hk
              have hnt : k ∉ t.ids := fun hm => hk.elim (fun q => HA3.out.tree.dis k q hm) (fun q => by have h1 := HA4.out.lt.2.1 k hm;have h2 := q.1;omega)
              rcases hk with q | q
              · obtain ⟨cs,q',hc⟩ := (HA4.out.below HB5.out).dcell k q
                exact ⟨cs,q',PT.out.ch.blk hc hnt⟩
              · obtain ⟨cs,q',hc⟩ := q.2
                exact ⟨cs,q',PT.out.ch.blk hc hnt⟩
            have hb5 : w3.drew.heap.size ≤ w5.heap.size := HB5.out.size
            have hb4 : b < w3.drew.heap.size := HA4.out.lt.1
            have hb3 : w.heap.size ≤ w3.drew.heap.size := HB4.out.size
            obtain ⟨g1,g2⟩ := HA3.out.root B6.out PT.out.inn PT.out.hok (by rw [hd];exact putD_srt HA3.out.srtD) (by rw [hd];exact putD_ok HA3.out.ok HT.out hfew) (fun hm => (put_sub PT.out b hm).elim HA3.out.b_ids (fun q => by omega)) (fun hk => hk.elim HA3.out.b_dat (fun q => by have := q.1;omega)) hdc
            have hC : Ch (fun k => k = b ∨ k ∈ t.ids) w w6 := ((Ch.of_below HB4.out).below HB5.out).then_ PT.out.ch (fun k hk => .inl (.inr hk))
            have FIN : BagCh w _ b t t' D (OrD D (NewD w3.drew w5)) := ⟨hC.then_ g2 (fun k hk => .inl (.inl hk)),fun k hk => (put_sub PT.out k hk).imp id (fun q => by omega),fun k hk => hk.imp id (fun q => by have := q.1;omega)⟩
            first
              | exact ⟨t',_,rfl,hd,g1,FIN⟩
              | exact ⟨rfl,t',_,hd,g1,FIN⟩
        | some x =>
          obtain ⟨l,r',k,hx,_⟩ := HA3.out.tree.inn.node_of x (List.mem_of_find?_eq_some HF.out)
          have z1 := blk_frozen hx 1
          have y1 := blk_cell hx 1
          simp only [ncells,List.getElem?_toArray,List.getElem?_cons_zero,List.getElem?_cons_succ] at y1
          clear hx
          obtain ⟨bx,ex⟩ := x
          simp only [adr] at z1 y1 ⊢
          go_wp2_with (fail)
          go_ret
          have hm := List.mem_of_find?_eq_some HF.out
          have hrow : ex.row = r := by
            have h1 := List.find?_some HF.out
            unfold isRow at h1
            exact (rright_eq HT.out (HA3.out.ok.item hm).1 (of_decide_eq_true h1)).symm
          have hd := doc_upd HA3.out.srt HA3.out.tree.nd HF.out hrow hn0
          have hbx : bx ∈ t.ids := ids_mem hm
          have cb : Ch (fun x => x = bx) w3 (w3.setCell ⟨bx,1,none⟩ (.int .i64 n)) := (Ch.refl (fun x => x = bx) w3).setCell (p := ⟨bx,1,none⟩) (.inl rfl) _
          have hfew : few n = true := by
            have := OK.out
            unfold okAdd at this
            rw [Bool.and_eq_true,HN.out] at this
            exact this.2
          have f1 : (w3.setCell ⟨bx,1,none⟩ (.int .i64 n)).heap[b]? = some (.cells (bcells (t.upd bx n)) 83 (0,0)) := by
            refine (cb.blk HA3.out.blk (fun q => HA3.out.b_ids (q ▸ hbx))).trans ?_
            unfold bcells
            rw [Tr.upd_ptr,Tr.upd_size]
          have f2 : ∀ k,D k → ∃ cs q,(w3.setCell ⟨bx,1,none⟩ (.int .i64 n)).heap[k]? = some (.cells cs q (0,0)) := by
            intro k hk
            obtain ⟨cs,q,hc⟩ := HA3.out.dcell k hk
            exact ⟨cs,q,cb.blk hc (fun q => HA3.out.tree.dis k hk (q ▸ hbx))⟩
          have g1 : BagAt (w3.setCell ⟨bx,1,none⟩ (.int .i64 n)) b (t.upd bx n) D := ⟨f1,HA3.out.tree.upd n hbx,Tr.upd_hok bx n HA3.out.hok,srt_of (by show SrtD (docT _);rw [hd];exact putD_srt HA3.out.srtD),by rw [hd];exact putD_ok HA3.out.ok HT.out hfew,by rw [Tr.upd_ids];exact HA3.out.b_ids,HA3.out.b_dat,f2⟩
          have FIN : BagCh w (w3.setCell ⟨bx,1,none⟩ (.int .i64 n)) b t (t.upd bx n) D D := ⟨(Ch.of_below (S := fun k => k = b ∨ k ∈ t.ids) HB3.out).then_ cb (fun k hk => .inl (.inr (hk ▸ hbx))),fun k hk => .inl (by rwa [Tr.upd_ids] at hk),fun k hk => .inl hk⟩
          first
            | exact ⟨_,_,rfl,hd,g1,FIN⟩
            | exact ⟨rfl,_,_,hd,g1,FIN⟩
            | exact ⟨rfl,_,hd,_,g1,FIN⟩
    · have OK := Aside0.mk (show okAdd r m (docT t) = false by simpa using hok)
      rw [if_neg hok]
      clear hok
      go_enter Try.func16,Try.ntmps16
      go_wp2_with (fail)
      refine RT.out.mono ?_
      rintro e w1 ⟨rfl,hb⟩
      have HB := Aside0.mk hb
      have HA1 := Aside0.mk (HA.out.below hb)
      have HR1 := Aside0.mk (HR.out.below hb)
      replace c0 := (hb.cell (World.block_lt_of_cell? w _ c0)).trans c0
      clear hb RT
      go_wp2_with (fail)
      refine (bag_sum b t A c r m w1 HA1.out HR1.out).mono ?_
      rintro e w2 ⟨⟨n',rfl,_⟩,hb⟩
      rw [OK.out]
      have HB2 := Aside0.mk (HB.out.trans (hb.mono HB.out.size))
      have HA2 := Aside0.mk (HA1.out.below hb)
      have HR2 := Aside0.mk (HR1.out.below hb)
      replace c0 := (hb.cell (World.block_lt_of_cell? w1 _ c0)).trans c0
      clear hb HB HA1 HR1
      go_wp2_with (fail)
      have FN := Aside0.mk (nd_find t A c r w2 HA2.out.tree.inn HA2.out.srt HR2.out)
      rw [HQ0.out] at FN
      refine FN.out.mono ?_
      rintro e w3 ⟨rfl,hb⟩
      have HB3 := Aside0.mk (HB2.out.trans (hb.mono HB2.out.size))
      have HA3 := Aside0.mk (HA2.out.below hb)
      clear hb HB2 HA2 HR2 FN c0
      go_wp2_with (fail)
      go_ret
      exact ⟨t,D,rfl,rfl,HA3.out,BagCh.same HB3.out⟩
  · have hrf : rright r = false := by simpa using hrt
    rw [hrf] at RT
    have e1 : addD r m (docT t) = (2,docT t) := by unfold addD;rw [if_neg hrt]
    rw [e1]
    clear hrt hrf e1 h hr hs
    go_enter Try.func16,Try.ntmps16
    go_wp2_with (fail)
    refine RT.out.mono ?_
    rintro e w1 ⟨rfl,hb⟩
    have HB := Aside0.mk hb
    have HA1 := Aside0.mk (HA.out.below hb)
    clear hb RT
    go_wp2_with (fail)
    go_ret
    exact ⟨t,D,rfl,rfl,HA1.out,BagCh.same HB.out⟩
end Go.Proofs.Ythmbfcfomcaaaaa.Z
end
section
namespace Go.Proofs.Ythmbfcfomcaaaaa.Z
open Go.RowKit Go.Proofs.YthmbfcfomcaaaaaW.PrintWords Go.Proofs.YthmbfcfomcaaaaaW.PrintLast Go.Proofs.YthmbfcfomcaaaaaW.PrintMore
attribute [local go_sem] max2_int min2_int max_two min_two max_three min_three max_four min_four
set_option linter.unusedVariables false
set_option linter.unusedSimpArgs false
def verdererref02_Same.f (k : Nat) (l0 : List (S66)) (l1 : List (S66)) : Option (Bool) := (verdererref02_Compare.f k l0 l1).bind fun t162 => (some (t162 == 0))
theorem verdererref02_Same.mono : ∀ a0 a1 k,LeO (verdererref02_Same.f k a0 a1) (verdererref02_Same.f (k + 1) a0 a1) := by
  intro a0 a1 k
  unfold verdererref02_Same.f
  repeat' first
      | (with_reducible exact verdererref02_Compare.mono _ _ _)
      | (with_reducible exact LeO.refl _)
      | (with_reducible exact LeO.none _)
      | (with_reducible refine LeO.ite ?_ ?_)
      | (with_reducible refine LeO.bind ?_ (fun _ => ?_))
      | exact verdererref02_Compare.mono _ _ _
      | exact LeO.none _
      | refine LeO.ite ?_ ?_
      | refine LeO.bind ?_ (fun _ => ?_)
set_option maxHeartbeats 8000000 in
set_option maxRecDepth 100000 in
theorem verdererref02_Same.calls (k : Nat) (A0 : Option Addr) (c0 : Nat) (l0 : List (S66)) (A1 : Option Addr) (c1 : Nat) (l1 : List (S66)) (r : Bool) (w : World) (hr0 : Kd.C k66 w A0 l0.length l0) (hc0 : l0.length ≤ c0) (hr1 : Kd.C k66 w A1 l1.length l1) (hc1 : l1.length ≤ c1) (h : verdererref02_Same.f k l0 l1 = some r) :
    Calls Try.prog 84 #[.slice A0 l0.length c0,.slice A1 l1.length c1] w fun e w' => e = .returned (.bool r) ∧ Below w.heap.size w w' := by
  have HR0 := Aside0.mk hr0
  have HC0 := Aside0.mk hc0
  clear hr0 hc0
  have HR1 := Aside0.mk hr1
  have HC1 := Aside0.mk hc1
  clear hr1 hc1
  have HB := Aside0.mk (Below.refl w.heap.size w)
  have H : ((verdererref02_Compare.f k l0 l1).bind fun t162 => (some (t162 == 0))) = some r := h
  clear h
  replace H := Option.bind_eq_some_iff.mp H
  obtain ⟨t162,A30,H⟩ := H
  replace H : (some (t162 == 0)) = some r := H
  have A3 := Aside0.mk A30
  clear A30
  obtain rfl := Option.some.inj H
  go_enter Try.func84,Try.ntmps84
  go_wp2_with (first | ((with_reducible refine gate_callee (f := 96) rfl ?_);refine goesL_ (some 7) rfl rfl Try.func96 (by kernel_rfl) rfl #[.slice A0 l0.length c0,.slice A1 l1.length c1] rfl (by (try simp only [List.map_toArray,List.map_cons,List.map_nil]);first | done | rfl | (simp only [List.length_drop,List.length_take];rfl)) ?_;(with_reducible refine (verdererref02_Compare.calls k _ _ l0 _ _ l1 t162 _ ?side1 ?side2 ?side3 ?side4 A3.out).mono ?_);(case side1 => repeat (first | exact HR0.out | (with_reducible refine Kd.C_alloc ?_ _) | (with_reducible refine Kd.C_drewN ?_ _) | (with_reducible refine Kd.C_drew ?_)));(case side2 => exact HC0.out);(case side3 => repeat (first | exact HR1.out | (with_reducible refine Kd.C_alloc ?_ _) | (with_reducible refine Kd.C_drewN ?_ _) | (with_reducible refine Kd.C_drew ?_)));(case side4 => exact HC1.out);rintro e w4 ⟨rfl,hb⟩;refine ⟨_,rfl,?_⟩;have n0_ := Aside0.mk (below_step (by repeat (first | (with_reducible first | exact HB.out | apply below_alloc | apply pw_below_drewN | apply below_drew1) | exact HB.out)) hb);clear HB;have HB := n0_;clear n0_;(try clear hb);(try clear hb2);(try clear hk);(try clear hi)))
  go_ret
  exact ⟨by first | rfl | (simp [errW_none,errW_some] <;> rfl) | (simp [*,errW_none,errW_some] <;> rfl),by repeat (first | (with_reducible first | exact HB.out | apply below_alloc | apply pw_below_drewN | apply below_drew1) | exact HB.out)⟩
end Go.Proofs.Ythmbfcfomcaaaaa.Z
end
section
namespace Go.Proofs.Ythmbfcfomcaaaaa.Z
open Go.RowKit Go.Proofs.YthmbfcfomcaaaaaW.PrintWords Go.Proofs.YthmbfcfomcaaaaaW.PrintLast Go.Proofs.YthmbfcfomcaaaaaW.PrintMore
attribute [local go_sem] max2_int min2_int max_two min_two max_three min_three max_four min_four
set_option linter.unusedVariables false
set_option linter.unusedSimpArgs false
def verdererref05_few.f (a0 : Int) : Option (Bool) := if a0 ≥ (-1073741824) then (some (decide (a0 ≤ 1073741824))) else (some false)
set_option maxHeartbeats 8000000 in
set_option maxRecDepth 100000 in
theorem verdererref05_few.calls (a0 : Int) (r : Bool) (w : World) (h : verdererref05_few.f a0 = some r) :
    Calls Try.prog 66 #[.int .i64 a0] w fun e w' => e = .returned (.bool r) ∧ Drawn0 w w' := by
  have H : (if a0 ≥ (-1073741824) then (some (decide (a0 ≤ 1073741824))) else (some false)) = some r := h
  clear h
  by_cases c2 : a0 ≥ (-1073741824)
  · rw [if_pos c2] at H
    have c2b0 : decide ((-1073741824) ≤ a0) = true := decide_eq_true c2
    clear c2
    obtain rfl := Option.some.inj H
    go_enter Try.func66,Try.ntmps66
    go_wp2
    go_ret
    exact ⟨by first | rfl | (simp;done) | (simp [*];done),by repeat (first | exact Drawn0.refl _ | apply Drawn0.step)⟩
  · rw [if_neg c2] at H
    have c2b0 : decide ((-1073741824) ≤ a0) = false := decide_eq_false c2
    clear c2
    obtain rfl := Option.some.inj H
    go_enter Try.func66,Try.ntmps66
    go_wp2
    go_ret
    exact ⟨by first | rfl | (simp;done) | (simp [*];done),by repeat (first | exact Drawn0.refl _ | apply Drawn0.step)⟩
end Go.Proofs.Ythmbfcfomcaaaaa.Z
end
section
namespace Go.Proofs.Ythmbfcfomcaaaaa.Z
set_option linter.unusedVariables false
set_option linter.unusedSimpArgs false
open Go.RowKit Go.Proofs.YthmbfcfomcaaaaaW.PrintWords Go.Proofs.YthmbfcfomcaaaaaW.PrintLast Go.Proofs.YthmbfcfomcaaaaaW.PrintMore Go.Proofs.Ythmbfcfomcaaaaa.Cmp
structure RefV (w : World) (g : Nat) (A : Option Addr) (c : Nat) (L : List En) (D : Nat → Prop) : Prop where
  blk : w.heap[g]? = some (.cells #[.slice A L.length c] 30 (0,0))
  cap : L.length ≤ c
  row : Kd.F k34 w D A L.length L
  g_not : ¬ D g
  lt : ∀ k,D k → k < w.heap.size
theorem RefV.keep {w w1 : World} {g : Nat} {A : Option Addr} {c : Nat} {L : List En} {D S : Nat → Prop} (h : RefV w g A c L D) (hc : Ch S w w1) (hg : ¬ S g) (hD : ∀ k,D k → ¬ S k) : RefV w1 g A c L D :=
  ⟨hc.blk h.blk hg,h.cap,Kd.F_step h.row (fun k hk hlt => hc.block k hlt (hD k hk)),h.g_not,fun k hk => Nat.lt_of_lt_of_le (h.lt k hk) hc.size⟩
theorem RefV.below {w w1 : World} {g : Nat} {A : Option Addr} {c : Nat} {L : List En} {D : Nat → Prop} (h : RefV w g A c L D) (hb : Below w.heap.size w w1) : RefV w1 g A c L D :=
  h.keep (Ch.of_below (S := fun _ => False) hb) (fun s => s) (fun _ _ s => s)
end Go.Proofs.Ythmbfcfomcaaaaa.Z
end
section
namespace Go.Proofs.Ythmbfcfomcaaaaa.Z
set_option linter.unusedVariables false
set_option linter.unusedSimpArgs false
open Go.RowKit Go.Proofs.YthmbfcfomcaaaaaW.PrintWords Go.Proofs.YthmbfcfomcaaaaaW.PrintLast Go.Proofs.YthmbfcfomcaaaaaW.PrintMore Go.Proofs.Ythmbfcfomcaaaaa.Cmp
structure RefCh (w w' : World) (g : Nat) (D D' : Nat → Prop) : Prop where
  ch : Ch (fun k => k = g) w w'
  dat : ∀ k,D' k → D k ∨ w.heap.size ≤ k
theorem own_new2 {v1 v2 : Value} {N M : Nat} (h1 : ∀ k,v1.ownBlock = some k → N ≤ k) (hm : N ≤ M) (h : v2.ownBlock = v1.ownBlock ∨ ∃ b,v2.ownBlock = some b ∧ M ≤ b) : ∀ k,v2.ownBlock = some k → N ≤ k := fun k e => by
  rcases h with h | ⟨b,h,hb⟩
  · rw [h] at e;exact h1 k e
  · rw [h] at e;injection e with e;omega
theorem RefCh.same {w w' : World} {g : Nat} {D : Nat → Prop} (h : Below w.heap.size w w') : RefCh w w' g D D := ⟨Ch.of_below h,fun _ h => .inl h⟩
end Go.Proofs.Ythmbfcfomcaaaaa.Z
end
section
namespace Go.Proofs.Ythmbfcfomcaaaaa.Z
set_option linter.unusedVariables false
set_option linter.unusedSimpArgs false
open Go.RowKit Go.Shelf Go.Proofs.YthmbfcfomcaaaaaW.PrintWords Go.Proofs.YthmbfcfomcaaaaaW.PrintLast Go.Proofs.YthmbfcfomcaaaaaW.PrintMore Go.Proofs.Ythmbfcfomcaaaaa.Cmp
attribute [local go_sem] Oper.semAt_some
def RowsS (Bl bx : Nat) (v : Value) (ex : Ent) (w' : World) : Prop := w'.cell? ⟨Bl,0,none⟩ = some v ∧ w'.cell? ⟨bx,0,none⟩ = some (.slice ex.A ex.row.length ex.c) ∧ w'.cell? ⟨bx,1,none⟩ = some (.int .i64 ex.many)
theorem heldS {W : World} {Bl bx t q : Nat} {v : Value} {ex : Ent} {l r : Tr} {k : Int} (h : W.heap[Bl]? = some (.cells #[v] t (0,0))) (hx : W.heap[bx]? = some (.cells (ncells ex l r k) q (0,0))) : RowsS Bl bx v ex W :=
  ⟨(blk_cell h 0).trans rfl,(blk_cell hx 0).trans rfl,(blk_cell hx 1).trans rfl⟩
theorem keepsO_below {W W' : World} (h : Below W.heap.size W W') : KeepsOthers W W' := ⟨h.size,fun k o hk _ => (h.block k (Array.getElem?_eq_some_iff.1 hk).1).trans hk⟩
theorem docT_items (t : Tr) : docT t = t.items.map docI := by unfold docT docE Tr.ents entsL;rw [List.map_map];rfl
def RowsI (w : World) (L : List En) (W : World) : Prop := ∃ v,W.heap[w.heap.size]? = some (.cells #[v] 22 (0,0)) ∧ Kd.R k34 34 W w.heap.size (fun k => k ≠ w.heap.size) v L
theorem own_rows (w : World) {α : Type} (f : List α → List En) (B : Nat) : OwnFrom B (fun pre W => RowsI w (f pre) W) := by
  rintro pre W W' row ⟨v,hb,hR⟩ hg hr
  have hne : ∀ {k : Nat} {cs : Array Value} {q : TypeId},W.heap[k]? = some (.cells cs q (0,0)) → some k ≠ row := fun {k cs q} hk e => by
    obtain ⟨_,o,ho,hc⟩ := hr k e.symm
    rw [hk] at ho
    cases ho
    cases hc
  refine ⟨v,blk_grown hb hg (hne hb),Kd.R_mono (Kd.R_grown (Kd.R_bound hR) hg (fun k hk => by obtain ⟨q,_,cs,hc⟩ := hk.2.2.2;exact hne hc)) (fun k hk => hk.1)⟩
set_option maxRecDepth 100000 in
set_option maxHeartbeats 4000000 in
theorem bag_rows {D : Nat → Prop} (b : Nat) (t : Tr) (w : World) (h : BagAt w b t D) (hs : t.size ≤ 1000000) :
    Calls Try.prog 34 #[.pointer (some ⟨b,0,none⟩)] w fun e w' => ∃ v,e = .returned v ∧ Kd.R k34 34 w' w.heap.size (fun _ => True) v (docT t) ∧ Below w.heap.size w w' := by
  have HA := Aside0.mk h
  have HS := Aside0.mk hs
  have c0 := blk_cell h.blk 0
  simp only [bcells,List.getElem?_toArray,List.getElem?_cons_zero] at c0
  have hb := h.lt.1
  have NALL := Aside0.mk (fun w' => nd_all t w')
  have STOPS := Aside0.mk (fun Bt w' hBt hn hc hT => nd_all_stops (D := D) 2 Bt w.heap.size t w' hBt hn hc hT)
  obtain ⟨q0,hq0⟩ := ptr_case t
  have HQ0 := Aside0.mk hq0
  rw [hq0] at c0 NALL STOPS
  clear h hs hq0
  have hdd : ∀ k : Nat,(Fence.wide.depth.isSome = true → 1 ≤ k) := fun k h => by cases h
  have hwA : Fence.wide.fn 76 := trivial
  have hwC : Fence.wide.fn 63 := trivial
  refine (callsIn_wide (n := 3)).1 ?_
  refine callsIn_of_wp_marks Try.func34 rfl trivial ?_ rfl
  simp only [Try.ntmps34,List.size_toArray,List.length_cons,List.length_nil,Nat.reduceAdd,Nat.reduceSub,Array.replicate_succ,Array.replicate_zero,List.push_toArray,List.append_toArray,List.nil_append,List.cons_append]
  gi_wp2_with ((try refine ⟨hdd _,?_⟩);gi_at_call 76;refine (callsIn_wide.2 (NALL.out _)).mono ?_;rintro e w' ⟨rfl,rfl⟩)
  obtain ⟨B0,hB0e⟩ : ∃ B0,w.heap.size = B0 := ⟨_,rfl⟩
  have hB0 : Below w.heap.size w ((w.alloc (.cells #[.slice none 0 0] 22)).alloc (.cells #[.pointer q0] 81)) := below_alloc (below_alloc (Below.refl _ _) _) _
  have hbx0 : ((w.alloc (.cells #[.slice none 0 0] 22)).alloc (.cells #[.pointer q0] 81)).heap[w.heap.size]? = some (.cells #[.slice none 0 0] 22 (0,0)) := blk_alloc (blk_new w _) _
  have hbn : ((w.alloc (.cells #[.slice none 0 0] 22)).alloc (.cells #[.pointer q0] 81)).cell? ⟨w.heap.size + 1,0,none⟩ = some (.pointer q0) := by
    have := blk_new (w.alloc (.cells #[.slice none 0 0] 22)) (.cells #[.pointer q0] 81)
    rw [World.size_alloc] at this
    exact (blk_cell this 0).trans rfl
  have hT : InB w.heap.size ((w.alloc (.cells #[.slice none 0 0] 22)).alloc (.cells #[.pointer q0] 81)) D t := ⟨(HA.out.below hB0).tree.inn,HA.out.lt.2.1,HA.out.lt.2.2⟩
  clear hB0e
  refine wpIn_rangeFunc_ownG (F := Fence.wide) (n := 3) rfl (by omega) (gf := 97) (lb := #[.pointer (some ⟨w.heap.size + 1,0,none⟩)]) rfl trivial (enters_of Try.func97 (by kernel_rfl) rfl) (STOPS.out (w.heap.size + 1) _ (by simp) (by simp;omega) hbn hT) belowK_t (belowK_b (by simp;omega)) (Below.refl _ _) (fun _ => rfl)
    (fun pre W => RowsI w (pre.map (fun y => docI y.1)) W ∧ Below w.heap.size w W) (fun _ _ _ => False)
    (OwnFrom.and (own_rows w (fun pre : List { x : Nat × Ent // x ∈ t.items } => pre.map (fun y => docI y.1)) _) (ownFrom_below (Nat.le_refl _) (by simp;omega))) (fun _ _ _ _ _ hs _ _ => hs)
    ⟨⟨.slice none 0 0,hbx0,Kd.R_nil _ _ _ _ _⟩,hB0⟩
    (fun x => { tmps := #[.pointer (some ⟨b,0,none⟩),undef,.slice none 0 0,.pointer (some ⟨w.heap.size,0,none⟩),.pointer (some ⟨x.1.1,0,none⟩),.pointer (some ⟨b,0,none⟩),.bool false,.pointer (some ⟨b,0,none⟩),.pointer (some ⟨b,0,none⟩),.pointer (some ⟨b,0,none⟩),.pointer q0,.func (.func 97) #[] #[.pointer (some ⟨w.heap.size + 1,0,none⟩)],.pointer (some ⟨x.1.1,0,none⟩),undef,undef,undef,undef,undef,undef,undef,undef,undef,undef,undef,undef,undef,undef,undef,undef],defers := [] }) ?assign ?body ?done ?stop
  case assign =>
    intro l x W K hK
    simp only [ptrOf]
    gi_wp2
    exact hK
  case body =>
    rintro l pre ⟨x,hx⟩ W ⟨⟨v,hbx,hR⟩,hB⟩ hlt
    obtain ⟨bx,ex⟩ := x
    obtain ⟨tl,tr,k,hnx,hex⟩ := (HA.out.below hB).tree.inn.node_of _ hx
    obtain ⟨L,hL⟩ : ∃ L,pre.map (fun y => docI y.1) = L := ⟨_,rfl⟩
    have HL := Aside0.mk hL
    have LPR := Aside0.mk (show L.length < 1000000 by have h1 := HS.out;unfold Tr.size at h1;rw [← hL,List.length_map];omega)
    change Kd.R _ _ _ _ _ _ (pre.map (fun y => docI y.1)) at hR
    rw [hL] at hR
    clear hL
    have BX1 := Aside0.mk (show W.drew.heap[w.heap.size]? = some (.cells #[v] 22 (0,0)) from hbx)
    have NX1 := Aside0.mk (show W.drew.heap[bx]? = some (.cells (ncells ex tl tr k) 90 (0,0)) from hnx)
    have HRW := Aside0.mk (Kd.R_drew hR)
    have HBW := Aside0.mk (below_drew1 hB)
    have RL := right_len (HA.out.ok.item hx).1
    have CLN := Aside0.mk (clone_at ex.A ex.c ex.row W.drew (hex.c.below (below_drew1 (Below.refl _ _))) (by have : ex.row.length ≤ 40 := RL;omega))
    obtain ⟨Av,cv,ev⟩ := Kd.R_slice hR
    have KO := Aside0.mk (KeepsOthers.drew W)
    have HD := Aside0.mk (show Below w.heap.size W W.drew from below_drew1 (Below.refl _ _))
    have LTB := Aside0.mk (blk_lt BX1.out)
    clear hbx hnx hR hB hex RL
    subst ev
    gi_wp2
    refine startR_ (m := 16) (S := RowsS w.heap.size bx (.slice Av L.length cv) ex) (ds := [15]) #[false,false,false,false,false,false,false,false,false,false,false,false,false,false,false,false] (by kernel_rfl) (noDefer_at (by kernel_rfl)) (fun ⟨_,_,h⟩ => h) rfl rfl (heldS BX1.out NX1.out) (fun hHeld => ?_)
    generalize W.drew = W1 at *
    refine pure_ (i := 1) (N := some 14) (v := ?_) (a' := ?_) #[false,true,false,false,false,false,false,false,false,false,false,false,false,false,false,false] rfl rfl (by kernel_rfl) (fun _ _ _ h => h) (Or.inl ⟨by rfl,?_⟩) ?_ ?_
    rotate_left
    · intro w'
      go_simp
      with_reducible rfl
    rotate_left
    · simp only [Act.put,zA,zB,zC,i64_w,i32_w]
      rfl
    refine pure_ (i := 2) (N := some 15) (v := ?_) (a' := ?_) #[false,true,true,false,false,false,false,false,false,false,false,false,false,false,false,false] rfl rfl (by kernel_rfl) (fun _ _ _ h => h) (Or.inl ⟨by rfl,?_⟩) ?_ ?_
    rotate_left
    · intro w'
      go_simp
      with_reducible rfl
    rotate_left
    · simp only [Act.put,zA,zB,zC,i64_w,i32_w]
      rfl
    refine pure_ (i := 3) (N := some 16) (v := ?_) (a' := ?_) #[false,true,true,true,false,false,false,false,false,false,false,false,false,false,false,false] rfl rfl (by kernel_rfl) (fun _ _ _ h => h) (Or.inl ⟨by rfl,?_⟩) ?_ ?_
    rotate_left
    · intro w'
      go_simp
      with_reducible rfl
    rotate_left
    · simp only [Act.put,zA,zB,zC,i64_w,i32_w]
      rfl
    refine pure_ (i := 4) (N := some 17) (v := ?_) (a' := ?_) #[false,true,true,true,true,false,false,false,false,false,false,false,false,false,false,false] rfl rfl (by kernel_rfl) (fun _ _ _ h => h) (Or.inl ⟨by rfl,?_⟩) ?_ ?_
    rotate_left
    · intro w'
      go_simp
      with_reducible rfl
    rotate_left
    · simp only [Act.put,zA,zB,zC,i64_w,i32_w]
      rfl
    refine pure_ (i := 7) (N := some 20) (v := ?_) (a' := ?_) #[false,true,true,true,true,false,false,true,false,false,false,false,false,false,false,false] rfl rfl (by kernel_rfl) (fun _ _ _ h => h) (Or.inl ⟨by rfl,?_⟩) ?_ ?_
    rotate_left
    · intro w'
      go_simp
      with_reducible rfl
    rotate_left
    · simp only [Act.put,zA,zB,zC,i64_w,i32_w]
      rfl
    refine pure_ (i := 8) (N := some 21) (v := ?_) (a' := ?_) #[false,true,true,true,true,false,false,true,true,false,false,false,false,false,false,false] rfl rfl (by kernel_rfl) (fun _ _ _ h => h) (Or.inl ⟨by rfl,?_⟩) ?_ ?_
    rotate_left
    · intro w'
      go_simp
      with_reducible rfl
    rotate_left
    · simp only [Act.put,zA,zB,zC,i64_w,i32_w]
      rfl
    refine pure_ (i := 9) (N := some 22) (v := ?_) (a' := ?_) #[false,true,true,true,true,false,false,true,true,true,false,false,false,false,false,false] rfl rfl (by kernel_rfl) (fun _ _ _ h => h) (Or.inl ⟨by rfl,?_⟩) ?_ ?_
    rotate_left
    · intro w'
      go_simp
      with_reducible rfl
    rotate_left
    · simp only [Act.put,zA,zB,zC,i64_w,i32_w]
      rfl
    refine pure_ (i := 10) (N := some 23) (v := ?_) (a' := ?_) #[false,true,true,true,true,false,false,true,true,true,true,false,false,false,false,false] rfl rfl (by kernel_rfl) (fun _ _ _ h => h) (Or.inl ⟨by rfl,?_⟩) ?_ ?_
    rotate_left
    · intro w'
      go_simp
      with_reducible rfl
    rotate_left
    · simp only [Act.put,zA,zB,zC,i64_w,i32_w]
      rfl
    refine take_ (i := 0) (N := some 13) (v := ?_) (a' := ?_) #[true,true,true,true,true,false,false,true,true,true,true,false,false,false,false,false] rfl rfl (by kernel_rfl) (fun _ _ _ h => h) (Or.inl ⟨by rfl,?_⟩) hHeld ?_ ?_
    rotate_left
    · rintro w' ⟨s0,s1,s2⟩
      go_simp
      with_reducible rfl
    rotate_left
    · simp only [Act.put,zA,zB,zC,i64_w,i32_w]
      rfl
    refine take_ (i := 5) (N := some 18) (v := ?_) (a' := ?_) #[true,true,true,true,true,true,false,true,true,true,true,false,false,false,false,false] rfl rfl (by kernel_rfl) (fun _ _ _ h => h) (Or.inl ⟨by rfl,?_⟩) hHeld ?_ ?_
    rotate_left
    · rintro w' ⟨s0,s1,s2⟩
      go_simp
      with_reducible rfl
    rotate_left
    · simp only [Act.put,zA,zB,zC,i64_w,i32_w]
      rfl
    refine take_ (i := 11) (N := some 24) (v := ?_) (a' := ?_) #[true,true,true,true,true,true,false,true,true,true,true,true,false,false,false,false] rfl rfl (by kernel_rfl) (fun _ _ _ h => h) (Or.inl ⟨by rfl,?_⟩) hHeld ?_ ?_
    rotate_left
    · rintro w' ⟨s0,s1,s2⟩
      go_simp
      with_reducible rfl
    rotate_left
    · simp only [Act.put,zA,zB,zC,i64_w,i32_w]
      rfl
    refine one_ (i := 6) (N := some 19) #[true,true,true,true,true,true,true,true,true,true,true,true,false,false,false,false] rfl rfl (by kernel_rfl) (by decide) (fun K hK => ?_)
    refine goes_ Try.func63 (by kernel_rfl) rfl #[.slice ex.A ex.row.length ex.c] (by rfl) rfl rfl (by (try simp only [List.map_toArray,List.map_cons,List.map_nil]);first | done | rfl) ?_
    refine (CLN.out.mono ?_)
    rintro e w2 ⟨v1,rfl,hv,hb⟩
    refine ⟨_,rfl,?_⟩
    have HV := Aside0.mk hv
    have B2 := Aside0.mk hb
    have BX2 := Aside0.mk (blk_below BX1.out hb)
    have NX2 := Aside0.mk (blk_below NX1.out hb)
    obtain ⟨A1,c1,e1⟩ := Kd.R_slice hv
    clear hv hb CLN BX1 NX1
    subst e1
    refine hK.out _ _ (heldS BX2.out NX2.out) (fun hHeld => ?_)
    clear hK K
    refine norm_ (a' := ?_) ?_ ?_
    rotate_left
    · show Act.put _ (some 19) _ = _
      simp only [Act.put,zA,zB,zC,i64_w,i32_w]
      rfl
    refine pure_ (i := 12) (N := some 25) (v := ?_) (a' := ?_) #[true,true,true,true,true,true,true,true,true,true,true,true,true,false,false,false] rfl rfl (by kernel_rfl) (fun _ _ _ h => h) (Or.inl ⟨by rfl,?_⟩) ?_ ?_
    rotate_left
    · intro w'
      go_simp
      with_reducible rfl
    rotate_left
    · simp only [Act.put,zA,zB,zC,i64_w,i32_w]
      rfl
    refine one_ (i := 13) (N := some 26) #[true,true,true,true,true,true,true,true,true,true,true,true,true,true,false,false] rfl rfl (by kernel_rfl) (by decide) (fun K hK => ?_)
    refine value_ (w1 := ?_) (v := ?_) (by rfl) rfl ?_ ?_
    rotate_left 2
    · go_simp
      constructor
      · rfl
      · rfl
    refine hK.out _ _ (heldS (blk_alloc BX2.out _) (blk_alloc NX2.out _)) (fun hHeld => ?_)
    clear hK K
    refine norm_ (a' := ?_) ?_ ?_
    rotate_left
    · show Act.put _ (some 26) _ = _
      simp only [Act.put,zA,zB,zC,i64_w,i32_w]
      rfl
    refine one_ (i := 14) (N := some 27) #[true,true,true,true,true,true,true,true,true,true,true,true,true,true,true,false] rfl rfl (by kernel_rfl) (by decide) (fun K hK => ?_)
    have HRW2 := Aside0.mk (Kd.R_below HRW.out B2.out)
    have APM := Aside0.mk (show Kd.R k66 66 w2 w.heap.size (fun k => W1.heap.size ≤ k) (.slice A1 ex.row.length c1) ex.row from Kd.R_lower (Kd.R_mono (Kd.R_bound HV.out) (fun k hk => hk.2.1)) (Nat.le_of_lt LTB.out))
    have APK := Aside0.mk (fun k (hk : W1.heap.size ≤ k) => show k ≠ w.heap.size ∧ some k ≠ ((.slice Av L.length cv) : Value).ownBlock from ⟨by have := LTB.out;omega,fun e => by have := Kd.R_lt HRW.out k e.symm;omega⟩)
    refine Kd.R_append_step k34 (w0 := w) w.heap.size (by rfl) (.tmp 13) (.tmp 26) 22 34 (.agg #[(.slice none 0 0),(.int .i64 0)]) 32 rfl Try.underlying22 info34 rfl (by decide) (by omega) (.slice Av L.length cv) L (⟨ex.row,ex.many⟩ : En) [.slice A1 ex.row.length c1,.int .i64 ex.many] (fun k => k ≠ w.heap.size) (fun k => W1.heap.size ≤ k) rfl rfl (k34_mkM _ _ _ (⟨ex.row,ex.many⟩ : En) APM.out) APK.out (fun k hk => by have := LTB.out;have := B2.out.size;omega) HRW2.out (HBW.out.trans (B2.out.mono HBW.out.size)) (by have := LTB.out;have := B2.out.size;omega) (by have := LPR.out;omega) ?_
    intro v3 w3 ho hb3 hg hat
    have BX3 := Aside0.mk (blk_grown BX2.out hg (fun e => (HRW2.out.1 _ e.symm) rfl))
    have NX3 := Aside0.mk (blk_grown NX2.out hg (fun e => by have h1 := (Kd.R_typed HRW2.out) _ e.symm;obtain ⟨cs,hcs⟩ := h1;rw [NX2.out] at hcs;cases hcs))
    have HO := Aside0.mk ho
    have HB3 := Aside0.mk hb3
    have KO3 := Aside0.mk ((KO.out.trans (keepsO_below B2.out)).trans (KeepsOthers.of_grownBy hg (fun j o e ho2 => by obtain ⟨cs,hcs⟩ := Kd.R_typed HRW2.out j e;rw [hcs] at ho2;cases ho2;rfl)))
    have HD3 := Aside0.mk ((HD.out.trans (B2.out.mono (by have := HBW.out.size;omega))).grown hg (by have := HBW.out.size;have := B2.out.size;omega) (fun k e => Kd.R_base HRW2.out k e))
    obtain ⟨A3,c3,e3⟩ := Kd.R_slice ho
    clear ho hb3 hg hat
    subst e3
    refine hK.out _ _ (heldS BX3.out NX3.out) (fun hHeld => ?_)
    clear hK K
    refine norm_ (a' := ?_) ?_ ?_
    rotate_left
    · show Act.put _ (some 27) _ = _
      simp only [Act.put,zA,zB,zC,i64_w,i32_w]
      rfl
    refine last_ (i := 15) (N := none) #[true,true,true,true,true,true,true,true,true,true,true,true,true,true,true,true] rfl rfl (by kernel_rfl) (by decide) (fun K hK => ?_)
    have z0 := blk_frozen BX3.out 0
    have y0 := (blk_cell BX3.out 0).trans rfl
    refine skip_ (w1 := w3.setCell ⟨w.heap.size,0,none⟩ (.slice A3 (L ++ [(⟨ex.row,ex.many⟩ : En)]).length c3)) (by rfl) rfl ?_ ?_
    · go_simp
      try with_reducible rfl
    refine hK.out _ _ ?_
    clear hK K
    refine done_ (by kernel_rfl) ?_
    show KeepsFrom _ _ _ ∧ Below _ _ _ ∧ RowsI _ _ _ ∧ Below _ _ _
    refine ⟨(KO3.out.trans (KeepsOthers.setCell _ _ _)).from _,HD3.out.setCell (Nat.le_refl _) _,⟨_,blk_put BX3.out 0 _ rfl,?_⟩,HB3.out.setCell (Nat.le_refl _) _⟩
    rw [List.map_append,HL.out]
    exact Kd.R_far (p := ⟨w.heap.size,0,none⟩) HO.out (fun k hk => hk) _
  case done =>
    rintro D2 ys W hD2 hys ⟨⟨v,hbx,hR⟩,hB⟩ hK
    have hd : ys.map (fun y => docI y.1) = docT t := by
      have h1 := congrArg (List.map docI) hys
      rw [List.map_map] at h1
      exact h1.trans (docT_items t).symm
    change Kd.R _ _ _ _ _ _ (ys.map (fun y => docI y.1)) at hR
    rw [hd] at hR
    clear hd
    obtain ⟨A9,c9,e9⟩ := Kd.R_slice hR
    have HR9 := Aside0.mk hR
    have HB9 := Aside0.mk hB
    have LK := Aside0.mk (show D2 ≠ w.heap.size by simp at hD2;omega)
    have y0 := (blk_cell hbx 0).trans rfl
    have HK := Aside0.mk hK
    have HYS := Aside0.mk hys
    have HD2 := Aside0.mk hD2
    clear hR hB hbx hK hys hD2
    subst e9
    gi_wp2
    refine ⟨by simp,.inl ⟨_,_,rfl,run_takeDeferred HK.out,?_⟩⟩
    have hg := grownBy_putObj' W D2 (.deferred none)
    have hR' := Kd.R_mono (ok' := fun _ => True) (Kd.R_grown (Kd.R_bound HR9.out) hg (fun k hk e => by
      obtain ⟨q,_,cs,hc⟩ := hk.2.2.2
      injection e with e
      subst e
      rw [HK.out] at hc
      cases hc)) (fun _ _ => trivial)
    exact ⟨_,results_tmp rfl _ _ _,.slice A9 (docT t).length c9,rfl,hR',HB9.out.trans (belowK_b (w := w) (Nat.le_refl _) W D2 _ _ (by have := HD2.out;simp at this;omega) HK.out rfl rfl)⟩
  case stop =>
    rintro D2 c pre W _ _ h _
    exact h.elim
end Go.Proofs.Ythmbfcfomcaaaaa.Z
end
section
namespace Go.Proofs.Ythmbfcfomcaaaaa.Z
open Go.RowKit Go.Proofs.YthmbfcfomcaaaaaW.PrintWords Go.Proofs.YthmbfcfomcaaaaaW.PrintLast Go.Proofs.YthmbfcfomcaaaaaW.PrintMore
attribute [local go_sem] max2_int min2_int max_two min_two max_three min_three max_four min_four
set_option linter.unusedVariables false
set_option linter.unusedSimpArgs false
def verdererref05_Alike.l0 : Nat → List (S34) → List (S34) → Int → Option (Bool)
  | 0,_,_,_ => none
  | k + 1,x0,x1,x5 => if x5 < (x0.length : Int) then (if 0 ≤ x5 then (if x5 < (x1.length : Int) then (if ((rd_T34 x0 x5).f1) = ((rd_T34 x1 x5).f1) then ((verdererref02_Equal.f k ((rd_T34 x0 x5).f0) ((rd_T34 x1 x5).f0)).bind fun t173 => (if t173 = true then (verdererref05_Alike.l0 k x0 x1 (wrap64 (x5 + 1))) else (some false))) else (some false)) else (none)) else (none)) else (some true)
def verdererref05_Alike.f (k : Nat) (l0 : List (S34)) (l1 : List (S34)) : Option (Bool) := if (l0.length : Int) = (l1.length : Int) then (verdererref05_Alike.l0 k l0 l1 0) else (some false)
theorem verdererref05_Alike.mono_l : ∀ k,(∀ y0 y1 y2,LeO (verdererref05_Alike.l0 k y0 y1 y2) (verdererref05_Alike.l0 (k + 1) y0 y1 y2))
  | 0 => fun _ _ _ r h => by simp [verdererref05_Alike.l0] at h
  | k + 1 => by
    have ih0 := verdererref05_Alike.mono_l k
    · intro y0 y1 y2
      unfold verdererref05_Alike.l0
      repeat' first
      | (with_reducible exact ih0 _ _ _)
      | (with_reducible exact verdererref02_Equal.mono _ _ _)
      | (with_reducible exact LeO.refl _)
      | (with_reducible exact LeO.none _)
      | (with_reducible refine LeO.ite ?_ ?_)
      | (with_reducible refine LeO.bind ?_ (fun _ => ?_))
      | exact ih0 _ _ _
      | exact verdererref02_Equal.mono _ _ _
      | exact LeO.none _
      | refine LeO.ite ?_ ?_
      | refine LeO.bind ?_ (fun _ => ?_)
theorem verdererref05_Alike.mono : ∀ a0 a1 k,LeO (verdererref05_Alike.f k a0 a1) (verdererref05_Alike.f (k + 1) a0 a1) := by
  intro a0 a1 k
  have ih0 := verdererref05_Alike.mono_l k
  unfold verdererref05_Alike.f
  repeat' first
      | (with_reducible exact ih0 _ _ _)
      | (with_reducible exact verdererref02_Equal.mono _ _ _)
      | (with_reducible exact LeO.refl _)
      | (with_reducible exact LeO.none _)
      | (with_reducible refine LeO.ite ?_ ?_)
      | (with_reducible refine LeO.bind ?_ (fun _ => ?_))
      | exact ih0 _ _ _
      | exact verdererref02_Equal.mono _ _ _
      | exact LeO.none _
      | refine LeO.ite ?_ ?_
      | refine LeO.bind ?_ (fun _ => ?_)
set_option maxHeartbeats 8000000 in
set_option maxRecDepth 100000 in
theorem verdererref05_Alike.calls (k : Nat) (A0 : Option Addr) (c0 : Nat) (l0 : List (S34)) (A1 : Option Addr) (c1 : Nat) (l1 : List (S34)) (r : Bool) (w : World) (hr0 : Kd.C k34 w A0 l0.length l0) (hc0 : l0.length ≤ c0) (hr1 : Kd.C k34 w A1 l1.length l1) (hc1 : l1.length ≤ c1) (h : verdererref05_Alike.f k l0 l1 = some r) :
    Calls Try.prog 31 #[.slice A0 l0.length c0,.slice A1 l1.length c1] w fun e w' => e = .returned (.bool r) ∧ Drawn0 w w' := by
  have HR0 := Aside0.mk hr0
  have HC0 := Aside0.mk hc0
  clear hr0 hc0
  have HR1 := Aside0.mk hr1
  have HC1 := Aside0.mk hc1
  clear hr1 hc1
  have H : (if (l0.length : Int) = (l1.length : Int) then (verdererref05_Alike.l0 k l0 l1 0) else (some false)) = some r := h
  clear h
  by_cases c3 : (l0.length : Int) = (l1.length : Int)
  · rw [if_pos c3] at H
    have c3b0 : ((l0.length : Int) == (l1.length : Int)) = true := beq_iff_eq.mpr c3
    have c3b1 : ((l0.length : Int) != (l1.length : Int)) = false := bne_eq_false_iff_eq.mpr c3
    have c3b2 : (l0.length == l1.length) = true := by first | simpa using c3 | (simp at c3 ⊢;omega)
    clear c3
    have H' := Aside0.mk H
    clear H
    go_enter Try.func31,Try.ntmps31
    go_wp2
    repeat (go_quiet (fail);try go_wp2)
    go_loopg [5] k (fun kq v5 w' => ∃ (x5_1 : Int),v5 = .int .i64 x5_1 ∧ Aside0 (verdererref05_Alike.l0 kq l0 l1 x5_1 = some r) ∧ Aside0 (kq ≤ k) ∧ Drawn0 w w')
    case atStart => exact ⟨(0),(by first | rfl | (simp;done) | (simp [*];done)),H',⟨Nat.le_refl _⟩,by repeat (first | exact Drawn0.refl _ | apply Drawn0.step)⟩
    case round =>
      clear H'
      try clear c1
      try clear p2
      try clear c3
      try clear c3b0
      try clear c3b1
      try clear c3b2
      obtain ⟨x5_1,rfl,HA,HK1,⟨m1,rfl⟩⟩ := hrel
      cases gk with
      | zero => exact absurd HA.out (by simp [verdererref05_Alike.l0])
      | succ k1 =>
        have H := HA.out
        clear HA
        simp only [verdererref05_Alike.l0] at H
        by_cases c4 : x5_1 < (l0.length : Int)
        · rw [if_pos c4] at H
          have c4b0 : decide (x5_1 < (l0.length : Int)) = true := decide_eq_true c4
          clear c4
          by_cases c5 : 0 ≤ x5_1
          · rw [if_pos c5] at H
            have c5b0 : decide (0 ≤ x5_1) = true := decide_eq_true c5
            clear c5
            by_cases c6 : x5_1 < (l1.length : Int)
            · rw [if_pos c6] at H
              have c6b0 : decide (x5_1 < (l1.length : Int)) = true := decide_eq_true c6
              clear c6
              by_cases c7 : ((rd_T34 l0 x5_1).f1) = ((rd_T34 l1 x5_1).f1)
              · rw [if_pos c7] at H
                have c7b0 : (((rd_T34 l0 x5_1).f1) == ((rd_T34 l1 x5_1).f1)) = true := beq_iff_eq.mpr c7
                have c7b1 : (((rd_T34 l0 x5_1).f1) != ((rd_T34 l1 x5_1).f1)) = false := bne_eq_false_iff_eq.mpr c7
                clear c7
                replace H := Option.bind_eq_some_iff.mp H
                obtain ⟨t173,A80,H⟩ := H
                replace H : (if t173 = true then (verdererref05_Alike.l0 k1 l0 l1 (wrap64 (x5_1 + 1))) else (some false)) = some r := H
                have A8 := Aside0.mk A80
                clear A80
                by_cases c9 : t173 = true
                · subst c9
                  have H1 : (verdererref05_Alike.l0 k1 l0 l1 (wrap64 (x5_1 + 1))) = some r := by rw [if_pos rfl] at H;exact H
                  clear H
                  have H := H1
                  clear H1
                  have H' := Aside0.mk H
                  clear H
                  have p169 : 0 ≤ (x5_1 : Int) := of_decide_eq_true (by first | (with_reducible assumption) | assumption)
                  have q169 : x5_1 < (l0.length : Int) := of_decide_eq_true (by first | (with_reducible assumption) | assumption)
                  obtain ⟨ad169,A169_0,c169_0,e169,hx169_0,hx169_1,hl169_0,hi169_0⟩ := at_T34 HR0.out x5_1 p169 q169
                  cases e169
                  have HR169_0 := Aside0.mk hi169_0
                  have HC169_0 := Aside0.mk hl169_0
                  clear hi169_0 hl169_0
                  replace p169 := eq_true p169
                  replace q169 := eq_true q169
                  have p170 : 0 ≤ (x5_1 : Int) := of_decide_eq_true (by first | (with_reducible assumption) | assumption)
                  have q170 : x5_1 < (l1.length : Int) := of_decide_eq_true (by first | (with_reducible assumption) | assumption)
                  obtain ⟨ad170,A170_0,c170_0,e170,hx170_0,hx170_1,hl170_0,hi170_0⟩ := at_T34 HR1.out x5_1 p170 q170
                  cases e170
                  have HR170_0 := Aside0.mk hi170_0
                  have HC170_0 := Aside0.mk hl170_0
                  clear hi170_0 hl170_0
                  replace p170 := eq_true p170
                  replace q170 := eq_true q170
                  have p171 : 0 ≤ (x5_1 : Int) := of_decide_eq_true (by first | (with_reducible assumption) | assumption)
                  have q171 : x5_1 < (l0.length : Int) := of_decide_eq_true (by first | (with_reducible assumption) | assumption)
                  obtain ⟨ad171,A171_0,c171_0,e171,hx171_0,hx171_1,hl171_0,hi171_0⟩ := at_T34 HR0.out x5_1 p171 q171
                  obtain rfl : ad169 = ad171 := (by injection e171)
                  have HR171_0 := Aside0.mk hi171_0
                  have HC171_0 := Aside0.mk hl171_0
                  clear hi171_0 hl171_0
                  replace p171 := eq_true p171
                  replace q171 := eq_true q171
                  have ea_ := Option.some.inj (hx169_0.symm.trans hx171_0)
                  injection ea_ with ea_ en_ ec_
                  subst ea_
                  subst ec_
                  clear en_
                  have p172 : 0 ≤ (x5_1 : Int) := of_decide_eq_true (by first | (with_reducible assumption) | assumption)
                  have q172 : x5_1 < (l1.length : Int) := of_decide_eq_true (by first | (with_reducible assumption) | assumption)
                  obtain ⟨ad172,A172_0,c172_0,e172,hx172_0,hx172_1,hl172_0,hi172_0⟩ := at_T34 HR1.out x5_1 p172 q172
                  obtain rfl : ad170 = ad172 := (by injection e172)
                  have HR172_0 := Aside0.mk hi172_0
                  have HC172_0 := Aside0.mk hl172_0
                  clear hi172_0 hl172_0
                  replace p172 := eq_true p172
                  replace q172 := eq_true q172
                  have ea_ := Option.some.inj (hx170_0.symm.trans hx172_0)
                  injection ea_ with ea_ en_ ec_
                  subst ea_
                  subst ec_
                  clear en_
                  go_wp2_with (first | (go_at_call 22;(with_reducible refine (verdererref02_Equal.calls k1 _ _ ((rd_T34 l0 x5_1).f0) _ _ ((rd_T34 l1 x5_1).f0) true _ ?side1 ?side2 ?side3 ?side4 A8.out).mono ?_);(case side1 => repeat (first | exact HR171_0.out | (with_reducible refine Kd.C_alloc ?_ _) | (with_reducible refine Kd.C_drewN ?_ _) | (with_reducible refine Kd.C_drew ?_)));(case side2 => exact HC171_0.out);(case side3 => repeat (first | exact HR172_0.out | (with_reducible refine Kd.C_alloc ?_ _) | (with_reducible refine Kd.C_drewN ?_ _) | (with_reducible refine Kd.C_drew ?_)));(case side4 => exact HC172_0.out);rintro e w' ⟨rfl,⟨nd,rfl⟩⟩;(try first | exact ⟨rfl,_,World.drewN_drewN _ _ _⟩ | exact ⟨rfl,_,Eq.trans (World.drewN_drewN _ _ _) (congrArg (World.drewN _) (Nat.add_assoc _ _ _))⟩)))
                  repeat (go_quiet (first | (go_at_call 22;(with_reducible refine (verdererref02_Equal.calls k1 _ _ ((rd_T34 l0 x5_1).f0) _ _ ((rd_T34 l1 x5_1).f0) true _ ?side1 ?side2 ?side3 ?side4 A8.out).mono ?_);(case side1 => repeat (first | exact HR171_0.out | (with_reducible refine Kd.C_alloc ?_ _) | (with_reducible refine Kd.C_drewN ?_ _) | (with_reducible refine Kd.C_drew ?_)));(case side2 => exact HC171_0.out);(case side3 => repeat (first | exact HR172_0.out | (with_reducible refine Kd.C_alloc ?_ _) | (with_reducible refine Kd.C_drewN ?_ _) | (with_reducible refine Kd.C_drew ?_)));(case side4 => exact HC172_0.out);rintro e w' ⟨rfl,⟨nd,rfl⟩⟩;(try first | exact ⟨rfl,_,World.drewN_drewN _ _ _⟩ | exact ⟨rfl,_,Eq.trans (World.drewN_drewN _ _ _) (congrArg (World.drewN _) (Nat.add_assoc _ _ _))⟩)));try go_wp2_with (first | (go_at_call 22;(with_reducible refine (verdererref02_Equal.calls k1 _ _ ((rd_T34 l0 x5_1).f0) _ _ ((rd_T34 l1 x5_1).f0) true _ ?side1 ?side2 ?side3 ?side4 A8.out).mono ?_);(case side1 => repeat (first | exact HR171_0.out | (with_reducible refine Kd.C_alloc ?_ _) | (with_reducible refine Kd.C_drewN ?_ _) | (with_reducible refine Kd.C_drew ?_)));(case side2 => exact HC171_0.out);(case side3 => repeat (first | exact HR172_0.out | (with_reducible refine Kd.C_alloc ?_ _) | (with_reducible refine Kd.C_drewN ?_ _) | (with_reducible refine Kd.C_drew ?_)));(case side4 => exact HC172_0.out);rintro e w' ⟨rfl,⟨nd,rfl⟩⟩;(try first | exact ⟨rfl,_,World.drewN_drewN _ _ _⟩ | exact ⟨rfl,_,Eq.trans (World.drewN_drewN _ _ _) (congrArg (World.drewN _) (Nat.add_assoc _ _ _))⟩))))
                  go_roundg k1
                  case measure => have := HK1.out;omega
                  case rel => exact ⟨(wrap64 (x5_1 + 1)),(by first | rfl | (simp;done) | (simp [*];done)),H',⟨by have := HK1.out;omega⟩,by repeat (first | exact Drawn0.refl _ | apply Drawn0.step)⟩
                · replace c9 := Bool.eq_false_iff.mpr c9
                  subst c9
                  have H1 : (some false) = some r := by rw [if_neg (show ¬ (false = true) by decide)] at H;exact H
                  clear H
                  have H := H1
                  clear H1
                  obtain rfl := Option.some.inj H
                  have p169 : 0 ≤ (x5_1 : Int) := of_decide_eq_true (by first | (with_reducible assumption) | assumption)
                  have q169 : x5_1 < (l0.length : Int) := of_decide_eq_true (by first | (with_reducible assumption) | assumption)
                  obtain ⟨ad169,A169_0,c169_0,e169,hx169_0,hx169_1,hl169_0,hi169_0⟩ := at_T34 HR0.out x5_1 p169 q169
                  cases e169
                  have HR169_0 := Aside0.mk hi169_0
                  have HC169_0 := Aside0.mk hl169_0
                  clear hi169_0 hl169_0
                  replace p169 := eq_true p169
                  replace q169 := eq_true q169
                  have p170 : 0 ≤ (x5_1 : Int) := of_decide_eq_true (by first | (with_reducible assumption) | assumption)
                  have q170 : x5_1 < (l1.length : Int) := of_decide_eq_true (by first | (with_reducible assumption) | assumption)
                  obtain ⟨ad170,A170_0,c170_0,e170,hx170_0,hx170_1,hl170_0,hi170_0⟩ := at_T34 HR1.out x5_1 p170 q170
                  cases e170
                  have HR170_0 := Aside0.mk hi170_0
                  have HC170_0 := Aside0.mk hl170_0
                  clear hi170_0 hl170_0
                  replace p170 := eq_true p170
                  replace q170 := eq_true q170
                  have p171 : 0 ≤ (x5_1 : Int) := of_decide_eq_true (by first | (with_reducible assumption) | assumption)
                  have q171 : x5_1 < (l0.length : Int) := of_decide_eq_true (by first | (with_reducible assumption) | assumption)
                  obtain ⟨ad171,A171_0,c171_0,e171,hx171_0,hx171_1,hl171_0,hi171_0⟩ := at_T34 HR0.out x5_1 p171 q171
                  obtain rfl : ad169 = ad171 := (by injection e171)
                  have HR171_0 := Aside0.mk hi171_0
                  have HC171_0 := Aside0.mk hl171_0
                  clear hi171_0 hl171_0
                  replace p171 := eq_true p171
                  replace q171 := eq_true q171
                  have ea_ := Option.some.inj (hx169_0.symm.trans hx171_0)
                  injection ea_ with ea_ en_ ec_
                  subst ea_
                  subst ec_
                  clear en_
                  have p172 : 0 ≤ (x5_1 : Int) := of_decide_eq_true (by first | (with_reducible assumption) | assumption)
                  have q172 : x5_1 < (l1.length : Int) := of_decide_eq_true (by first | (with_reducible assumption) | assumption)
                  obtain ⟨ad172,A172_0,c172_0,e172,hx172_0,hx172_1,hl172_0,hi172_0⟩ := at_T34 HR1.out x5_1 p172 q172
                  obtain rfl : ad170 = ad172 := (by injection e172)
                  have HR172_0 := Aside0.mk hi172_0
                  have HC172_0 := Aside0.mk hl172_0
                  clear hi172_0 hl172_0
                  replace p172 := eq_true p172
                  replace q172 := eq_true q172
                  have ea_ := Option.some.inj (hx170_0.symm.trans hx172_0)
                  injection ea_ with ea_ en_ ec_
                  subst ea_
                  subst ec_
                  clear en_
                  go_wp2_with (first | (go_at_call 22;(with_reducible refine (verdererref02_Equal.calls k1 _ _ ((rd_T34 l0 x5_1).f0) _ _ ((rd_T34 l1 x5_1).f0) false _ ?side1 ?side2 ?side3 ?side4 A8.out).mono ?_);(case side1 => repeat (first | exact HR171_0.out | (with_reducible refine Kd.C_alloc ?_ _) | (with_reducible refine Kd.C_drewN ?_ _) | (with_reducible refine Kd.C_drew ?_)));(case side2 => exact HC171_0.out);(case side3 => repeat (first | exact HR172_0.out | (with_reducible refine Kd.C_alloc ?_ _) | (with_reducible refine Kd.C_drewN ?_ _) | (with_reducible refine Kd.C_drew ?_)));(case side4 => exact HC172_0.out);rintro e w' ⟨rfl,⟨nd,rfl⟩⟩;(try first | exact ⟨rfl,_,World.drewN_drewN _ _ _⟩ | exact ⟨rfl,_,Eq.trans (World.drewN_drewN _ _ _) (congrArg (World.drewN _) (Nat.add_assoc _ _ _))⟩)))
                  repeat (go_quiet (first | (go_at_call 22;(with_reducible refine (verdererref02_Equal.calls k1 _ _ ((rd_T34 l0 x5_1).f0) _ _ ((rd_T34 l1 x5_1).f0) false _ ?side1 ?side2 ?side3 ?side4 A8.out).mono ?_);(case side1 => repeat (first | exact HR171_0.out | (with_reducible refine Kd.C_alloc ?_ _) | (with_reducible refine Kd.C_drewN ?_ _) | (with_reducible refine Kd.C_drew ?_)));(case side2 => exact HC171_0.out);(case side3 => repeat (first | exact HR172_0.out | (with_reducible refine Kd.C_alloc ?_ _) | (with_reducible refine Kd.C_drewN ?_ _) | (with_reducible refine Kd.C_drew ?_)));(case side4 => exact HC172_0.out);rintro e w' ⟨rfl,⟨nd,rfl⟩⟩;(try first | exact ⟨rfl,_,World.drewN_drewN _ _ _⟩ | exact ⟨rfl,_,Eq.trans (World.drewN_drewN _ _ _) (congrArg (World.drewN _) (Nat.add_assoc _ _ _))⟩)));try go_wp2_with (first | (go_at_call 22;(with_reducible refine (verdererref02_Equal.calls k1 _ _ ((rd_T34 l0 x5_1).f0) _ _ ((rd_T34 l1 x5_1).f0) false _ ?side1 ?side2 ?side3 ?side4 A8.out).mono ?_);(case side1 => repeat (first | exact HR171_0.out | (with_reducible refine Kd.C_alloc ?_ _) | (with_reducible refine Kd.C_drewN ?_ _) | (with_reducible refine Kd.C_drew ?_)));(case side2 => exact HC171_0.out);(case side3 => repeat (first | exact HR172_0.out | (with_reducible refine Kd.C_alloc ?_ _) | (with_reducible refine Kd.C_drewN ?_ _) | (with_reducible refine Kd.C_drew ?_)));(case side4 => exact HC172_0.out);rintro e w' ⟨rfl,⟨nd,rfl⟩⟩;(try first | exact ⟨rfl,_,World.drewN_drewN _ _ _⟩ | exact ⟨rfl,_,Eq.trans (World.drewN_drewN _ _ _) (congrArg (World.drewN _) (Nat.add_assoc _ _ _))⟩))))
                  go_ret
                  exact ⟨by first | rfl | (simp;done) | (simp [*];done),by repeat (first | exact Drawn0.refl _ | apply Drawn0.step)⟩
              · rw [if_neg c7] at H
                have c7b0 : (((rd_T34 l0 x5_1).f1) == ((rd_T34 l1 x5_1).f1)) = false := beq_eq_false_iff_ne.mpr c7
                have c7b1 : (((rd_T34 l0 x5_1).f1) != ((rd_T34 l1 x5_1).f1)) = true := bne_iff_ne.mpr c7
                obtain rfl := Option.some.inj H
                have p169 : 0 ≤ (x5_1 : Int) := of_decide_eq_true (by first | (with_reducible assumption) | assumption)
                have q169 : x5_1 < (l0.length : Int) := of_decide_eq_true (by first | (with_reducible assumption) | assumption)
                obtain ⟨ad169,A169_0,c169_0,e169,hx169_0,hx169_1,hl169_0,hi169_0⟩ := at_T34 HR0.out x5_1 p169 q169
                cases e169
                have HR169_0 := Aside0.mk hi169_0
                have HC169_0 := Aside0.mk hl169_0
                clear hi169_0 hl169_0
                replace p169 := eq_true p169
                replace q169 := eq_true q169
                have p170 : 0 ≤ (x5_1 : Int) := of_decide_eq_true (by first | (with_reducible assumption) | assumption)
                have q170 : x5_1 < (l1.length : Int) := of_decide_eq_true (by first | (with_reducible assumption) | assumption)
                obtain ⟨ad170,A170_0,c170_0,e170,hx170_0,hx170_1,hl170_0,hi170_0⟩ := at_T34 HR1.out x5_1 p170 q170
                cases e170
                have HR170_0 := Aside0.mk hi170_0
                have HC170_0 := Aside0.mk hl170_0
                clear hi170_0 hl170_0
                replace p170 := eq_true p170
                replace q170 := eq_true q170
                go_wp2
                repeat (go_quiet (fail);try go_wp2)
                go_ret
                exact ⟨by first | rfl | (simp;done) | (simp [*];done),by repeat (first | exact Drawn0.refl _ | apply Drawn0.step)⟩
            · rw [if_neg c6] at H
              exact absurd H (by simp)
          · rw [if_neg c5] at H
            exact absurd H (by simp)
        · rw [if_neg c4] at H
          have c4b0 : decide (x5_1 < (l0.length : Int)) = false := decide_eq_false c4
          clear c4
          obtain rfl := Option.some.inj H
          go_wp2
          repeat (go_quiet (fail);try go_wp2)
          go_ret
          exact ⟨by first | rfl | (simp;done) | (simp [*];done),by repeat (first | exact Drawn0.refl _ | apply Drawn0.step)⟩
  · rw [if_neg c3] at H
    have c3b0 : ((l0.length : Int) == (l1.length : Int)) = false := beq_eq_false_iff_ne.mpr c3
    have c3b1 : ((l0.length : Int) != (l1.length : Int)) = true := bne_iff_ne.mpr c3
    have c3b2 : (l0.length == l1.length) = false := by first | simpa using c3 | (simp at c3 ⊢;omega)
    obtain rfl := Option.some.inj H
    go_enter Try.func31,Try.ntmps31
    go_wp2
    repeat (go_quiet (fail);try go_wp2)
    go_ret
    exact ⟨by first | rfl | (simp;done) | (simp [*];done),by repeat (first | exact Drawn0.refl _ | apply Drawn0.step)⟩
end Go.Proofs.Ythmbfcfomcaaaaa.Z
end
section
namespace Go.Proofs.Ythmbfcfomcaaaaa.Z
set_option linter.unusedVariables false
set_option linter.unusedSimpArgs false
open Go.RowKit Go.Proofs.YthmbfcfomcaaaaaW.PrintWords Go.Proofs.YthmbfcfomcaaaaaW.PrintLast Go.Proofs.YthmbfcfomcaaaaaW.PrintMore Go.Proofs.Ythmbfcfomcaaaaa.Cmp
structure EnsC (w : World) (A : Option Addr) (c : Nat) (L : List En) : Prop where
  cap : L.length ≤ c
  row : Kd.C k34 w A L.length L
theorem EnsC.below {w w1 : World} {A : Option Addr} {c : Nat} {L : List En} (h : EnsC w A c L) (hb : Below w.heap.size w w1) : EnsC w1 A c L := ⟨h.cap,Kd.C_below h.row hb⟩
theorem rd_at (xs : List En) (i : Nat) : rd_T34 xs (i : Int) = xs.getD i z34 := rfl
theorem equal_at (A0 A1 : Option Addr) (c0 c1 : Nat) (l : Rw) (w : World) (h0 : RowC w A0 c0 l) (h1 : RowC w A1 c1 l) :
    Calls Try.prog 22 #[.slice A0 l.length c0,.slice A1 l.length c1] w fun e w' => e = .returned (.bool true) ∧ Drawn0 w w' :=
  verdererref02_Equal.calls (l.length + 1) A0 c0 l A1 c1 l true w h0.row h0.cap h1.row h1.cap (equal_self l h0.max (l.length + 1) (by omega))
end Go.Proofs.Ythmbfcfomcaaaaa.Z
end
section
namespace Go.Proofs.Ythmbfcfomcaaaaa.Z
set_option linter.unusedVariables false
set_option linter.unusedSimpArgs false
open Go.RowKit Go.Proofs.YthmbfcfomcaaaaaW.PrintWords Go.Proofs.YthmbfcfomcaaaaaW.PrintLast Go.Proofs.YthmbfcfomcaaaaaW.PrintMore Go.Proofs.Ythmbfcfomcaaaaa.Cmp
structure SameW (w w' : World) : Prop where
  heap : w'.heap = w.heap
  os : w'.os = w.os
  tape : w'.tape = w.tape
  output : w'.output = w.output
structure NextW (N : Nat) (w w' : World) : Prop where
  below : Below N w w'
  le : N ≤ w'.heap.size
theorem NextW.refl (w : World) : NextW w.heap.size w w := ⟨Below.refl _ _,Nat.le_refl _⟩
theorem NextW.next {N : Nat} {w w1 w2 W : World} (h : NextW N w w1) (hb : Below W.heap.size W w2) (e : SameW w1 W := by exact ⟨rfl,rfl,rfl,rfl⟩) : NextW N w w2 := by
  have h1 : Below N w W := ⟨e.os.trans h.below.os,e.tape.trans h.below.tape,e.output.trans h.below.output,by rw [e.heap];exact h.below.size,fun k hk => by rw [e.heap];exact h.below.block k hk⟩
  have hs : N ≤ W.heap.size := by rw [e.heap];exact h.le
  exact ⟨h1.trans (hb.mono hs),Nat.le_trans hs hb.size⟩
theorem NextW.nextN {N : Nat} {w w1 w2 W : World} (h : NextW N w w1) (hb : Below N W w2) (e : SameW w1 W := by exact ⟨rfl,rfl,rfl,rfl⟩) : NextW N w w2 := by
  have h1 : Below N w W := ⟨e.os.trans h.below.os,e.tape.trans h.below.tape,e.output.trans h.below.output,by rw [e.heap];exact h.below.size,fun k hk => by rw [e.heap];exact h.below.block k hk⟩
  have hs : N ≤ W.heap.size := by rw [e.heap];exact h.le
  exact ⟨h1.trans hb,Nat.le_trans hs hb.size⟩
theorem NextW.at_ {N : Nat} {w w1 W : World} (h : NextW N w w1) (e : SameW w1 W := by exact ⟨rfl,rfl,rfl,rfl⟩) : Below N w W :=
  ⟨e.os.trans h.below.os,e.tape.trans h.below.tape,e.output.trans h.below.output,by rw [e.heap];exact h.below.size,fun k hk => by rw [e.heap];exact h.below.block k hk⟩
theorem SameW.below {w W : World} (e : SameW w W) (N : Nat) : Below N w W := ⟨e.os,e.tape,e.output,by rw [e.heap];exact Nat.le_refl _,fun k _ => by rw [e.heap]⟩
theorem SameW.refl (w : World) : SameW w w := ⟨rfl,rfl,rfl,rfl⟩
theorem SameW.drew (w : World) : SameW w w.drew := ⟨rfl,rfl,rfl,rfl⟩
theorem SameW.drewN (w : World) (n : Nat) : SameW w (w.drewN n) := ⟨rfl,rfl,rfl,rfl⟩
theorem OkD.len {L : List En} (h : OkD L) : ∀ x ∈ L,x.f0.length ≤ 1000000 := fun x hx => by have := right_len (h x hx).1;omega
structure Two (N : Nat) (w : World) (b : Nat) (t : Tr) (D : Nat → Prop) (g : Nat) (A : Option Addr) (c : Nat) (L : List En) (E : Nat → Prop) : Prop where
  bag : BagAt w b t D
  ref : RefV w g A c L E
  own : ∀ k,BagOwn b t D k → N ≤ k ∧ k ≠ g ∧ ¬ E k
  g_le : N ≤ g
  e_le : ∀ k,E k → N ≤ k
theorem BagAt.own_lt {w : World} {b : Nat} {t : Tr} {D : Nat → Prop} (h : BagAt w b t D) : ∀ k,BagOwn b t D k → k < w.heap.size := fun k hk => by
  rcases hk with rfl | q | q
  · exact h.lt.1
  · exact h.lt.2.1 k q
  · exact h.lt.2.2 k q
theorem RefV.g_lt {w : World} {g : Nat} {A : Option Addr} {c : Nat} {L : List En} {E : Nat → Prop} (h : RefV w g A c L E) : g < w.heap.size := blk_lt h.blk
theorem Two.below {N : Nat} {w w1 : World} {b : Nat} {t : Tr} {D : Nat → Prop} {g : Nat} {A : Option Addr} {c : Nat} {L : List En} {E : Nat → Prop} (h : Two N w b t D g A c L E) (hb : Below w.heap.size w w1) : Two N w1 b t D g A c L E :=
  ⟨h.bag.below hb,h.ref.below hb,h.own,h.g_le,h.e_le⟩
theorem Two.heap {N : Nat} {w w1 : World} {b : Nat} {t : Tr} {D : Nat → Prop} {g : Nat} {A : Option Addr} {c : Nat} {L : List En} {E : Nat → Prop} (h : Two N w b t D g A c L E) (e : SameW w w1 := by exact ⟨rfl,rfl,rfl,rfl⟩) : Two N w1 b t D g A c L E :=
  h.below ⟨e.os,e.tape,e.output,by rw [e.heap];exact Nat.le_refl _,fun k _ => by rw [e.heap]⟩
theorem Two.bagged {N : Nat} {w w1 : World} {b : Nat} {t t' : Tr} {D D' : Nat → Prop} {g : Nat} {A : Option Addr} {c : Nat} {L : List En} {E : Nat → Prop} (h : Two N w b t D g A c L E) (hN : N ≤ w.heap.size) (ha : BagAt w1 b t' D') (hc : BagCh w w1 b t t' D D') : Two N w1 b t' D' g A c L E ∧ Below N w w1 := by
  have hg := h.ref.g_lt
  refine ⟨⟨ha,h.ref.keep hc.ch (fun s => (h.own g (s.elim .inl (fun q => .inr (.inl q)))).2.1 rfl) (fun k hk s => (h.own k (s.elim .inl (fun q => .inr (.inl q)))).2.2 hk),fun k hk => ?_,h.g_le,h.e_le⟩,hc.ch.toBelow hN (fun k s => (h.own k (s.elim .inl (fun q => .inr (.inl q)))).1)⟩
  rcases hc.own k hk with q | q
  · exact h.own k q
  · exact ⟨by omega,by omega,fun he => by have := h.ref.lt k he;omega⟩
end Go.Proofs.Ythmbfcfomcaaaaa.Z
end
section
namespace Go.Proofs.Ythmbfcfomcaaaaa.Z
set_option linter.unusedVariables false
set_option linter.unusedSimpArgs false
open Go.RowKit Go.Proofs.YthmbfcfomcaaaaaW.PrintWords Go.Proofs.YthmbfcfomcaaaaaW.PrintLast Go.Proofs.YthmbfcfomcaaaaaW.PrintMore Go.Proofs.Ythmbfcfomcaaaaa.Cmp
theorem row_one {w : World} {g q : Nat} {x : S66} (h : w.heap[g]? = some (.cells #[.int .i64 x.f0,.bool x.f1,.int .i64 x.f2,.string x.f3] q (0,0))) : RowC w (some ⟨g,0,none⟩) 1 [x] :=
  ⟨Nat.le_refl 1,rfl,by simp,fun _ => ⟨_,rfl,fun j p hj => by
    cases j with
    | succ j => simp at hj
    | zero =>
      simp only [List.getElem?_cons_zero,Option.some.injEq] at hj
      subst hj
      refine ⟨_,rfl,k66_mk w x,fun i u hi => ?_⟩
      rw [Nat.zero_mul,Nat.zero_add,add_plain]
      have h1 := blk_cell h i
      rw [h1,← hi]
      simp⟩⟩
def knV (n : Int) : S66 := ⟨2,false,n,⟨#[]⟩⟩
theorem kn1 : addD [knV 1] 2 [] = (0,[⟨[knV 1],2⟩]) := by kernel_rfl
theorem kn2 : addD [knV 2] 1 [⟨[knV 1],2⟩] = (0,[⟨[knV 1],2⟩,⟨[knV 2],1⟩]) := by kernel_rfl
theorem kn3 : addD [knV 1] (-2) [⟨[knV 1],2⟩,⟨[knV 2],1⟩] = (0,[⟨[knV 2],1⟩]) := by kernel_rfl
theorem kn4 : manyD [knV 2] [⟨[knV 2],1⟩] = 1 := by decide +kernel
theorem kn5 : manyD [knV 1] [⟨[knV 2],1⟩] = 0 := by decide +kernel
structure One (N : Nat) (w : World) (b : Nat) (t : Tr) (D : Nat → Prop) : Prop where
  bag : BagAt w b t D
  own : ∀ k,BagOwn b t D k → N ≤ k
theorem One.below {N : Nat} {w w1 : World} {b : Nat} {t : Tr} {D : Nat → Prop} (h : One N w b t D) (hb : Below w.heap.size w w1) : One N w1 b t D := ⟨h.bag.below hb,h.own⟩
theorem One.bagged {N : Nat} {w w1 : World} {b : Nat} {t t' : Tr} {D D' : Nat → Prop} (h : One N w b t D) (hN : N ≤ w.heap.size) (ha : BagAt w1 b t' D') (hc : BagCh w w1 b t t' D D') : One N w1 b t' D' ∧ Below N w w1 :=
  ⟨⟨ha,fun k hk => (hc.own k hk).elim (h.own k) (fun q => by omega)⟩,hc.ch.toBelow hN (fun k s => h.own k (s.elim .inl (fun q => .inr (.inl q))))⟩
theorem bag_new1 (w : World) : Calls Try.prog 15 #[] w fun e w' => ∃ b,e = .returned (.pointer (some ⟨b,0,none⟩)) ∧ One w.heap.size w' b .nil (fun _ => False) ∧ Below w.heap.size w w' := by
  refine (bag_new w).mono ?_
  rintro e w1 ⟨rfl,hA,hb⟩
  exact ⟨_,rfl,⟨hA,fun k hk => by rcases hk with rfl | q | q <;> first | exact Nat.le_refl _ | (simp [Tr.ids_nil] at q) | exact q.elim⟩,hb⟩
def Off (w w' : World) (o o' : Nat → Prop) : Prop := ∀ k,k < w.heap.size → ¬ o k → w'.heap[k]? = w.heap[k]? ∧ ¬ o' k
theorem BagCh.off {w w' : World} {b : Nat} {t t' : Tr} {D D' : Nat → Prop} (h : BagCh w w' b t t' D D') : Off w w' (BagOwn b t D) (BagOwn b t' D') := fun k hk hn =>
  ⟨h.ch.block k hk (fun s => hn (s.elim .inl (fun q => .inr (.inl q)))),fun ho => (h.own k ho).elim hn (fun q => by omega)⟩
structure Lit (w : World) (o : Nat → Prop) (g : Nat) (x : S66) : Prop where
  blk : w.heap[g]? = some (.cells #[.int .i64 x.f0,.bool x.f1,.int .i64 x.f2,.string x.f3] 66 (0,0))
  off : ¬ o g
theorem Lit.step {w w' : World} {o o' : Nat → Prop} {g : Nat} {x : S66} (h : Lit w o g x) (k : Off w w' o o') : Lit w' o' g x := ⟨(k g (blk_lt h.blk) h.off).1.trans h.blk,(k g (blk_lt h.blk) h.off).2⟩
theorem Lit.below {w w' : World} {o : Nat → Prop} {g : Nat} {x : S66} (h : Lit w o g x) (k : Below w.heap.size w w') : Lit w' o g x := ⟨(k.block g (blk_lt h.blk)).trans h.blk,h.off⟩
theorem Lit.row {w : World} {o : Nat → Prop} {g : Nat} {x : S66} (h : Lit w o g x) : RowC w (some ⟨g,0,none⟩) 1 [x] := row_one h.blk
theorem add1 {N : Nat} {D : Nat → Prop} {b : Nat} {t : Tr} {A : Option Addr} {c : Nat} {r : Rw} (m : Int) {w : World} {L L' : List En} {q : Int} (h : One N w b t D) (hN : N ≤ w.heap.size) (hr : RowC w A c r) (hd : docT t = L) (hs : L.length ≤ 1000000) (ha : addD r m L = (q,L')) :
    Calls Try.prog 16 #[.pointer (some ⟨b,0,none⟩),.slice A r.length c,.int .i64 m] w fun e w' => ∃ t' D',e = .returned (.int .i64 q) ∧ docT t' = L' ∧ One N w' b t' D' ∧ Below N w w' ∧ Off w w' (BagOwn b t D) (BagOwn b t' D') := by
  refine (bag_add b t A c r m w h.bag hr (by rw [← doc_len,hd];omega)).mono ?_
  rintro e w1 ⟨t',D',rfl,h2,h3,h4⟩
  rw [hd,ha] at h2 ⊢
  obtain ⟨i1,i2⟩ := h.bagged hN h3 h4
  exact ⟨t',D',rfl,h2,i1,i2,h4.off⟩
theorem many1 {N : Nat} {D : Nat → Prop} {b : Nat} {t : Tr} {A : Option Addr} {c : Nat} {r : Rw} {w : World} {L : List En} {q : Int} (h : One N w b t D) (hr : RowC w A c r) (hd : docT t = L) (ha : manyD r L = q) :
    Calls Try.prog 18 #[.pointer (some ⟨b,0,none⟩),.slice A r.length c] w fun e w' => e = .returned (.int .i64 q) ∧ Below w.heap.size w w' := by
  have h1 := bag_many b t A c r w h.bag hr
  rw [hd,ha] at h1
  exact h1
set_option maxHeartbeats 4000000 in
set_option maxRecDepth 100000 in
theorem known_at (w : World) : Calls Try.prog 14 #[] w fun e w' => e = .returned (.bool true) ∧ Below w.heap.size w w' := by
  go_enter Try.func14,Try.ntmps14
  go_wp2_with (fail)
  refine (bag_new1 w).mono ?_
  rintro e w1 ⟨b,rfl,hA,hb⟩
  have I1 := Aside0.mk ((NextW.refl w).next hb)
  have HA := Aside0.mk hA
  clear hA hb
  go_upto_region 4 with (fail)
  have B2 : Below w1.heap.size w1 (w1.alloc (Obj.cells #[.int .i64 2,.bool false,.int .i64 1,.string ⟨#[]⟩] 66)) := below_alloc (Below.refl w1.heap.size w1) _
  have I2 := Aside0.mk (I1.out.next B2)
  have R2 := Aside0.mk (show Lit (w1.alloc (Obj.cells #[.int .i64 2,.bool false,.int .i64 1,.string ⟨#[]⟩] 66)) (BagOwn b .nil fun _ => False) w1.heap.size (knV 1) from ⟨blk_new w1 _,fun ho => absurd (HA.out.bag.own_lt _ ho) (Nat.lt_irrefl _)⟩)
  have HA2 := Aside0.mk (HA.out.below B2)
  have E2 : (w1.alloc (Obj.cells #[.int .i64 2,.bool false,.int .i64 1,.string ⟨#[]⟩] 66)).heap.size = w1.heap.size + 1 := Array.size_push _
  obtain ⟨x1,hx1⟩ : ∃ x1,w1.heap.size = x1 := ⟨_,rfl⟩
  rw [hx1] at R2 E2 ⊢
  clear hx1 I1 HA B2
  generalize w1.alloc (Obj.cells #[.int .i64 2,.bool false,.int .i64 1,.string ⟨#[]⟩] 66) = w2 at *
  have B3 : Below w2.heap.size w2 (w2.alloc (Obj.cells #[.int .i64 2,.bool false,.int .i64 2,.string ⟨#[]⟩] 66)) := below_alloc (Below.refl w2.heap.size w2) _
  have I3 := Aside0.mk (I2.out.next B3)
  have S3 := Aside0.mk (show Lit (w2.alloc (Obj.cells #[.int .i64 2,.bool false,.int .i64 2,.string ⟨#[]⟩] 66)) (BagOwn b .nil fun _ => False) w2.heap.size (knV 2) from ⟨blk_new w2 _,fun ho => absurd (HA2.out.bag.own_lt _ ho) (Nat.lt_irrefl _)⟩)
  have HA3 := Aside0.mk (HA2.out.below B3)
  have R3 := Aside0.mk (R2.out.below B3)
  rw [← E2]
  obtain ⟨x2,hx2⟩ : ∃ x2,w2.heap.size = x2 := ⟨_,rfl⟩
  rw [hx2] at S3 ⊢
  clear hx2 E2 I2 HA2 R2 B3
  generalize w2.alloc (Obj.cells #[.int .i64 2,.bool false,.int .i64 2,.string ⟨#[]⟩] 66) = w3 at *
  go_wp2_with (fail)
  refine (add1 2 HA3.out I3.out.le R3.out.row rfl (by decide) kn1).mono ?_
  rintro e w4 ⟨t4,D4,rfl,hd,hA,hb,ho⟩
  have E4 := Aside0.mk hd
  have HA4 := Aside0.mk hA
  have R4 := Aside0.mk (R3.out.step ho)
  have S4 := Aside0.mk (S3.out.step ho)
  have I4 := Aside0.mk (I3.out.nextN hb)
  clear hd hA hb ho HA3 R3 S3 I3
  go_wp2_with (fail)
  refine (add1 1 HA4.out I4.out.le S4.out.row E4.out (by decide) kn2).mono ?_
  rintro e w5 ⟨t5,D5,rfl,hd,hA,hb,ho⟩
  have E5 := Aside0.mk hd
  have HA5 := Aside0.mk hA
  have R5 := Aside0.mk (R4.out.step ho)
  have S5 := Aside0.mk (S4.out.step ho)
  have I5 := Aside0.mk (I4.out.nextN hb)
  clear hd hA hb ho HA4 R4 S4 I4 E4
  go_wp2_with (fail)
  refine (add1 (-2) HA5.out I5.out.le R5.out.row E5.out (by decide) kn3).mono ?_
  rintro e w6 ⟨t6,D6,rfl,hd,hA,hb,ho⟩
  have E6 := Aside0.mk hd
  have HA6 := Aside0.mk hA
  have R6 := Aside0.mk (R5.out.step ho)
  have S6 := Aside0.mk (S5.out.step ho)
  have I6 := Aside0.mk (I5.out.nextN hb)
  clear hd hA hb ho HA5 R5 S5 I5 E5
  go_wp2_with (fail)
  have LS := Aside0.mk (bag_least b t6 w6 HA6.out.bag)
  rw [E6.out] at LS
  simp only [List.head?_cons,codeOf,rowOf] at LS
  refine LS.out.mono ?_
  rintro e w7 ⟨v7,rfl,hv,hb⟩
  have HA7 := Aside0.mk (HA6.out.below hb)
  have R7 := Aside0.mk (R6.out.below hb)
  have S7 := Aside0.mk (S6.out.below hb)
  have I7 := Aside0.mk (I6.out.next hb)
  obtain ⟨A7,c7,e7⟩ := Kd.R_slice hv
  have C7 := Aside0.mk (show RowC w7 A7 c7 [knV 2] by subst e7;exact ⟨(Kd.R_reads' hv).2.1,(Kd.R_reads' hv).2.2⟩)
  clear hv hb HA6 R6 S6 I6 LS
  subst e7
  simp only [List.length_cons,List.length_nil,Nat.zero_add]
  go_wp2_with (fail)
  have LN := Aside0.mk (bag_len b t6 w7 HA7.out.bag)
  rw [E6.out] at LN
  refine LN.out.mono ?_
  rintro e w7' ⟨rfl,rfl⟩
  clear LN
  simp only [List.length_cons,List.length_nil,Nat.zero_add]
  go_wp2_with (fail)
  refine (many1 HA7.out S7.out.row E6.out kn4).mono ?_
  rintro e w8 ⟨rfl,hb⟩
  have HA8 := Aside0.mk (HA7.out.below hb)
  have R8 := Aside0.mk (R7.out.below hb)
  have S8 := Aside0.mk (S7.out.below hb)
  have I8 := Aside0.mk (I7.out.next hb)
  have C8 := Aside0.mk (C7.out.below hb)
  clear hb HA7 R7 S7 I7 C7
  go_wp2_with (fail)
  refine (many1 HA8.out R8.out.row E6.out kn5).mono ?_
  rintro e w9 ⟨rfl,hb⟩
  have S9 := Aside0.mk (S8.out.below hb)
  have I9 := Aside0.mk (I8.out.next hb)
  have C9 := Aside0.mk (C8.out.below hb)
  clear hb HA8 R8 S8 I8 C8
  go_wp2_with (fail)
  refine (equal_at _ _ _ _ [knV 2] w9 C9.out S9.out.row).mono ?_
  rintro e w10 ⟨rfl,hd⟩
  have I10 := Aside0.mk (I9.out.next hd.below)
  clear hd C9 S9 I9
  go_wp2_with (fail)
  go_ret
  exact ⟨rfl,I10.out.at_⟩
end Go.Proofs.Ythmbfcfomcaaaaa.Z
end
section
namespace Go.Proofs.Ythmbfcfomcaaaaa.Z
open Go.RowKit Go.Proofs.YthmbfcfomcaaaaaW.PrintWords Go.Proofs.YthmbfcfomcaaaaaW.PrintLast Go.Proofs.YthmbfcfomcaaaaaW.PrintMore
attribute [local go_sem] max2_int min2_int max_two min_two max_three min_three max_four min_four
set_option linter.unusedVariables false
set_option linter.unusedSimpArgs false
def verdererlaw05_few.l0 : Nat → List (S34) → Int → Option (Bool)
  | 0,_,_ => none
  | k + 1,x0,x3 => if x3 < (x0.length : Int) then (if 0 ≤ x3 then (if (((rd_T34 x0 x3).f0).length : Int) > 50 then (some false) else (verdererlaw05_few.l0 k x0 (wrap64 (x3 + 1)))) else (none)) else (some true)
def verdererlaw05_few.f (k : Nat) (l0 : List (S34)) : Option (Bool) := if (l0.length : Int) > 120 then (some false) else (verdererlaw05_few.l0 k l0 0)
theorem verdererlaw05_few.mono_l : ∀ k,(∀ y0 y1,LeO (verdererlaw05_few.l0 k y0 y1) (verdererlaw05_few.l0 (k + 1) y0 y1))
  | 0 => fun _ _ r h => by simp [verdererlaw05_few.l0] at h
  | k + 1 => by
    have ih0 := verdererlaw05_few.mono_l k
    · intro y0 y1
      unfold verdererlaw05_few.l0
      repeat' first
      | (with_reducible exact ih0 _ _)
      | (with_reducible exact LeO.refl _)
      | (with_reducible exact LeO.none _)
      | (with_reducible refine LeO.ite ?_ ?_)
      | (with_reducible refine LeO.bind ?_ (fun _ => ?_))
      | exact ih0 _ _
      | exact LeO.none _
      | refine LeO.ite ?_ ?_
      | refine LeO.bind ?_ (fun _ => ?_)
theorem verdererlaw05_few.mono : ∀ a0 k,LeO (verdererlaw05_few.f k a0) (verdererlaw05_few.f (k + 1) a0) := by
  intro a0 k
  have ih0 := verdererlaw05_few.mono_l k
  unfold verdererlaw05_few.f
  repeat' first
      | (with_reducible exact ih0 _ _)
      | (with_reducible exact LeO.refl _)
      | (with_reducible exact LeO.none _)
      | (with_reducible refine LeO.ite ?_ ?_)
      | (with_reducible refine LeO.bind ?_ (fun _ => ?_))
      | exact ih0 _ _
      | exact LeO.none _
      | refine LeO.ite ?_ ?_
      | refine LeO.bind ?_ (fun _ => ?_)
set_option maxHeartbeats 8000000 in
set_option maxRecDepth 100000 in
theorem verdererlaw05_few.calls (k : Nat) (A0 : Option Addr) (c0 : Nat) (l0 : List (S34)) (r : Bool) (w : World) (hr0 : Kd.C k34 w A0 l0.length l0) (hc0 : l0.length ≤ c0) (h : verdererlaw05_few.f k l0 = some r) :
    Calls Try.prog 13 #[.slice A0 l0.length c0] w fun e w' => e = .returned (.bool r) ∧ Drawn0 w w' := by
  have HR0 := Aside0.mk hr0
  have HC0 := Aside0.mk hc0
  clear hr0 hc0
  have H : (if (l0.length : Int) > 120 then (some false) else (verdererlaw05_few.l0 k l0 0)) = some r := h
  clear h
  by_cases c2 : (l0.length : Int) > 120
  · rw [if_pos c2] at H
    have c2b0 : decide (120 < (l0.length : Int)) = true := decide_eq_true c2
    have c2b1 : decide (120 < l0.length) = true := decide_eq_true (by omega)
    clear c2
    obtain rfl := Option.some.inj H
    go_enter Try.func13,Try.ntmps13
    go_wp2
    go_ret
    exact ⟨by first | rfl | (simp;done) | (simp [*];done),by repeat (first | exact Drawn0.refl _ | apply Drawn0.step)⟩
  · rw [if_neg c2] at H
    have c2b0 : decide (120 < (l0.length : Int)) = false := decide_eq_false c2
    have c2b1 : decide (120 < l0.length) = false := decide_eq_false (by omega)
    clear c2
    have H' := Aside0.mk H
    clear H
    go_enter Try.func13,Try.ntmps13
    go_wp2
    go_loopg [3] k (fun kq v3 w' => ∃ (x3_1 : Int),v3 = .int .i64 x3_1 ∧ Aside0 (verdererlaw05_few.l0 kq l0 x3_1 = some r) ∧ Aside0 (kq ≤ k) ∧ Drawn0 w w')
    case atStart => exact ⟨(0),(by first | rfl | (simp;done) | (simp [*];done)),H',⟨Nat.le_refl _⟩,by repeat (first | exact Drawn0.refl _ | apply Drawn0.step)⟩
    case round =>
      clear H'
      try clear c1
      try clear c2
      try clear c2b0
      try clear c2b1
      try clear p2
      obtain ⟨x3_1,rfl,HA,HK1,⟨m1,rfl⟩⟩ := hrel
      cases gk with
      | zero => exact absurd HA.out (by simp [verdererlaw05_few.l0])
      | succ k1 =>
        have H := HA.out
        clear HA
        simp only [verdererlaw05_few.l0] at H
        by_cases c3 : x3_1 < (l0.length : Int)
        · rw [if_pos c3] at H
          have c3b0 : decide (x3_1 < (l0.length : Int)) = true := decide_eq_true c3
          clear c3
          by_cases c4 : 0 ≤ x3_1
          · rw [if_pos c4] at H
            have c4b0 : decide (0 ≤ x3_1) = true := decide_eq_true c4
            clear c4
            by_cases c5 : (((rd_T34 l0 x3_1).f0).length : Int) > 50
            · rw [if_pos c5] at H
              have c5b0 : decide (50 < (((rd_T34 l0 x3_1).f0).length : Int)) = true := decide_eq_true c5
              have c5b1 : decide (50 < ((rd_T34 l0 x3_1).f0).length) = true := decide_eq_true (by omega)
              clear c5
              obtain rfl := Option.some.inj H
              have p168 : 0 ≤ (x3_1 : Int) := of_decide_eq_true (by first | (with_reducible assumption) | assumption)
              have q168 : x3_1 < (l0.length : Int) := of_decide_eq_true (by first | (with_reducible assumption) | assumption)
              obtain ⟨ad168,A168_0,c168_0,e168,hx168_0,hx168_1,hl168_0,hi168_0⟩ := at_T34 HR0.out x3_1 p168 q168
              cases e168
              have HR168_0 := Aside0.mk hi168_0
              have HC168_0 := Aside0.mk hl168_0
              clear hi168_0 hl168_0
              replace p168 := eq_true p168
              replace q168 := eq_true q168
              go_wp2
              go_ret
              exact ⟨by first | rfl | (simp;done) | (simp [*];done),by repeat (first | exact Drawn0.refl _ | apply Drawn0.step)⟩
            · rw [if_neg c5] at H
              have c5b0 : decide (50 < (((rd_T34 l0 x3_1).f0).length : Int)) = false := decide_eq_false c5
              have c5b1 : decide (50 < ((rd_T34 l0 x3_1).f0).length) = false := decide_eq_false (by omega)
              clear c5
              have H' := Aside0.mk H
              clear H
              have p168 : 0 ≤ (x3_1 : Int) := of_decide_eq_true (by first | (with_reducible assumption) | assumption)
              have q168 : x3_1 < (l0.length : Int) := of_decide_eq_true (by first | (with_reducible assumption) | assumption)
              obtain ⟨ad168,A168_0,c168_0,e168,hx168_0,hx168_1,hl168_0,hi168_0⟩ := at_T34 HR0.out x3_1 p168 q168
              cases e168
              have HR168_0 := Aside0.mk hi168_0
              have HC168_0 := Aside0.mk hl168_0
              clear hi168_0 hl168_0
              replace p168 := eq_true p168
              replace q168 := eq_true q168
              go_wp2
              go_roundg k1
              case measure => have := HK1.out;omega
              case rel => exact ⟨(wrap64 (x3_1 + 1)),(by first | rfl | (simp;done) | (simp [*];done)),H',⟨by have := HK1.out;omega⟩,by repeat (first | exact Drawn0.refl _ | apply Drawn0.step)⟩
          · rw [if_neg c4] at H
            exact absurd H (by simp)
        · rw [if_neg c3] at H
          have c3b0 : decide (x3_1 < (l0.length : Int)) = false := decide_eq_false c3
          clear c3
          obtain rfl := Option.some.inj H
          go_wp2
          go_ret
          exact ⟨by first | rfl | (simp;done) | (simp [*];done),by repeat (first | exact Drawn0.refl _ | apply Drawn0.step)⟩
end Go.Proofs.Ythmbfcfomcaaaaa.Z
end
section
namespace Go.Proofs.Ythmbfcfomcaaaaa.Z
set_option linter.unusedVariables false
set_option linter.unusedSimpArgs false
open Go.RowKit Go.Proofs.YthmbfcfomcaaaaaW.PrintWords Go.Proofs.YthmbfcfomcaaaaaW.PrintLast Go.Proofs.YthmbfcfomcaaaaaW.PrintMore Go.Proofs.Ythmbfcfomcaaaaa.Cmp
theorem few_l0 (l : List En) (hl : l.length ≤ 120) : ∀ d i k,l.length - i = d → i ≤ l.length → d < k → ∃ r,verdererlaw05_few.l0 k l (i : Int) = some r := by
  intro d
  induction d with
  | zero =>
    intro i k hd hi hk
    obtain ⟨k,rfl⟩ : ∃ m,k = m + 1 := ⟨k - 1,by omega⟩
    simp only [verdererlaw05_few.l0]
    rw [if_neg (by omega)]
    exact ⟨_,rfl⟩
  | succ d ih =>
    intro i k hd hi hk
    obtain ⟨k,rfl⟩ : ∃ m,k = m + 1 := ⟨k - 1,by omega⟩
    simp only [verdererlaw05_few.l0]
    rw [if_pos (by omega),if_pos (by omega),show wrap64 ((i : Int) + 1) = ((i + 1 : Nat) : Int) by unfold wrap64;omega]
    split
    · exact ⟨_,rfl⟩
    · exact ih (i + 1) k (by omega) (by omega) (by omega)
theorem few_some (l : List En) : ∃ r,verdererlaw05_few.f 200 l = some r ∧ (r = true → l.length ≤ 120) := by
  unfold verdererlaw05_few.f
  by_cases h : (l.length : Int) > 120
  · rw [if_pos h];exact ⟨false,rfl,fun h => by cases h⟩
  · rw [if_neg h]
    obtain ⟨r,hr⟩ := few_l0 l (by omega) l.length 0 200 (by omega) (by omega) (by omega)
    exact ⟨r,hr,fun _ => by omega⟩
theorem lfew_at (A : Option Addr) (n c : Nat) (l : List En) (w : World) (h : Kd.C k34 w A n l) (hc : n ≤ c) : Calls Try.prog 13 #[.slice A n c] w fun e w' => ∃ r,e = .returned (.bool r) ∧ (r = true → n ≤ 120) ∧ Below w.heap.size w w' := by
  have e : l.length = n := h.1
  subst e
  obtain ⟨r,h1,h2⟩ := few_some l
  refine (verdererlaw05_few.calls 200 A c l r w h hc h1).mono ?_
  rintro e w' ⟨rfl,hd⟩
  exact ⟨r,rfl,h2,hd.below⟩
theorem ent_get {w : World} {A : Option Addr} {n : Nat} {L : List En} (h : Kd.C k34 w A n L) {i : Nat} (hi : i < n) {x : En} (hx : L[i]? = some x) :
    ∃ ad A0 c0,A = some ad ∧ w.cell? (ad.add (i * 2)) = some (.slice A0 x.f0.length c0) ∧ w.cell? ⟨(ad.add (i * 2)).block,(ad.add (i * 2)).off + 1,none⟩ = some (.int .i64 x.f1) ∧ RowC w A0 c0 x.f0 := by
  obtain ⟨ad,cs,e1,hcl,hK,hcc⟩ := Kd.C_get h z34 (i : Int) (by omega) (by omega)
  simp only [Int.toNat_natCast] at hK hcc
  rw [List.getD_eq_getElem?_getD,hx] at hK
  obtain ⟨A0,c0,e2,hl,hF⟩ := k34_open hK
  subst e2
  have hc : ∀ j u,[Value.slice A0 x.f0.length c0,Value.int .i64 x.f1][j]? = some u → w.cell? (ad.add (i * 2 + j)) = some u := hcc
  exact ⟨ad,A0,c0,e1,hc 0 _ rfl,by rw [← add_field _ _ 1 (by omega)];exact hc 1 _ rfl,hl,hF⟩
theorem addD_len (r : Rw) (m : Int) {L : List En} (h : SrtD L) : (addD r m L).2.length ≤ L.length + 1 := by
  unfold addD
  split
  · split
    · have := putD_len r (manyD r L + m) h
      simp only
      split at this <;> omega
    · simp
  · simp
theorem bag_two {N : Nat} {w0 : World} (w : World) (hN : NextW N w0 w) : Calls Try.prog 15 #[] w fun e w' => ∃ b,e = .returned (.pointer (some ⟨b,0,none⟩)) ∧ One N w' b .nil (fun _ => False) ∧ NextW N w0 w' := by
  refine (bag_new1 w).mono ?_
  rintro e w1 ⟨b,rfl,h1,hb⟩
  exact ⟨b,rfl,⟨h1.bag,fun k hk => Nat.le_trans hN.le (h1.own k hk)⟩,hN.next hb⟩
end Go.Proofs.Ythmbfcfomcaaaaa.Z
end
section
namespace Go.Proofs.Ythmbfcfomcaaaaa.Z
set_option linter.unusedVariables false
set_option linter.unusedSimpArgs false
open Go.RowKit Go.Proofs.YthmbfcfomcaaaaaW.PrintWords Go.Proofs.YthmbfcfomcaaaaaW.PrintLast Go.Proofs.YthmbfcfomcaaaaaW.PrintMore Go.Proofs.Ythmbfcfomcaaaaa.Cmp
end Go.Proofs.Ythmbfcfomcaaaaa.Z
end
section
namespace Go.Proofs.Ythmbfcfomcaaaaa.Z
set_option linter.unusedVariables false
set_option linter.unusedSimpArgs false
open Go.RowKit Go.Proofs.YthmbfcfomcaaaaaW.PrintWords Go.Proofs.YthmbfcfomcaaaaaW.PrintLast Go.Proofs.YthmbfcfomcaaaaaW.PrintMore Go.Proofs.Ythmbfcfomcaaaaa.Cmp
def ofD : List En → List En → Int × List En
  | [],L => (0,L)
  | e :: es,L => if (addD e.f0 e.f1 L).1 = 0 then ofD es (addD e.f0 e.f1 L).2 else ((addD e.f0 e.f1 L).1,L)
set_option maxHeartbeats 8000000 in
set_option maxRecDepth 100000 in
theorem bag_of (A : Option Addr) (n c : Nat) (l : List En) (w : World) (hl : Kd.C k34 w A n l) (hn : n ≤ 1000) :
    Calls Try.prog 26 #[.slice A n c] w fun e w' => ∃ p q L,ofD l [] = (q,L) ∧ e = .returned (.tuple #[.pointer p,.int .i64 q]) ∧ Below w.heap.size w w' ∧ (q ≠ 0 → p = none) ∧ (q = 0 → ∃ b t D,p = some ⟨b,0,none⟩ ∧ docT t = L ∧ L.length ≤ n ∧ One w.heap.size w' b t D) := by
  have HL := Aside0.mk hl
  have LN := Aside0.mk (show l.length = n from hl.1)
  obtain ⟨N,hN⟩ : ∃ N,w.heap.size = N := ⟨_,rfl⟩
  have I0 := Aside0.mk (NextW.refl w)
  have HN := Aside0.mk hN
  rw [hN] at I0 ⊢
  clear hl hN
  go_enter Try.func26,Try.ntmps26
  go_wp2_with (fail)
  refine (bag_two w I0.out).mono ?_
  rintro e w1 ⟨b,rfl,h1,h2⟩
  have T1 := Aside0.mk h1
  have I1 := Aside0.mk h2
  clear h1 h2 I0
  go_wp2_with (fail)
  go_loopw [11] (fun iv wr => ∃ i : Nat,iv = .int .i64 (i : Int) ∧ i ≤ n ∧ Aside0 (∃ t D L,docT t = L ∧ L.length ≤ i ∧ One N wr b t D ∧ ofD l [] = ofD (l.drop i) L) ∧ Aside0 (NextW N w wr)) (fun iv _ => n - (intOf iv).toNat)
  case atStart => exact ⟨0,rfl,Nat.zero_le _,⟨⟨.nil,_,[],rfl,Nat.le_refl 0,T1.out,rfl⟩⟩,I1⟩
  case round =>
    clear T1 I1
    obtain ⟨i,rfl,hi,TT,I4⟩ := hrel
    obtain ⟨t,D,L,hd,hlen,hT,hof⟩ := TT.out
    have DT := Aside0.mk hd
    have LL := Aside0.mk hlen
    have T4 := Aside0.mk hT
    have OF := Aside0.mk hof
    clear TT hd hlen hT hof
    by_cases hin : i < n
    · have k0 : decide ((i : Int) < (n : Int)) = true := decide_eq_true (by omega)
      have k0' : decide (i < n) = true := decide_eq_true hin
      have p0 : (0 : Int) ≤ (i : Int) := by omega
      have p1 : (i : Int) < (n : Int) := by omega
      obtain ⟨x,hx⟩ : ∃ x,l[i]? = some x := ⟨l[i]'(by have := LN.out;omega),List.getElem?_eq_getElem _⟩
      obtain ⟨ad,Ax,cx,e1,x0,x1,hxc⟩ := ent_get HL.out hin hx
      subst e1
      have XC := Aside0.mk hxc
      have LD := Aside0.mk (show l.drop i = x :: l.drop (i + 1) by
        have hil : i < l.length := by have := LN.out;omega
        rw [List.drop_eq_getElem_cons hil]
        rw [List.getElem?_eq_getElem hil] at hx
        rw [Option.some.inj hx])
      replace x0 := (I4.out.below.cell (HN.out ▸ World.block_lt_of_cell? w _ x0)).trans x0
      replace x1 := (I4.out.below.cell (HN.out ▸ World.block_lt_of_cell? w _ x1)).trans x1
      have XB := Aside0.mk (fun W (hb : Below N w W) => show RowC W Ax cx x.f0 from XC.out.below (HN.out ▸ hb))
      clear hx hxc
      obtain ⟨xr,xm⟩ := x
      simp only at *
      go_wp2_with (fail)
      have BA := below_alloc (Below.refl wr.heap.size wr) (Obj.cells #[.slice Ax xr.length cx,.int .i64 xm] 34)
      have T5 := Aside0.mk (T4.out.below BA)
      have I5 := Aside0.mk (I4.out.next BA)
      have SR := Aside0.mk (show SrtD L by have := T4.out.bag.srtD;rw [DT.out] at this;exact this)
      clear BA T4 I4 x0 x1
      generalize wr.alloc (Obj.cells #[.slice Ax xr.length cx,.int .i64 xm] 34) = w5 at *
      obtain ⟨⟨q,L1⟩,hq⟩ : ∃ q,addD xr xm L = q := ⟨_,rfl⟩
      have AD := Aside0.mk hq
      clear hq
      refine (add1 xm T5.out I5.out.le (XB.out _ I5.out.at_) DT.out (by have := LL.out;omega) AD.out).mono ?_
      rintro e w6 ⟨t6,D6,rfl,hd,hT,hb,_⟩
      have DT6 := Aside0.mk hd
      have T6 := Aside0.mk hT
      have I6 := Aside0.mk (I5.out.nextN hb)
      clear hd hT hb T5 I5
      have OF2 := Aside0.mk (show ofD l [] = if q = 0 then ofD (l.drop (i + 1)) L1 else (q,L) by
        rw [OF.out,LD.out]
        show (if (addD xr xm L).1 = 0 then ofD (l.drop (i + 1)) (addD xr xm L).2 else ((addD xr xm L).1,L)) = _
        rw [AD.out])
      have LL1 := Aside0.mk (show L1.length ≤ i + 1 by have := addD_len xr xm SR.out;rw [AD.out] at this;have := LL.out;simp only at *;omega)
      by_cases hq : q = 0
      · subst hq
        go_wp2_with (fail)
        go_roundw
        case rel => exact ⟨i + 1,by go_num,hin,⟨⟨_,_,_,DT6.out,LL1.out,T6.out,by rw [OF2.out];exact if_pos trivial⟩⟩,I6⟩
        case measure => simp [intOf];omega
      · have q1 : (q != 0) = true := by simp [hq]
        go_wp2_with (fail)
        go_ret2
        have e1 := OF2.out
        rw [if_neg hq] at e1
        exact ⟨none,q,L,e1,rfl,I6.out.at_,fun _ => rfl,fun h => absurd h hq⟩
    · have k0 : decide ((i : Int) < (n : Int)) = false := decide_eq_false (by omega)
      have k0' : decide (i < n) = false := decide_eq_false hin
      go_wp2_with (fail)
      go_ret2
      have e1 := OF.out
      rw [List.drop_of_length_le (by have := LN.out;omega)] at e1
      exact ⟨some ⟨b,0,none⟩,0,L,e1,rfl,I4.out.at_,fun h => absurd rfl h,fun _ => ⟨b,t,D,rfl,DT.out,by have := LL.out;omega,T4.out⟩⟩
end Go.Proofs.Ythmbfcfomcaaaaa.Z
end
section
namespace Go.Proofs.Ythmbfcfomcaaaaa.Z
set_option linter.unusedVariables false
set_option linter.unusedSimpArgs false
open Go.RowKit Go.Proofs.YthmbfcfomcaaaaaW.PrintWords Go.Proofs.YthmbfcfomcaaaaaW.PrintLast Go.Proofs.YthmbfcfomcaaaaaW.PrintMore Go.Proofs.Ythmbfcfomcaaaaa.Cmp
def allD (m : Int) (O L : List En) : Bool := O.all (fun e => okAdd e.f0 (e.f1 * m) L)
def mulD (m : Int) : List En → List En → List En
  | [],L => L
  | e :: es,L => mulD m es (addD e.f0 (e.f1 * m) L).2
def mergeD (m : Int) (O L : List En) : Int × List En := if few m = true then (if allD m O L = true then (0,mulD m O L) else (10,L)) else (2,L)
theorem mul_bd {a m : Int} (h1 : -1073741824 ≤ a) (h2 : a ≤ 1073741824) (h3 : few m = true) : -1152921504606846976 ≤ a * m ∧ a * m ≤ 1152921504606846976 := by
  obtain ⟨h3,h4⟩ := few_iff.1 h3
  have a1 : a.natAbs ≤ 1073741824 := by omega
  have a2 : m.natAbs ≤ 1073741824 := by omega
  have a3 : (a * m).natAbs ≤ 1073741824 * 1073741824 := by rw [Int.natAbs_mul];exact Nat.mul_le_mul a1 a2
  omega
theorem BagCh.trans {w w1 w2 : World} {b : Nat} {t t1 t2 : Tr} {D D1 D2 : Nat → Prop} (h : BagCh w w1 b t t1 D D1) (k : BagCh w1 w2 b t1 t2 D1 D2) : BagCh w w2 b t t2 D D2 :=
  ⟨h.ch.then_ k.ch (fun j s => s.elim (fun q => .inl (.inl q)) (fun q => (h.ids j q).imp .inr id)),
   fun j hj => (k.ids j hj).elim (h.ids j) (fun q => .inr (Nat.le_trans h.ch.size q)),fun j hj => (k.dat j hj).elim (h.dat j) (fun q => .inr (Nat.le_trans h.ch.size q))⟩
set_option maxHeartbeats 8000000 in
set_option maxRecDepth 100000 in
theorem bag_merge {N : Nat} {D1 D2 : Nat → Prop} {b1 b2 : Nat} {t1 t2 : Tr} {L1 L2 : List En} (m : Int) {w : World} (h1 : One N w b1 t1 D1) (h2 : BagAt w b2 t2 D2) (hN : N ≤ w.heap.size) (hd1 : docT t1 = L1) (hd2 : docT t2 = L2) (l1 : L1.length ≤ 100000) (l2 : L2.length ≤ 100000) :
    Calls Try.prog 28 #[.pointer (some ⟨b1,0,none⟩),.pointer (some ⟨b2,0,none⟩),.int .i64 m] w fun e w' => ∃ t' D',e = .returned (.int .i64 (mergeD m L2 L1).1) ∧ docT t' = (mergeD m L2 L1).2 ∧ BagAt w' b1 t' D' ∧ BagCh w w' b1 t1 t' D1 D' := by
  have H1 := Aside0.mk h1
  have H2 := Aside0.mk h2
  have HNL := Aside0.mk hN
  have DT1 := Aside0.mk hd1
  have DT2 := Aside0.mk hd2
  have LL1 := Aside0.mk l1
  have LL2 := Aside0.mk l2
  have FC := Aside0.mk (few_calls m w)
  obtain ⟨fm,hfm⟩ : ∃ fm,few m = fm := ⟨_,rfl⟩
  rw [hfm] at FC
  have FM := Aside0.mk hfm
  have ME := Aside0.mk (show mergeD m L2 L1 = if fm = true then (if allD m L2 L1 = true then (0,mulD m L2 L1) else (10,L1)) else (2,L1) by unfold mergeD;rw [hfm])
  clear h1 h2 hN hd1 hd2 l1 l2 hfm
  cases fm with
  | false =>
    rw [ME.out,if_neg (by simp)]
    go_enter Try.func28,Try.ntmps28
    go_wp2_with (fail)
    refine FC.out.mono ?_
    rintro e w1 ⟨rfl,hd⟩
    have hb := hd.below
    go_wp2_with (fail)
    go_ret
    exact ⟨t1,D1,rfl,DT1.out,H1.out.bag.below hb,BagCh.same hb⟩
  | true =>
    rw [ME.out,if_pos rfl]
    clear ME
    obtain ⟨res,hres⟩ : ∃ res,(if allD m L2 L1 = true then ((0 : Int),mulD m L2 L1) else (10,L1)) = res := ⟨_,rfl⟩
    have RES := Aside0.mk hres
    rw [hres]
    clear hres
    go_enter Try.func28,Try.ntmps28
    go_wp2_with (fail)
    refine FC.out.mono ?_
    rintro e w1 ⟨rfl,hd⟩
    have hb := hd.below
    have B1 := Aside0.mk hb
    clear hd hb FC
    go_wp2_with (fail)
    refine (bag_rows b2 t2 w1 (H2.out.below B1.out) (by rw [← doc_len,DT2.out];have := LL2.out;omega)).mono ?_
    rintro e w2 ⟨v,rfl,hv,hb⟩
    have B2 := Aside0.mk (B1.out.trans (hb.mono B1.out.size))
    rw [DT2.out] at hv
    obtain ⟨A,c,rfl⟩ := Kd.R_slice hv
    have RV0 := Kd.R_F (Kd.R_bound hv)
    have RV := Aside0.mk (show Kd.F k34 w2 (fun k => w.heap.size ≤ k ∧ k < w2.heap.size) A L2.length L2 from Kd.F_mono RV0 (fun k hk => ⟨Nat.le_trans B1.out.size hk.2.1,hk.2.2.1⟩))
    have CP := Aside0.mk (Kd.R_reads' hv).2.1
    clear hb hv B1 RV0
    obtain ⟨n,hn⟩ : ∃ n,L2.length = n := ⟨_,rfl⟩
    rw [hn]
    have LN := Aside0.mk hn
    rw [hn] at RV
    have nB : n ≤ 100000 := by have := LL2.out;omega
    clear hn
    go_wp2_with (fail)
    go_loopw [29] (fun iv wr => ∃ i : Nat,iv = .int .i64 (i : Int) ∧ i ≤ n ∧ Aside0 (allD m L2 L1 = allD m (L2.drop i) L1) ∧ Aside0 (Below w2.heap.size w2 wr)) (fun iv _ => n - (intOf iv).toNat)
    case atStart => exact ⟨0,rfl,Nat.zero_le _,⟨rfl⟩,⟨Below.refl _ _⟩⟩
    case round =>
      obtain ⟨i,rfl,hi,AL,IB⟩ := hrel
      by_cases hin : i < n
      · have k0 : decide ((i : Int) < (n : Int)) = true := decide_eq_true (by omega)
        have k0' : decide (i < n) = true := decide_eq_true hin
        have p0 : (0 : Int) ≤ (i : Int) := by omega
        have p1 : (i : Int) < (n : Int) := by omega
        obtain ⟨x,hx⟩ : ∃ x,L2[i]? = some x := ⟨L2[i]'(by have := LN.out;omega),List.getElem?_eq_getElem _⟩
        obtain ⟨ad,Ax,cx,e1,x0,x1,hxc⟩ := ent_get (Kd.F_now (Kd.F_below RV.out IB.out)) hin hx
        subst e1
        have XC := Aside0.mk hxc
        have XO := Aside0.mk (H2.out.ok x (by rw [DT2.out];exact List.mem_of_getElem? hx))
        have LD := Aside0.mk (show L2.drop i = x :: L2.drop (i + 1) by
          have hil : i < L2.length := by have := LN.out;omega
          rw [List.drop_eq_getElem_cons hil]
          rw [List.getElem?_eq_getElem hil] at hx
          rw [Option.some.inj hx])
        clear hx hxc
        obtain ⟨xr,xm⟩ := x
        simp only at *
        have mb := mul_bd XO.out.2.2.1 XO.out.2.2.2 FM.out
        have mw : IntKind.i64.wrap (xm * m) = xm * m := by rw [IntKind.wrap_i64];omega
        go_wp2_with (fail)
        have BA := below_alloc (Below.refl wr.heap.size wr) (Obj.cells #[.slice Ax xr.length cx,.int .i64 xm] 34)
        have XC5 := Aside0.mk (XC.out.below BA)
        have IB5 := Aside0.mk (IB.out.trans (BA.mono IB.out.size))
        clear BA x0 x1 IB XC
        generalize wr.alloc (Obj.cells #[.slice Ax xr.length cx,.int .i64 xm] 34) = w5 at *
        refine (bag_sum b1 t1 Ax cx xr (xm * m) w5 ((H1.out.bag.below B2.out).below IB5.out) XC5.out).mono ?_
        rintro e w6 ⟨⟨n',rfl,_⟩,hb⟩
        have IB6 := Aside0.mk (IB5.out.trans (hb.mono IB5.out.size))
        rw [DT1.out]
        clear hb IB5 XC5
        obtain ⟨ok,hok⟩ : ∃ ok,okAdd xr (xm * m) L1 = ok := ⟨_,rfl⟩
        have AL2 := Aside0.mk (show allD m L2 L1 = (ok && allD m (L2.drop (i + 1)) L1) by
          rw [AL.out,LD.out]
          show (okAdd xr (xm * m) L1 && allD m (L2.drop (i + 1)) L1) = _
          rw [hok])
        rw [hok]
        clear hok AL
        cases ok with
        | true =>
          go_wp2_with (fail)
          go_roundw
          case rel => exact ⟨i + 1,by go_num,hin,⟨by rw [AL2.out];rfl⟩,IB6⟩
          case measure => simp [intOf];omega
        | false =>
          go_wp2_with (fail)
          go_ret
          have hr := RES.out
          rw [AL2.out] at hr
          obtain rfl : ((10 : Int),L1) = res := hr
          exact ⟨t1,D1,rfl,DT1.out,(H1.out.bag.below B2.out).below IB6.out,BagCh.same (B2.out.trans (IB6.out.mono B2.out.size))⟩
      · have k0 : decide ((i : Int) < (n : Int)) = false := decide_eq_false (by omega)
        have k0' : decide (i < n) = false := decide_eq_false hin
        have hr := RES.out
        have hal := AL.out
        rw [List.drop_of_length_le (by have := LN.out;omega)] at hal
        rw [hal] at hr
        obtain rfl : ((0 : Int),mulD m L2 L1) = res := hr
        clear hal RES AL
        go_wp2_with (fail)
        have H3 := Aside0.mk ((H1.out.bag.below B2.out).below IB.out)
        have RV3 := Aside0.mk (Kd.F_below RV.out IB.out)
        have B3 := Aside0.mk (B2.out.trans (IB.out.mono B2.out.size))
        have WS := Aside0.mk (show w2.heap.size ≤ wr.heap.size from IB.out.size)
        clear k0 k0' hi hin IB RV
        have OL := Aside0.mk H1.out.bag.own_lt
        have BS2 := Aside0.mk B2.out.size
        clear B2
        go_loopw [49] (fun iv wx => ∃ i : Nat,iv = .int .i64 (i : Int) ∧ i ≤ n ∧ Aside0 (∃ t D L,docT t = L ∧ L.length ≤ L1.length + i ∧ BagAt wx b1 t D ∧ BagCh wr wx b1 t1 t D1 D ∧ mulD m L2 L1 = mulD m (L2.drop i) L)) (fun iv _ => n - (intOf iv).toNat)
        case atStart => exact ⟨0,rfl,Nat.zero_le _,⟨⟨t1,D1,L1,DT1.out,Nat.le_refl _,H3.out,BagCh.same (Below.refl _ _),rfl⟩⟩⟩
        case round =>
          clear H3
          rename World => wx
          obtain ⟨i,rfl,hi,TT⟩ := hrel
          obtain ⟨t,D,L,hd,hlen,hT,hch,hmu⟩ := TT.out
          have DT := Aside0.mk hd
          have LL := Aside0.mk hlen
          have T4 := Aside0.mk hT
          have CH := Aside0.mk hch
          have MU := Aside0.mk hmu
          clear TT hd hlen hT hch hmu
          by_cases hin : i < n
          · have k0 : decide ((i : Int) < (n : Int)) = true := decide_eq_true (by omega)
            have k0' : decide (i < n) = true := decide_eq_true hin
            have p0 : (0 : Int) ≤ (i : Int) := by omega
            have p1 : (i : Int) < (n : Int) := by omega
            obtain ⟨x,hx⟩ : ∃ x,L2[i]? = some x := ⟨L2[i]'(by have := LN.out;omega),List.getElem?_eq_getElem _⟩
            have RX := Kd.F_step RV3.out (W1 := wx) (fun k hk hlt => CH.out.ch.block k hlt (fun s => by
              have hk1 := hk.1
              have := OL.out k (s.elim .inl (fun q => .inr (.inl q)))
              omega))
            obtain ⟨ad,Ax,cx,e1,x0,x1,hxc⟩ := ent_get (Kd.F_now RX) hin hx
            subst e1
            have XC := Aside0.mk hxc
            have XO := Aside0.mk (H2.out.ok x (by rw [DT2.out];exact List.mem_of_getElem? hx))
            have LD := Aside0.mk (show L2.drop i = x :: L2.drop (i + 1) by
              have hil : i < L2.length := by have := LN.out;omega
              rw [List.drop_eq_getElem_cons hil]
              rw [List.getElem?_eq_getElem hil] at hx
              rw [Option.some.inj hx])
            clear hx hxc RX
            obtain ⟨xr,xm⟩ := x
            simp only at *
            have mb := mul_bd XO.out.2.2.1 XO.out.2.2.2 FM.out
            have mw : IntKind.i64.wrap (xm * m) = xm * m := by rw [IntKind.wrap_i64];omega
            go_wp2_with (fail)
            have BA := below_alloc (Below.refl wx.heap.size wx) (Obj.cells #[.slice Ax xr.length cx,.int .i64 xm] 34)
            have XC5 := Aside0.mk (XC.out.below BA)
            have T5 := Aside0.mk (T4.out.below BA)
            have CH5 := Aside0.mk (CH.out.trans (BagCh.same BA))
            have SR := Aside0.mk (show SrtD L by have := T4.out.srtD;rw [DT.out] at this;exact this)
            clear BA x0 x1 T4 CH XC
            generalize wx.alloc (Obj.cells #[.slice Ax xr.length cx,.int .i64 xm] 34) = w5 at *
            refine (bag_add b1 t Ax cx xr (xm * m) w5 T5.out XC5.out (by rw [← doc_len,DT.out];have := LL.out;have := LL1.out;omega)).mono ?_
            rintro e w6 ⟨t6,D6,rfl,hd,hT,hc⟩
            rw [DT.out] at hd ⊢
            have DT6 := Aside0.mk hd
            have T6 := Aside0.mk hT
            have CH6 := Aside0.mk (CH5.out.trans hc)
            clear hd hT hc T5 CH5 XC5
            go_wp2_with (fail)
            go_roundw
            case rel => exact ⟨i + 1,by go_num,hin,⟨⟨t6,D6,_,DT6.out,by have := addD_len xr (xm * m) SR.out;have := LL.out;omega,T6.out,CH6.out,by rw [MU.out,LD.out];rfl⟩⟩⟩
            case measure => simp [intOf];omega
          · have k0 : decide ((i : Int) < (n : Int)) = false := decide_eq_false (by omega)
            have k0' : decide (i < n) = false := decide_eq_false hin
            go_wp2_with (fail)
            go_ret
            have hm := MU.out
            rw [List.drop_of_length_le (by have := LN.out;omega)] at hm
            have R1 : docT t = mulD m L2 L1 := by rw [DT.out,hm];rfl
            first
              | exact ⟨t,D,rfl,R1,T4.out,(BagCh.same B3.out).trans CH.out⟩
              | exact ⟨rfl,t,R1,D,T4.out,(BagCh.same B3.out).trans CH.out⟩
              | exact ⟨rfl,t,D,R1,T4.out,(BagCh.same B3.out).trans CH.out⟩
end Go.Proofs.Ythmbfcfomcaaaaa.Z
end
section
namespace Go.Proofs.Ythmbfcfomcaaaaa.Z
set_option linter.unusedVariables false
set_option linter.unusedSimpArgs false
open Go.RowKit Go.Proofs.YthmbfcfomcaaaaaW.PrintWords Go.Proofs.YthmbfcfomcaaaaaW.PrintLast Go.Proofs.YthmbfcfomcaaaaaW.PrintMore Go.Proofs.Ythmbfcfomcaaaaa.Cmp
theorem fnd_app (r : Rw) (a b : List En) : fndD r (a ++ b) = (fndD r a).or (fndD r b) := by unfold fndD;exact List.find?_append
theorem fnd_none {r : Rw} {a : List En} (h : ∀ y ∈ a,rcmp r y.f0 ≠ 0) : fndD r a = none := by
  unfold fndD
  exact List.find?_eq_none.2 (fun y hy => by simpa using h y hy)
theorem fnd_put (r r' : Rw) (now : Int) {L : List En} (hs : SrtD L) : fndD r (putD r' now L) = if rcmp r r' = 0 then (if now = 0 then none else some ⟨r',now⟩) else fndD r L := by
  unfold putD
  rw [fnd_app,fnd_app]
  by_cases c : rcmp r r' = 0
  · rw [if_pos c,fnd_none (a := loD r' L) (fun y hy => by
      have h := (mem_lo hy).2
      rw [rcmp_law.eq_left y.f0 c]
      have := rcmp_anti y.f0 r'
      omega),fnd_none (a := hiD r' L) (fun y hy => by
      have h := (mem_hi hy).2
      rw [rcmp_law.eq_left y.f0 c]
      omega)]
    by_cases h0 : now = 0
    · rw [if_pos h0,if_pos h0];rfl
    · rw [if_neg h0,if_neg h0]
      unfold fndD
      simp [c]
  · rw [if_neg c]
    obtain ⟨s1,s2⟩ := srt_split r' hs
    have e2 : fndD r (eqD r' L) = none := fnd_none (fun y hy q => by
      have h := of_decide_eq_true (List.mem_filter.1 hy).2
      have h2 := rcmp_law.eq_left r h
      have a1 := rcmp_anti r y.f0
      have a2 := rcmp_anti r r'
      omega)
    conv => rhs;rw [s1]
    rw [fnd_app,fnd_app,e2]
    congr 1
    congr 1
    split
    · rfl
    · unfold fndD;simp [c]
def atD (r r' : Rw) (n : Int) : Int := if rcmp r r' = 0 then n else 0
theorem many_eq {r r' : Rw} (L : List En) (c : rcmp r r' = 0) : manyD r L = manyD r' L := by
  unfold manyD fndD
  have : (fun x : En => decide (rcmp r x.f0 = 0)) = fun x => decide (rcmp r' x.f0 = 0) := by
    funext x;rw [rcmp_law.eq_left x.f0 c]
  rw [this]
theorem many_put (r r' : Rw) (now : Int) {L : List En} (hs : SrtD L) : manyD r (putD r' now L) = if rcmp r r' = 0 then now else manyD r L := by
  unfold manyD
  rw [fnd_put r r' now hs]
  by_cases c : rcmp r r' = 0
  · rw [if_pos c,if_pos c]
    by_cases h0 : now = 0
    · rw [if_pos h0];exact h0.symm
    · rw [if_neg h0]
  · rw [if_neg c,if_neg c]
theorem add_some {r' : Rw} {m : Int} {L : List En} (hr : rright r' = true) (ho : okAdd r' m L = true) : addD r' m L = (0,putD r' (manyD r' L + m) L) := by
  rw [add_right hr,if_pos ho]
theorem many_add (r r' : Rw) (m : Int) {L : List En} (hs : SrtD L) (hr : rright r' = true) (ho : okAdd r' m L = true) : manyD r (addD r' m L).2 = manyD r L + atD r r' m := by
  rw [add_some hr ho]
  show manyD r (putD r' (manyD r' L + m) L) = _
  rw [many_put r r' _ hs]
  unfold atD
  by_cases c : rcmp r r' = 0
  · rw [if_pos c,if_pos c,many_eq L c]
  · rw [if_neg c,if_neg c];omega
theorem srt_ext : ∀ {L1 L2 : List En},SrtD L1 → SrtD L2 → (∀ x,x ∈ L1 ↔ x ∈ L2) → L1 = L2
  | [],[],_,_,_ => rfl
  | [],b :: l,_,_,h => absurd ((h b).2 (by simp)) (by simp)
  | a :: l,[],_,_,h => absurd ((h a).1 (by simp)) (by simp)
  | a :: l1,b :: l2,h1,h2,h => by
    obtain ⟨a1,a2⟩ := h1.cons
    obtain ⟨b1,b2⟩ := h2.cons
    have hab : a = b := by
      rcases List.mem_cons.1 ((h a).1 (by simp)) with q | q
      · exact q
      · rcases List.mem_cons.1 ((h b).2 (by simp)) with p | p
        · exact p.symm
        · have c1 := b1 a q
          have c2 := a1 b p
          have := rcmp_anti a.f0 b.f0
          omega
    subst hab
    rw [srt_ext a2 b2 (fun x => ⟨fun q => by
      rcases List.mem_cons.1 ((h x).1 (List.mem_cons_of_mem _ q)) with p | p
      · subst p;have := a1 x q;rw [rcmp_law.self] at this;omega
      · exact p,fun q => by
      rcases List.mem_cons.1 ((h x).2 (List.mem_cons_of_mem _ q)) with p | p
      · subst p;have := b1 x q;rw [rcmp_law.self] at this;omega
      · exact p⟩)]
theorem fnd_mem {L : List En} (h : SrtD L) {x : En} (hx : x ∈ L) : fndD x.f0 L = some x := by
  induction L with
  | nil => cases hx
  | cons a l ih =>
    obtain ⟨h1,h2⟩ := h.cons
    unfold fndD at *
    rw [List.find?_cons]
    rcases List.mem_cons.1 hx with q | q
    · subst q;rw [show rcmp x.f0 x.f0 = 0 from rcmp_law.self _];rfl
    · have c1 := h1 x q
      have := rcmp_anti x.f0 a.f0
      rw [decide_eq_false (show ¬ rcmp x.f0 a.f0 = 0 by omega)]
      exact ih h2 q
theorem many_mem {L : List En} (h : SrtD L) {x : En} (hx : x ∈ L) : manyD x.f0 L = x.f1 := by unfold manyD;rw [fnd_mem h hx]
theorem doc_sub {L1 L2 : List En} (h1 : SrtD L1) (k1 : OkD L1) (k2 : OkD L2) (h : ∀ r,rright r = true → manyD r L1 = manyD r L2) : ∀ x,x ∈ L1 → x ∈ L2 := fun x hx => by
  obtain ⟨xr,x0,_⟩ := k1 x hx
  have e1 := h x.f0 xr
  rw [many_mem h1 hx] at e1
  unfold manyD at e1
  cases hf : fndD x.f0 L2 with
  | none => rw [hf] at e1;exact absurd e1 x0
  | some y =>
    rw [hf] at e1
    have hy := List.mem_of_find?_eq_some (show L2.find? (fun z => decide (rcmp x.f0 z.f0 = 0)) = some y from hf)
    have hc := List.find?_some (show L2.find? (fun z => decide (rcmp x.f0 z.f0 = 0)) = some y from hf)
    have e2 := rright_eq xr (k2 y hy).1 (of_decide_eq_true hc)
    obtain ⟨yr,ym⟩ := y
    obtain ⟨xr',xm⟩ := x
    simp only at e1 e2
    rw [e1,e2]
    exact hy
theorem doc_ext {L1 L2 : List En} (h1 : SrtD L1) (h2 : SrtD L2) (k1 : OkD L1) (k2 : OkD L2) (h : ∀ r,rright r = true → manyD r L1 = manyD r L2) : L1 = L2 :=
  srt_ext h1 h2 (fun x => ⟨doc_sub h1 k1 k2 h x,doc_sub h2 k2 k1 (fun r hr => (h r hr).symm) x⟩)
def sumE (m : Int) (r : Rw) : List En → Int
  | [] => 0
  | e :: es => atD r e.f0 (e.f1 * m) + sumE m r es
theorem sumE_app (m : Int) (r : Rw) (a b : List En) : sumE m r (a ++ b) = sumE m r a + sumE m r b := by
  induction a with
  | nil => simp [sumE]
  | cons x a ih => simp only [List.cons_append,sumE,ih];omega
theorem sumE_rev (m : Int) (r : Rw) (a : List En) : sumE m r a.reverse = sumE m r a := by
  induction a with
  | nil => rfl
  | cons x a ih => rw [List.reverse_cons,sumE_app,ih];simp only [sumE];omega
def Small (k : Nat) (L : List En) : Prop := ∀ r,-(1000 * (k : Int)) ≤ manyD r L ∧ manyD r L ≤ 1000 * (k : Int)
def allR (es : List En) : Bool := es.all (fun e => rright e.f0)
theorem atD_bd (r r' : Rw) {m : Int} (h1 : -1000 ≤ m) (h2 : m ≤ 1000) : -1000 ≤ atD r r' m ∧ atD r r' m ≤ 1000 := by unfold atD;split <;> omega
theorem of_law : ∀ (es L : List En) (k : Nat),SrtD L → OkD L → Small k L → (∀ e ∈ es,-1000 ≤ e.f1 ∧ e.f1 ≤ 1000) → k + es.length ≤ 1000 →
    (allR es = true → (ofD es L).1 = 0 ∧ SrtD (ofD es L).2 ∧ OkD (ofD es L).2 ∧ ∀ r,manyD r (ofD es L).2 = manyD r L + sumE 1 r es) ∧ (allR es = false → (ofD es L).1 = 2)
  | [],L,k,hs,hk,hb,he,hl => ⟨fun _ => ⟨rfl,hs,hk,fun r => by simp [ofD,sumE]⟩,fun h => by simp [allR] at h⟩
  | e :: es,L,k,hs,hk,hb,he,hl => by
    have h1 := he e (by simp)
    simp only [List.length_cons] at hl
    by_cases hr : rright e.f0 = true
    · have hm := hb e.f0
      have ho : okAdd e.f0 e.f1 L = true := by
        unfold okAdd
        rw [Bool.and_eq_true,Bool.and_eq_true,decide_eq_true_eq,decide_eq_true_eq,few_iff]
        omega
      have hA := fun r => many_add r e.f0 e.f1 hs hr ho
      obtain ⟨i1,i2⟩ := addD_inv (r := e.f0) (m := e.f1) hs hk
      have e0 : (addD e.f0 e.f1 L).1 = 0 := by rw [add_some hr ho]
      have hof : ofD (e :: es) L = ofD es (addD e.f0 e.f1 L).2 := by simp only [ofD];rw [if_pos e0]
      have hsm : Small (k + 1) (addD e.f0 e.f1 L).2 := fun r => by
        have := atD_bd r e.f0 h1.1 h1.2
        have := hb r
        rw [hA r]
        omega
      obtain ⟨j1,j2⟩ := of_law es (addD e.f0 e.f1 L).2 (k + 1) i1 i2 hsm (fun x hx => he x (List.mem_cons_of_mem _ hx)) (by omega)
      have hal : allR (e :: es) = allR es := by simp [allR,hr]
      rw [hof,hal]
      refine ⟨fun h => ?_,j2⟩
      obtain ⟨q1,q2,q3,q4⟩ := j1 h
      refine ⟨q1,q2,q3,fun r => ?_⟩
      rw [q4 r,hA r]
      simp only [sumE,Int.mul_one]
      omega
    · have e2 : addD e.f0 e.f1 L = (2,L) := by unfold addD;rw [if_neg hr]
      have hal : allR (e :: es) = false := by simp [allR,hr]
      rw [hal]
      refine ⟨fun h => (by cases h),fun _ => ?_⟩
      simp only [ofD]
      rw [e2,if_neg (show ¬ (2 : Int) = 0 by decide)]
theorem small_nil : Small 0 [] := fun r => by show _ ≤ (0 : Int) ∧ (0 : Int) ≤ _;omega
theorem ok_nil : OkD [] := fun x hx => by cases hx
theorem of_back (k : List En) (hb : ∀ e ∈ k,-1000 ≤ e.f1 ∧ e.f1 ≤ 1000) (hl : k.length ≤ 1000) : (ofD k []).1 = (ofD k.reverse []).1 ∧ ((ofD k []).1 = 0 → (ofD k []).2 = (ofD k.reverse []).2) := by
  obtain ⟨a1,a2⟩ := of_law k [] 0 List.Pairwise.nil ok_nil small_nil hb (by omega)
  obtain ⟨b1,b2⟩ := of_law k.reverse [] 0 List.Pairwise.nil ok_nil small_nil (fun e he => hb e (List.mem_reverse.1 he)) (by rw [List.length_reverse];omega)
  have hr : allR k.reverse = allR k := by unfold allR;rw [List.all_reverse]
  rw [hr] at b1 b2
  cases h : allR k with
  | false => rw [a2 h,b2 h];exact ⟨rfl,fun h => absurd h (by decide)⟩
  | true =>
    obtain ⟨x1,x2,x3,x4⟩ := a1 h
    obtain ⟨y1,y2,y3,y4⟩ := b1 h
    refine ⟨x1.trans y1.symm,fun _ => doc_ext x2 y2 x3 y3 (fun r _ => ?_)⟩
    rw [x4,y4,sumE_rev]
theorem atD_self (r : Rw) (n : Int) : atD r r n = n := by unfold atD;rw [if_pos (rcmp_law.self r)]
theorem sumE_none (m : Int) {r : Rw} : ∀ {O : List En},(∀ y ∈ O,rcmp r y.f0 ≠ 0) → sumE m r O = 0
  | [],_ => rfl
  | e :: O,h => by
    simp only [sumE]
    rw [sumE_none m (fun y hy => h y (List.mem_cons_of_mem _ hy))]
    unfold atD
    rw [if_neg (h e (by simp))]
    rfl
theorem sumE_mem (m : Int) : ∀ {O : List En},SrtD O → ∀ {x : En},x ∈ O → sumE m x.f0 O = x.f1 * m
  | [],_,_,hx => by cases hx
  | e :: O,h,x,hx => by
    obtain ⟨h1,h2⟩ := h.cons
    simp only [sumE]
    rcases List.mem_cons.1 hx with q | q
    · subst q
      rw [atD_self,sumE_none m (fun y hy => by have := h1 y hy;omega)]
      omega
    · rw [sumE_mem m h2 q]
      have c1 := h1 x q
      have := rcmp_anti x.f0 e.f0
      unfold atD
      rw [if_neg (by omega)]
      omega
theorem sumE_neg (m : Int) (r : Rw) : ∀ O : List En,sumE (-m) r O = - sumE m r O
  | [] => rfl
  | e :: O => by
    simp only [sumE]
    rw [sumE_neg m r O,Int.mul_neg]
    unfold atD
    split <;> omega
theorem mul_law (m : Int) : ∀ (O L : List En),SrtD O → OkD O → SrtD L → OkD L → allD m O L = true → SrtD (mulD m O L) ∧ OkD (mulD m O L) ∧ ∀ r,manyD r (mulD m O L) = manyD r L + sumE m r O
  | [],L,_,_,hs,hk,_ => ⟨hs,hk,fun r => by simp [mulD,sumE]⟩
  | e :: O,L,ho,ko,hs,hk,ha => by
    obtain ⟨o1,o2⟩ := ho.cons
    unfold allD at ha
    rw [List.all_cons,Bool.and_eq_true] at ha
    obtain ⟨ha,hb⟩ := ha
    have hr := (ko e (by simp)).1
    have hA := fun r => many_add r e.f0 (e.f1 * m) hs hr ha
    obtain ⟨i1,i2⟩ := addD_inv (r := e.f0) (m := e.f1 * m) hs hk
    have hal : allD m O (addD e.f0 (e.f1 * m) L).2 = true := by
      unfold allD
      rw [List.all_eq_true]
      intro y hy
      have h1 := List.all_eq_true.1 hb y hy
      have c1 := o1 y hy
      have := rcmp_anti y.f0 e.f0
      have h2 : manyD y.f0 (addD e.f0 (e.f1 * m) L).2 = manyD y.f0 L := by
        rw [hA]
        unfold atD
        rw [if_neg (by omega)]
        omega
      unfold okAdd at h1 ⊢
      rw [h2]
      exact h1
    obtain ⟨j1,j2,j3⟩ := mul_law m O _ o2 (fun x hx => ko x (List.mem_cons_of_mem _ hx)) i1 i2 hal
    refine ⟨j1,j2,fun r => ?_⟩
    show manyD r (mulD m O (addD e.f0 (e.f1 * m) L).2) = _
    rw [j3 r,hA r]
    simp only [sumE]
    omega
theorem merge_back (m : Int) (O L : List En) (ho : SrtD O) (ko : OkD O) (hs : SrtD L) (hk : OkD L) (hm : -1000 ≤ m ∧ m ≤ 1000) :
    ((mergeD m O L).1 ≠ 0 → (mergeD m O L).2 = L) ∧ ((mergeD m O L).1 = 0 → mergeD (-m) O (mergeD m O L).2 = (0,L)) := by
  have f1 : few m = true := few_iff.2 (by omega)
  have f2 : few (-m) = true := few_iff.2 (by omega)
  unfold mergeD
  rw [if_pos f1]
  by_cases ha : allD m O L = true
  · rw [if_pos ha]
    refine ⟨fun h => absurd rfl h,fun _ => ?_⟩
    obtain ⟨j1,j2,j3⟩ := mul_law m O L ho ko hs hk ha
    have ha2 : allD (-m) O (mulD m O L) = true := by
      unfold allD
      rw [List.all_eq_true]
      intro y hy
      have h1 := List.all_eq_true.1 ha y hy
      have b := many_bd (r := y.f0) hk
      have e1 := j3 y.f0
      rw [sumE_mem m ho hy] at e1
      unfold okAdd at h1 ⊢
      rw [Bool.and_eq_true,Bool.and_eq_true,decide_eq_true_eq,decide_eq_true_eq,few_iff] at h1
      rw [Bool.and_eq_true,Bool.and_eq_true,decide_eq_true_eq,decide_eq_true_eq,few_iff,e1,Int.mul_neg]
      omega
    show (if few (-m) = true then (if allD (-m) O (mulD m O L) = true then ((0 : Int),mulD (-m) O (mulD m O L)) else (10,mulD m O L)) else (2,mulD m O L)) = (0,L)
    rw [if_pos f2,if_pos ha2]
    obtain ⟨k1,k2,k3⟩ := mul_law (-m) O (mulD m O L) ho ko j1 j2 ha2
    rw [doc_ext k1 hs k2 hk (fun r _ => by rw [k3,j3,sumE_neg];omega)]
  · rw [if_neg ha]
    exact ⟨fun _ => rfl,fun h => by cases h⟩
end Go.Proofs.Ythmbfcfomcaaaaa.Z
end
section
namespace Go.Proofs.Ythmbfcfomcaaaaa.Z
open Go.RowKit Go.Proofs.YthmbfcfomcaaaaaW.PrintWords Go.Proofs.YthmbfcfomcaaaaaW.PrintLast Go.Proofs.YthmbfcfomcaaaaaW.PrintMore
attribute [local go_sem] max2_int min2_int max_two min_two max_three min_three max_four min_four
set_option linter.unusedVariables false
set_option linter.unusedSimpArgs false
def row_Same.f (k : Nat) (l0 : List (S66)) (l1 : List (S66)) : Option (Bool) := (row_Compare.f k l0 l1).bind fun t146 => (some (t146 == 0))
theorem row_Same.mono : ∀ a0 a1 k,LeO (row_Same.f k a0 a1) (row_Same.f (k + 1) a0 a1) := by
  intro a0 a1 k
  unfold row_Same.f
  repeat' first
      | (with_reducible exact row_Compare.mono _ _ _)
      | (with_reducible exact LeO.refl _)
      | (with_reducible exact LeO.none _)
      | (with_reducible refine LeO.ite ?_ ?_)
      | (with_reducible refine LeO.bind ?_ (fun _ => ?_))
      | exact row_Compare.mono _ _ _
      | exact LeO.none _
      | refine LeO.ite ?_ ?_
      | refine LeO.bind ?_ (fun _ => ?_)
set_option maxHeartbeats 8000000 in
set_option maxRecDepth 100000 in
theorem row_Same.calls (k : Nat) (A0 : Option Addr) (c0 : Nat) (l0 : List (S66)) (A1 : Option Addr) (c1 : Nat) (l1 : List (S66)) (r : Bool) (w : World) (hr0 : Kd.C k66 w A0 l0.length l0) (hc0 : l0.length ≤ c0) (hr1 : Kd.C k66 w A1 l1.length l1) (hc1 : l1.length ≤ c1) (h : row_Same.f k l0 l1 = some r) :
    Calls Try.prog 74 #[.slice A0 l0.length c0,.slice A1 l1.length c1] w fun e w' => e = .returned (.bool r) ∧ Below w.heap.size w w' := by
  have HR0 := Aside0.mk hr0
  have HC0 := Aside0.mk hc0
  clear hr0 hc0
  have HR1 := Aside0.mk hr1
  have HC1 := Aside0.mk hc1
  clear hr1 hc1
  have HB := Aside0.mk (Below.refl w.heap.size w)
  have H : ((row_Compare.f k l0 l1).bind fun t146 => (some (t146 == 0))) = some r := h
  clear h
  replace H := Option.bind_eq_some_iff.mp H
  obtain ⟨t146,A30,H⟩ := H
  replace H : (some (t146 == 0)) = some r := H
  have A3 := Aside0.mk A30
  clear A30
  obtain rfl := Option.some.inj H
  go_enter Try.func74,Try.ntmps74
  go_wp2_with (first | ((with_reducible refine gate_callee (f := 93) rfl ?_);refine goesL_ (some 7) rfl rfl Try.func93 (by kernel_rfl) rfl #[.slice A0 l0.length c0,.slice A1 l1.length c1] rfl (by (try simp only [List.map_toArray,List.map_cons,List.map_nil]);first | done | rfl | (simp only [List.length_drop,List.length_take];rfl)) ?_;(with_reducible refine (row_Compare.calls k _ _ l0 _ _ l1 t146 _ ?side1 ?side2 ?side3 ?side4 A3.out).mono ?_);(case side1 => repeat (first | exact HR0.out | (with_reducible refine Kd.C_alloc ?_ _) | (with_reducible refine Kd.C_drewN ?_ _) | (with_reducible refine Kd.C_drew ?_)));(case side2 => exact HC0.out);(case side3 => repeat (first | exact HR1.out | (with_reducible refine Kd.C_alloc ?_ _) | (with_reducible refine Kd.C_drewN ?_ _) | (with_reducible refine Kd.C_drew ?_)));(case side4 => exact HC1.out);rintro e w4 ⟨rfl,hb⟩;refine ⟨_,rfl,?_⟩;have n0_ := Aside0.mk (below_step (by repeat (first | (with_reducible first | exact HB.out | apply below_alloc | apply pw_below_drewN | apply below_drew1) | exact HB.out)) hb);clear HB;have HB := n0_;clear n0_;(try clear hb);(try clear hb2);(try clear hk);(try clear hi)))
  go_ret
  exact ⟨by first | rfl | (simp [errW_none,errW_some] <;> rfl) | (simp [*,errW_none,errW_some] <;> rfl),by repeat (first | (with_reducible first | exact HB.out | apply below_alloc | apply pw_below_drewN | apply below_drew1) | exact HB.out)⟩
end Go.Proofs.Ythmbfcfomcaaaaa.Z
end
section
namespace Go.Proofs.Ythmbfcfomcaaaaa.Z
open Go.RowKit Go.Proofs.YthmbfcfomcaaaaaW.PrintWords Go.Proofs.YthmbfcfomcaaaaaW.PrintLast Go.Proofs.YthmbfcfomcaaaaaW.PrintMore
attribute [local go_sem] max2_int min2_int max_two min_two max_three min_three max_four min_four
set_option linter.unusedVariables false
set_option linter.unusedSimpArgs false
def bag_Same_1.f (k : Nat) (l0_0 : List (S66)) (a0_1 : Int) (l1_0 : List (S66)) (a1_1 : Int) : Option (Bool) := if a0_1 = a1_1 then ((row_Same.f k l0_0 l1_0).bind fun t254 => (some t254)) else (some false)
theorem bag_Same_1.mono : ∀ a0 a1 a2 a3 k,LeO (bag_Same_1.f k a0 a1 a2 a3) (bag_Same_1.f (k + 1) a0 a1 a2 a3) := by
  intro a0 a1 a2 a3 k
  unfold bag_Same_1.f
  repeat' first
      | (with_reducible exact row_Same.mono _ _ _)
      | (with_reducible exact LeO.refl _)
      | (with_reducible exact LeO.none _)
      | (with_reducible refine LeO.ite ?_ ?_)
      | (with_reducible refine LeO.bind ?_ (fun _ => ?_))
      | exact row_Same.mono _ _ _
      | exact LeO.none _
      | refine LeO.ite ?_ ?_
      | refine LeO.bind ?_ (fun _ => ?_)
set_option maxHeartbeats 8000000 in
set_option maxRecDepth 100000 in
theorem bag_Same_1.calls (k : Nat) (A0_0 : Option Addr) (c0_0 : Nat) (l0_0 : List (S66)) (a0_1 : Int) (A1_0 : Option Addr) (c1_0 : Nat) (l1_0 : List (S66)) (a1_1 : Int) (r : Bool) (w : World) (hr0_0 : Kd.C k66 w A0_0 l0_0.length l0_0) (hc0_0 : l0_0.length ≤ c0_0) (hr1_0 : Kd.C k66 w A1_0 l1_0.length l1_0) (hc1_0 : l1_0.length ≤ c1_0) (h : bag_Same_1.f k l0_0 a0_1 l1_0 a1_1 = some r) :
    Calls Try.prog 73 #[.agg #[.slice A0_0 l0_0.length c0_0,.int .i64 a0_1],.agg #[.slice A1_0 l1_0.length c1_0,.int .i64 a1_1]] w fun e w' => e = .returned (.bool r) ∧ Below w.heap.size w w' := by
  have hu34 := Try.underlying34
  have HR0_0 := Aside0.mk hr0_0
  have HC0_0 := Aside0.mk hc0_0
  clear hr0_0 hc0_0
  have HR1_0 := Aside0.mk hr1_0
  have HC1_0 := Aside0.mk hc1_0
  clear hr1_0 hc1_0
  have HB := Aside0.mk (Below.refl w.heap.size w)
  have H : (if a0_1 = a1_1 then ((row_Same.f k l0_0 l1_0).bind fun t254 => (some t254)) else (some false)) = some r := h
  clear h
  by_cases c3 : a0_1 = a1_1
  · rw [if_pos c3] at H
    have c3b0 : (a0_1 == a1_1) = true := beq_iff_eq.mpr c3
    have c3b1 : (a0_1 != a1_1) = false := bne_eq_false_iff_eq.mpr c3
    clear c3
    replace H := Option.bind_eq_some_iff.mp H
    obtain ⟨t254,A40,H⟩ := H
    replace H : (some t254) = some r := H
    have A4 := Aside0.mk A40
    clear A40
    obtain rfl := Option.some.inj H
    go_enter Try.func73,Try.ntmps73
    go_wp2_with (first | ((with_reducible refine gate_dst (N := 2) rfl ?_);refine box_event ?hg (N := 2) ?hd (cs := #[.slice A0_0 l0_0.length c0_0,.int .i64 a0_1]) (t := 34) ?hr ?_;(case hd => rfl);(case hg => rfl);(case hr => first | (go_simp;done) | (go_simp;rfl));intro gb252 hg w5 hbox hb;have n0_ := Aside0.mk (below_step (by repeat (first | (with_reducible first | exact HB.out | apply below_alloc | apply pw_below_drewN | apply below_drew1) | exact HB.out)) hb);have n1_ := Aside0.mk (hbox);have n2_ := Aside0.mk ((by rw [hg];exact (below_size (by repeat (first | (with_reducible first | exact HB.out | apply below_alloc | apply pw_below_drewN | apply below_drew1) | exact HB.out))) : w.heap.size ≤ gb252));have n3_ := Aside0.mk ((by rw [hg];exact (below_size (by repeat (first | (with_reducible first | exact HB.out | apply below_alloc | apply pw_below_drewN | apply below_drew1) | exact HB.out))) : w.heap.size ≤ gb252));clear HB;have HB := n0_;have BK252 := n1_;have GW252 := n2_;have GE252 := n3_;clear n0_ n1_ n2_ n3_;clear hb hbox hg) | ((with_reducible refine gate_dst (N := 3) rfl ?_);refine box_event ?hg (N := 3) ?hd (cs := #[.slice A1_0 l1_0.length c1_0,.int .i64 a1_1]) (t := 34) ?hr ?_;(case hd => rfl);(case hg => rfl);(case hr => first | (go_simp;done) | (go_simp;rfl));intro gb253 hg w6 hbox hb;have n0_ := Aside0.mk (blk_below (g := gb252) (o := .cells #[.slice A0_0 l0_0.length c0_0,.int .i64 a0_1] 34 (0,0)) (by (with_reducible repeat (first | refine blk_drewN ?_ _ | refine blk_drew ?_ | refine blk_alloc ?_ _));exact BK252.out) hb);have n1_ := Aside0.mk (below_step (by repeat (first | (with_reducible first | exact HB.out | apply below_alloc | apply pw_below_drewN | apply below_drew1 | refine below_set ?_ GE252.out) | exact HB.out)) hb);have n2_ := Aside0.mk (hbox);have n3_ := Aside0.mk ((by rw [hg];exact (below_size (by repeat (first | (with_reducible first | exact HB.out | apply below_alloc | apply pw_below_drewN | apply below_drew1 | refine below_set ?_ GE252.out) | exact HB.out))) : w.heap.size ≤ gb253));have n4_ := Aside0.mk ((by rw [hg];exact (below_size (by repeat (first | (with_reducible first | exact HB.out | apply below_alloc | apply pw_below_drewN | apply below_drew1 | refine below_set ?_ GE252.out) | exact HB.out))) : w.heap.size ≤ gb253));have n5_ := Aside0.mk ((by rw [hg];exact Nat.ne_of_lt (blk_lt (g := gb252) (o := .cells #[.slice A0_0 l0_0.length c0_0,.int .i64 a0_1] 34 (0,0)) (by (with_reducible repeat (first | refine blk_drewN ?_ _ | refine blk_drew ?_ | refine blk_alloc ?_ _));exact BK252.out)) : gb252 ≠ gb253));have n6_ := Aside0.mk ((by rw [hg];exact Nat.ne_of_gt (blk_lt (g := gb252) (o := .cells #[.slice A0_0 l0_0.length c0_0,.int .i64 a0_1] 34 (0,0)) (by (with_reducible repeat (first | refine blk_drewN ?_ _ | refine blk_drew ?_ | refine blk_alloc ?_ _));exact BK252.out)) : gb253 ≠ gb252));clear BK252;clear HB;have BK252 := n0_;have HB := n1_;have BK253 := n2_;have GW253 := n3_;have GE253 := n4_;have NB252_253 := n5_;have NB253_252 := n6_;clear n0_ n1_ n2_ n3_ n4_ n5_ n6_;clear hb hbox hg;have hnb7 := NB252_253.out;have hnc7 := NB253_252.out;have hcz8_0 : w6.cell? ⟨gb252,0,none⟩ = some (.slice A0_0 l0_0.length c0_0) := (blk_cell BK252.out 0).trans rfl;have hcz8_1 : w6.cell? ⟨gb252,1,none⟩ = some (.int .i64 a0_1) := (blk_cell BK252.out 1).trans rfl;have hfz8_0 := blk_frozen BK252.out 0;have hfz8_1 := blk_frozen BK252.out 1;have hcz9_0 : w6.cell? ⟨gb253,0,none⟩ = some (.slice A1_0 l1_0.length c1_0) := (blk_cell BK253.out 0).trans rfl;have hcz9_1 : w6.cell? ⟨gb253,1,none⟩ = some (.int .i64 a1_1) := (blk_cell BK253.out 1).trans rfl;have hfz9_0 := blk_frozen BK253.out 0;have hfz9_1 := blk_frozen BK253.out 1) | (go_at_call 74;(with_reducible refine (row_Same.calls k _ _ l0_0 _ _ l1_0 t254 _ ?side1 ?side2 ?side3 ?side4 A4.out).mono ?_);(case side1 => repeat (first | exact (Kd.C_below HR0_0.out HB.out) | (with_reducible refine Kd.C_alloc ?_ _) | (with_reducible refine Kd.C_drewN ?_ _) | (with_reducible refine Kd.C_drew ?_)));(case side2 => exact HC0_0.out);(case side3 => repeat (first | exact (Kd.C_below HR1_0.out HB.out) | (with_reducible refine Kd.C_alloc ?_ _) | (with_reducible refine Kd.C_drewN ?_ _) | (with_reducible refine Kd.C_drew ?_)));(case side4 => exact HC1_0.out);rintro e w10 ⟨rfl,hb⟩;have n0_ := Aside0.mk (blk_below (g := gb252) (o := .cells #[.slice A0_0 l0_0.length c0_0,.int .i64 a0_1] 34 (0,0)) (by (with_reducible repeat (first | refine blk_drewN ?_ _ | refine blk_drew ?_ | refine blk_alloc ?_ _));exact BK252.out) hb);have n1_ := Aside0.mk (blk_below (g := gb253) (o := .cells #[.slice A1_0 l1_0.length c1_0,.int .i64 a1_1] 34 (0,0)) (by (with_reducible repeat (first | refine blk_drewN ?_ _ | refine blk_drew ?_ | refine blk_alloc ?_ _));exact BK253.out) hb);have n2_ := Aside0.mk (below_step (by repeat (first | (with_reducible first | exact HB.out | apply below_alloc | apply pw_below_drewN | apply below_drew1 | refine below_set ?_ GE252.out | refine below_set ?_ GE253.out) | exact HB.out)) hb);clear BK252;clear BK253;clear HB;have BK252 := n0_;have BK253 := n1_;have HB := n2_;clear n0_ n1_ n2_;(try clear hb);(try clear hb2);(try clear hk);(try clear hi)))
    go_ret
    exact ⟨by first | rfl | (simp [errW_none,errW_some] <;> rfl) | (simp [*,errW_none,errW_some] <;> rfl),by repeat (first | (with_reducible first | exact HB.out | apply below_alloc | apply pw_below_drewN | apply below_drew1 | refine below_set ?_ GE252.out | refine below_set ?_ GE253.out) | exact HB.out)⟩
  · rw [if_neg c3] at H
    have c3b0 : (a0_1 == a1_1) = false := beq_eq_false_iff_ne.mpr c3
    have c3b1 : (a0_1 != a1_1) = true := bne_iff_ne.mpr c3
    obtain rfl := Option.some.inj H
    go_enter Try.func73,Try.ntmps73
    go_wp2_with (first | ((with_reducible refine gate_dst (N := 2) rfl ?_);refine box_event ?hg (N := 2) ?hd (cs := #[.slice A0_0 l0_0.length c0_0,.int .i64 a0_1]) (t := 34) ?hr ?_;(case hd => rfl);(case hg => rfl);(case hr => first | (go_simp;done) | (go_simp;rfl));intro gb252 hg w11 hbox hb;have n0_ := Aside0.mk (below_step (by repeat (first | (with_reducible first | exact HB.out | apply below_alloc | apply pw_below_drewN | apply below_drew1) | exact HB.out)) hb);have n1_ := Aside0.mk (hbox);have n2_ := Aside0.mk ((by rw [hg];exact (below_size (by repeat (first | (with_reducible first | exact HB.out | apply below_alloc | apply pw_below_drewN | apply below_drew1) | exact HB.out))) : w.heap.size ≤ gb252));have n3_ := Aside0.mk ((by rw [hg];exact (below_size (by repeat (first | (with_reducible first | exact HB.out | apply below_alloc | apply pw_below_drewN | apply below_drew1) | exact HB.out))) : w.heap.size ≤ gb252));clear HB;have HB := n0_;have BK252 := n1_;have GW252 := n2_;have GE252 := n3_;clear n0_ n1_ n2_ n3_;clear hb hbox hg) | ((with_reducible refine gate_dst (N := 3) rfl ?_);refine box_event ?hg (N := 3) ?hd (cs := #[.slice A1_0 l1_0.length c1_0,.int .i64 a1_1]) (t := 34) ?hr ?_;(case hd => rfl);(case hg => rfl);(case hr => first | (go_simp;done) | (go_simp;rfl));intro gb253 hg w12 hbox hb;have n0_ := Aside0.mk (blk_below (g := gb252) (o := .cells #[.slice A0_0 l0_0.length c0_0,.int .i64 a0_1] 34 (0,0)) (by (with_reducible repeat (first | refine blk_drewN ?_ _ | refine blk_drew ?_ | refine blk_alloc ?_ _));exact BK252.out) hb);have n1_ := Aside0.mk (below_step (by repeat (first | (with_reducible first | exact HB.out | apply below_alloc | apply pw_below_drewN | apply below_drew1 | refine below_set ?_ GE252.out) | exact HB.out)) hb);have n2_ := Aside0.mk (hbox);have n3_ := Aside0.mk ((by rw [hg];exact (below_size (by repeat (first | (with_reducible first | exact HB.out | apply below_alloc | apply pw_below_drewN | apply below_drew1 | refine below_set ?_ GE252.out) | exact HB.out))) : w.heap.size ≤ gb253));have n4_ := Aside0.mk ((by rw [hg];exact (below_size (by repeat (first | (with_reducible first | exact HB.out | apply below_alloc | apply pw_below_drewN | apply below_drew1 | refine below_set ?_ GE252.out) | exact HB.out))) : w.heap.size ≤ gb253));have n5_ := Aside0.mk ((by rw [hg];exact Nat.ne_of_lt (blk_lt (g := gb252) (o := .cells #[.slice A0_0 l0_0.length c0_0,.int .i64 a0_1] 34 (0,0)) (by (with_reducible repeat (first | refine blk_drewN ?_ _ | refine blk_drew ?_ | refine blk_alloc ?_ _));exact BK252.out)) : gb252 ≠ gb253));have n6_ := Aside0.mk ((by rw [hg];exact Nat.ne_of_gt (blk_lt (g := gb252) (o := .cells #[.slice A0_0 l0_0.length c0_0,.int .i64 a0_1] 34 (0,0)) (by (with_reducible repeat (first | refine blk_drewN ?_ _ | refine blk_drew ?_ | refine blk_alloc ?_ _));exact BK252.out)) : gb253 ≠ gb252));clear BK252;clear HB;have BK252 := n0_;have HB := n1_;have BK253 := n2_;have GW253 := n3_;have GE253 := n4_;have NB252_253 := n5_;have NB253_252 := n6_;clear n0_ n1_ n2_ n3_ n4_ n5_ n6_;clear hb hbox hg;have hnb13 := NB252_253.out;have hnc13 := NB253_252.out;have hcz14_0 : w12.cell? ⟨gb252,0,none⟩ = some (.slice A0_0 l0_0.length c0_0) := (blk_cell BK252.out 0).trans rfl;have hcz14_1 : w12.cell? ⟨gb252,1,none⟩ = some (.int .i64 a0_1) := (blk_cell BK252.out 1).trans rfl;have hfz14_0 := blk_frozen BK252.out 0;have hfz14_1 := blk_frozen BK252.out 1;have hcz15_0 : w12.cell? ⟨gb253,0,none⟩ = some (.slice A1_0 l1_0.length c1_0) := (blk_cell BK253.out 0).trans rfl;have hcz15_1 : w12.cell? ⟨gb253,1,none⟩ = some (.int .i64 a1_1) := (blk_cell BK253.out 1).trans rfl;have hfz15_0 := blk_frozen BK253.out 0;have hfz15_1 := blk_frozen BK253.out 1))
    go_ret
    exact ⟨by first | rfl | (simp [errW_none,errW_some] <;> rfl) | (simp [*,errW_none,errW_some] <;> rfl),by repeat (first | (with_reducible first | exact HB.out | apply below_alloc | apply pw_below_drewN | apply below_drew1 | refine below_set ?_ GE252.out | refine below_set ?_ GE253.out) | exact HB.out)⟩
end Go.Proofs.Ythmbfcfomcaaaaa.Z
end
section
namespace Go.Proofs.Ythmbfcfomcaaaaa.Z
open Go.RowKit Go.Proofs.YthmbfcfomcaaaaaW.PrintWords Go.Proofs.YthmbfcfomcaaaaaW.PrintLast Go.Proofs.YthmbfcfomcaaaaaW.PrintMore
attribute [local go_sem] max2_int min2_int max_two min_two max_three min_three max_four min_four
set_option linter.unusedVariables false
set_option linter.unusedSimpArgs false
def slices_EqualFunc.l0 : Nat → List (S34) → List (S34) → Int → Int → Option (Bool)
  | 0,_,_,_,_ => none
  | k + 1,x1,x15,x16,x17 => if x17 < x16 then (if 0 ≤ x17 then (if x17 < (x15.length : Int) then (if x17 < (x1.length : Int) then ((bag_Same_1.f k ((rd_T34 x15 x17).f0) ((rd_T34 x15 x17).f1) ((rd_T34 x1 x17).f0) ((rd_T34 x1 x17).f1)).bind fun t259 => (if t259 = true then (slices_EqualFunc.l0 k x1 x15 x16 (wrap64 (x17 + 1))) else (some false))) else (none)) else (none)) else (none)) else (some true)
def slices_EqualFunc.f (k : Nat) (l0 : List (S34)) (l1 : List (S34)) (a2 : Int) : Option (Bool) := if (l0.length : Int) = (l1.length : Int) then (slices_EqualFunc.l0 k l1 l0 (l0.length : Int) 0) else (some false)
theorem slices_EqualFunc.mono_l : ∀ k,(∀ y0 y1 y2 y3,LeO (slices_EqualFunc.l0 k y0 y1 y2 y3) (slices_EqualFunc.l0 (k + 1) y0 y1 y2 y3))
  | 0 => fun _ _ _ _ r h => by simp [slices_EqualFunc.l0] at h
  | k + 1 => by
    have ih0 := slices_EqualFunc.mono_l k
    · intro y0 y1 y2 y3
      unfold slices_EqualFunc.l0
      repeat' first
      | (with_reducible exact ih0 _ _ _ _)
      | (with_reducible exact bag_Same_1.mono _ _ _ _ _)
      | (with_reducible exact LeO.refl _)
      | (with_reducible exact LeO.none _)
      | (with_reducible refine LeO.ite ?_ ?_)
      | (with_reducible refine LeO.bind ?_ (fun _ => ?_))
      | exact ih0 _ _ _ _
      | exact bag_Same_1.mono _ _ _ _ _
      | exact LeO.none _
      | refine LeO.ite ?_ ?_
      | refine LeO.bind ?_ (fun _ => ?_)
theorem slices_EqualFunc.mono : ∀ a0 a1 a2 k,LeO (slices_EqualFunc.f k a0 a1 a2) (slices_EqualFunc.f (k + 1) a0 a1 a2) := by
  intro a0 a1 a2 k
  have ih0 := slices_EqualFunc.mono_l k
  unfold slices_EqualFunc.f
  repeat' first
      | (with_reducible exact ih0 _ _ _ _)
      | (with_reducible exact bag_Same_1.mono _ _ _ _ _)
      | (with_reducible exact LeO.refl _)
      | (with_reducible exact LeO.none _)
      | (with_reducible refine LeO.ite ?_ ?_)
      | (with_reducible refine LeO.bind ?_ (fun _ => ?_))
      | exact ih0 _ _ _ _
      | exact bag_Same_1.mono _ _ _ _ _
      | exact LeO.none _
      | refine LeO.ite ?_ ?_
      | refine LeO.bind ?_ (fun _ => ?_)
set_option maxHeartbeats 8000000 in
set_option maxRecDepth 100000 in
theorem slices_EqualFunc.calls (k : Nat) (A0 : Option Addr) (c0 : Nat) (l0 : List (S34)) (A1 : Option Addr) (c1 : Nat) (l1 : List (S34)) (a2 : Int) (r : Bool) (w : World) (hr0 : Kd.C k34 w A0 l0.length l0) (hc0 : l0.length ≤ c0) (hr1 : Kd.C k34 w A1 l1.length l1) (hc1 : l1.length ≤ c1) (h : slices_EqualFunc.f k l0 l1 a2 = some r) :
    Calls Try.prog 72 #[.slice A0 l0.length c0,.slice A1 l1.length c1,.func (.func 73) #[] #[]] w fun e w' => e = .returned (.bool r) ∧ Below w.heap.size w w' := by
  have hu34 := Try.underlying34
  have HR0 := Aside0.mk hr0
  have HC0 := Aside0.mk hc0
  clear hr0 hc0
  have HR1 := Aside0.mk hr1
  have HC1 := Aside0.mk hc1
  clear hr1 hc1
  have HB := Aside0.mk (Below.refl w.heap.size w)
  have H : (if (l0.length : Int) = (l1.length : Int) then (slices_EqualFunc.l0 k l1 l0 (l0.length : Int) 0) else (some false)) = some r := h
  clear h
  by_cases c4 : (l0.length : Int) = (l1.length : Int)
  · rw [if_pos c4] at H
    have c4b0 : ((l0.length : Int) == (l1.length : Int)) = true := beq_iff_eq.mpr c4
    have c4b1 : ((l0.length : Int) != (l1.length : Int)) = false := bne_eq_false_iff_eq.mpr c4
    have c4b2 : (l0.length == l1.length) = true := by first | simpa using c4 | (simp at c4 ⊢;omega)
    clear c4
    have H' := Aside0.mk H
    clear H
    go_enter Try.func72,Try.ntmps72
    go_wp2
    go_loopg [17] k (fun kq v17 w' => ∃ (x17_1 : Int),v17 = .int .i64 x17_1 ∧ Aside0 (slices_EqualFunc.l0 kq l1 l0 (l0.length : Int) x17_1 = some r) ∧ Aside0 (kq ≤ k) ∧ Aside0 (Below w.heap.size w w'))
    case atStart => exact ⟨(0),(by first | rfl | (simp;done) | (simp [*];done)),H',⟨Nat.le_refl _⟩,⟨by repeat (first | (with_reducible first | exact HB.out | apply below_alloc | apply pw_below_drewN | apply below_drew1) | exact HB.out)⟩⟩
    case round =>
      clear H'
      try clear c1
      try clear p2
      try clear c4
      try clear c4b0
      try clear c4b1
      try clear c4b2
      obtain ⟨x17_1,rfl,HA,HK1,HB⟩ := hrel
      cases gk with
      | zero => exact absurd HA.out (by simp [slices_EqualFunc.l0])
      | succ k1 =>
        have H := HA.out
        clear HA
        simp only [slices_EqualFunc.l0] at H
        by_cases c5 : x17_1 < (l0.length : Int)
        · rw [if_pos c5] at H
          have c5b0 : decide (x17_1 < (l0.length : Int)) = true := decide_eq_true c5
          clear c5
          by_cases c6 : 0 ≤ x17_1
          · rw [if_pos c6] at H
            have c6b0 : decide (0 ≤ x17_1) = true := decide_eq_true c6
            clear c6
            by_cases c7 : x17_1 < (l0.length : Int)
            · rw [if_pos c7] at H
              have c7b0 : decide (x17_1 < (l0.length : Int)) = true := decide_eq_true c7
              clear c7
              by_cases c8 : x17_1 < (l1.length : Int)
              · rw [if_pos c8] at H
                have c8b0 : decide (x17_1 < (l1.length : Int)) = true := decide_eq_true c8
                clear c8
                replace H := Option.bind_eq_some_iff.mp H
                obtain ⟨t259,A90,H⟩ := H
                replace H : (if t259 = true then (slices_EqualFunc.l0 k1 l1 l0 (l0.length : Int) (wrap64 (x17_1 + 1))) else (some false)) = some r := H
                have A9 := Aside0.mk A90
                clear A90
                by_cases c10 : t259 = true
                · subst c10
                  have H1 : (slices_EqualFunc.l0 k1 l1 l0 (l0.length : Int) (wrap64 (x17_1 + 1))) = some r := by rw [if_pos rfl] at H;exact H
                  clear H
                  have H := H1
                  clear H1
                  have H' := Aside0.mk H
                  clear H
                  have p255 : 0 ≤ (x17_1 : Int) := of_decide_eq_true (by first | (with_reducible assumption) | assumption)
                  have q255 : x17_1 < (l0.length : Int) := of_decide_eq_true (by first | (with_reducible assumption) | assumption)
                  obtain ⟨ad255,A255_0,c255_0,e255,hx255_0,hx255_1,hl255_0,hi255_0⟩ := at_T34 HR0.out x17_1 p255 q255
                  cases e255
                  replace hx255_0 := (HB.out.cell (World.block_lt_of_cell? w _ hx255_0)).trans hx255_0
                  replace hx255_1 := (HB.out.cell (World.block_lt_of_cell? w _ hx255_1)).trans hx255_1
                  have HR255_0 := Aside0.mk hi255_0
                  have HC255_0 := Aside0.mk hl255_0
                  clear hi255_0 hl255_0
                  replace p255 := eq_true p255
                  replace q255 := eq_true q255
                  go_wp2_with (first | ((with_reducible refine gate_dst (N := 8) rfl ?_);refine box_event ?hg (N := 8) ?hd (cs := #[.slice none 0 0,.int .i64 0]) (t := 34) ?hr ?_;(case hd => rfl);(case hg => rfl);(case hr => first | (go_simp;done) | (go_simp;rfl));intro gb256 hg w11 hbox hb;have n0_ := Aside0.mk (below_step (by repeat (first | (with_reducible first | exact HB.out | apply below_alloc | apply pw_below_drewN | apply below_drew1) | exact HB.out)) hb);have n1_ := Aside0.mk (hbox);have n2_ := Aside0.mk ((by rw [hg];exact (below_size (by repeat (first | (with_reducible first | exact HB.out | apply below_alloc | apply pw_below_drewN | apply below_drew1) | exact HB.out))) : w.heap.size ≤ gb256));have n3_ := Aside0.mk ((by rw [hg];exact (below_size (by repeat (first | (with_reducible first | exact HB.out | apply below_alloc | apply pw_below_drewN | apply below_drew1) | exact HB.out))) : w.heap.size ≤ gb256));clear HB;have HB := n0_;have BK256 := n1_;have GW256 := n2_;have GE256 := n3_;clear n0_ n1_ n2_ n3_;clear hb hbox hg;have hcz12_0 : w11.cell? ⟨gb256,0,none⟩ = some (.slice none 0 0) := (blk_cell BK256.out 0).trans rfl;have hcz12_1 : w11.cell? ⟨gb256,1,none⟩ = some (.int .i64 0) := (blk_cell BK256.out 1).trans rfl;have hfz12_0 := blk_frozen BK256.out 0;have hfz12_1 := blk_frozen BK256.out 1;have p257 : 0 ≤ (x17_1 : Int) := of_decide_eq_true (by first | (with_reducible assumption) | assumption);have q257 : x17_1 < (l1.length : Int) := of_decide_eq_true (by first | (with_reducible assumption) | assumption);obtain ⟨ad257,A257_0,c257_0,e257,hx257_0,hx257_1,hl257_0,hi257_0⟩ := at_T34 HR1.out x17_1 p257 q257;cases e257;have hn257_0 : ad257.block ≠ gb256 := Nat.ne_of_lt (Nat.lt_of_lt_of_le (by have := World.block_lt_of_cell? _ _ hx257_0;first | rwa [add_block] at this | exact this) GW256.out);have hn257_1 : ad257.block ≠ gb256 := Nat.ne_of_lt (Nat.lt_of_lt_of_le (by have := World.block_lt_of_cell? _ _ hx257_0;first | rwa [add_block] at this | exact this) GW256.out);replace hx257_0 := (HB.out.cell (World.block_lt_of_cell? w _ hx257_0)).trans hx257_0;replace hx257_1 := (HB.out.cell (World.block_lt_of_cell? w _ hx257_1)).trans hx257_1;have HR257_0 := Aside0.mk hi257_0;have HC257_0 := Aside0.mk hl257_0;clear hi257_0 hl257_0;replace hx257_0 := (cell_far (p := ⟨gb256,0,none⟩) (by first | (rw [add_block];exact hn257_0) | (show (Addr.add _ _).block ≠ _;rw [add_block];exact hn257_0) | exact hn257_0) (.slice A255_0 ((rd_T34 l0 x17_1).f0).length c255_0)).trans hx257_0;replace hx257_1 := (cell_far (p := ⟨gb256,0,none⟩) (by first | (rw [add_block];exact hn257_0) | (show (Addr.add _ _).block ≠ _;rw [add_block];exact hn257_0) | exact hn257_0) (.slice A255_0 ((rd_T34 l0 x17_1).f0).length c255_0)).trans hx257_1;replace hx257_0 := (cell_far (p := ⟨gb256,1,none⟩) (by first | (rw [add_block];exact hn257_1) | (show (Addr.add _ _).block ≠ _;rw [add_block];exact hn257_1) | exact hn257_1) (.int .i64 ((rd_T34 l0 x17_1).f1))).trans hx257_0;replace hx257_1 := (cell_far (p := ⟨gb256,1,none⟩) (by first | (rw [add_block];exact hn257_1) | (show (Addr.add _ _).block ≠ _;rw [add_block];exact hn257_1) | exact hn257_1) (.int .i64 ((rd_T34 l0 x17_1).f1))).trans hx257_1;clear hn257_0;clear hn257_1;replace p257 := eq_true p257;replace q257 := eq_true q257) | ((with_reducible refine gate_dst (N := 9) rfl ?_);refine box_event ?hg (N := 9) ?hd (cs := #[.slice none 0 0,.int .i64 0]) (t := 34) ?hr ?_;(case hd => rfl);(case hg => rfl);(case hr => first | (go_simp;done) | (go_simp;rfl));intro gb258 hg w13 hbox hb;have n0_ := Aside0.mk (blk_below (g := gb256) (o := .cells #[.slice A255_0 ((rd_T34 l0 x17_1).f0).length c255_0,.int .i64 ((rd_T34 l0 x17_1).f1)] 34 (0,0)) (by (with_reducible repeat (first | refine blk_drewN ?_ _ | refine blk_drew ?_ | refine blk_alloc ?_ _));refine blk_put (cs := #[.slice A255_0 ((rd_T34 l0 x17_1).f0).length c255_0,.int .i64 0]) ?_ 1 _ rfl;(with_reducible repeat (first | refine blk_drewN ?_ _ | refine blk_drew ?_ | refine blk_alloc ?_ _));refine blk_put (cs := #[.slice none 0 0,.int .i64 0]) ?_ 0 _ rfl;(with_reducible repeat (first | refine blk_drewN ?_ _ | refine blk_drew ?_ | refine blk_alloc ?_ _));exact BK256.out) hb);have n1_ := Aside0.mk (below_step (by repeat (first | (with_reducible first | exact HB.out | apply below_alloc | apply pw_below_drewN | apply below_drew1 | refine below_set ?_ GE256.out) | exact HB.out)) hb);have n2_ := Aside0.mk (hbox);have n3_ := Aside0.mk ((by rw [hg];exact (below_size (by repeat (first | (with_reducible first | exact HB.out | apply below_alloc | apply pw_below_drewN | apply below_drew1 | refine below_set ?_ GE256.out) | exact HB.out))) : w.heap.size ≤ gb258));have n4_ := Aside0.mk ((by rw [hg];exact (below_size (by repeat (first | (with_reducible first | exact HB.out | apply below_alloc | apply pw_below_drewN | apply below_drew1 | refine below_set ?_ GE256.out) | exact HB.out))) : w.heap.size ≤ gb258));have n5_ := Aside0.mk ((by rw [hg];exact Nat.ne_of_lt (blk_lt (g := gb256) (o := .cells #[.slice A255_0 ((rd_T34 l0 x17_1).f0).length c255_0,.int .i64 ((rd_T34 l0 x17_1).f1)] 34 (0,0)) (by (with_reducible repeat (first | refine blk_drewN ?_ _ | refine blk_drew ?_ | refine blk_alloc ?_ _));refine blk_put (cs := #[.slice A255_0 ((rd_T34 l0 x17_1).f0).length c255_0,.int .i64 0]) ?_ 1 _ rfl;(with_reducible repeat (first | refine blk_drewN ?_ _ | refine blk_drew ?_ | refine blk_alloc ?_ _));refine blk_put (cs := #[.slice none 0 0,.int .i64 0]) ?_ 0 _ rfl;(with_reducible repeat (first | refine blk_drewN ?_ _ | refine blk_drew ?_ | refine blk_alloc ?_ _));exact BK256.out)) : gb256 ≠ gb258));have n6_ := Aside0.mk ((by rw [hg];exact Nat.ne_of_gt (blk_lt (g := gb256) (o := .cells #[.slice A255_0 ((rd_T34 l0 x17_1).f0).length c255_0,.int .i64 ((rd_T34 l0 x17_1).f1)] 34 (0,0)) (by (with_reducible repeat (first | refine blk_drewN ?_ _ | refine blk_drew ?_ | refine blk_alloc ?_ _));refine blk_put (cs := #[.slice A255_0 ((rd_T34 l0 x17_1).f0).length c255_0,.int .i64 0]) ?_ 1 _ rfl;(with_reducible repeat (first | refine blk_drewN ?_ _ | refine blk_drew ?_ | refine blk_alloc ?_ _));refine blk_put (cs := #[.slice none 0 0,.int .i64 0]) ?_ 0 _ rfl;(with_reducible repeat (first | refine blk_drewN ?_ _ | refine blk_drew ?_ | refine blk_alloc ?_ _));exact BK256.out)) : gb258 ≠ gb256));clear BK256;clear HB;have BK256 := n0_;have HB := n1_;have BK258 := n2_;have GW258 := n3_;have GE258 := n4_;have NB256_258 := n5_;have NB258_256 := n6_;clear n0_ n1_ n2_ n3_ n4_ n5_ n6_;clear hb hbox hg;have hnb14 := NB258_256.out;have hnc14 := NB256_258.out;have hcz15_0 : w13.cell? ⟨gb258,0,none⟩ = some (.slice none 0 0) := (blk_cell BK258.out 0).trans rfl;have hcz15_1 : w13.cell? ⟨gb258,1,none⟩ = some (.int .i64 0) := (blk_cell BK258.out 1).trans rfl;have hfz15_0 := blk_frozen BK258.out 0;have hfz15_1 := blk_frozen BK258.out 1;have hcz16_0 : w13.cell? ⟨gb256,0,none⟩ = some (.slice A255_0 ((rd_T34 l0 x17_1).f0).length c255_0) := (blk_cell BK256.out 0).trans rfl;have hcz16_1 : w13.cell? ⟨gb256,1,none⟩ = some (.int .i64 ((rd_T34 l0 x17_1).f1)) := (blk_cell BK256.out 1).trans rfl;have hfz16_0 := blk_frozen BK256.out 0;have hfz16_1 := blk_frozen BK256.out 1) | ((with_reducible refine gate_tmp (n := 26) rfl ?_);refine goesT_ (some 29) rfl rfl Try.func73 (by kernel_rfl) rfl #[.agg #[.slice A255_0 ((rd_T34 l0 x17_1).f0).length c255_0,.int .i64 ((rd_T34 l0 x17_1).f1)],.agg #[.slice A257_0 ((rd_T34 l1 x17_1).f0).length c257_0,.int .i64 ((rd_T34 l1 x17_1).f1)]] rfl rfl (by (try simp only [List.map_toArray,List.map_cons,List.map_nil]);first | done | rfl | (simp only [List.length_drop,List.length_take];rfl)) ?_;(with_reducible refine (bag_Same_1.calls k1 _ _ ((rd_T34 l0 x17_1).f0) ((rd_T34 l0 x17_1).f1) _ _ ((rd_T34 l1 x17_1).f0) ((rd_T34 l1 x17_1).f1) true _ ?side1 ?side2 ?side3 ?side4 A9.out).mono ?_);(case side1 => exact Kd.C_below HR255_0.out (by repeat (first | (with_reducible first | exact HB.out | apply below_alloc | apply pw_below_drewN | apply below_drew1 | refine below_set ?_ GE256.out | refine below_set ?_ GE258.out) | exact HB.out)));(case side2 => exact HC255_0.out);(case side3 => exact Kd.C_below HR257_0.out (by repeat (first | (with_reducible first | exact HB.out | apply below_alloc | apply pw_below_drewN | apply below_drew1 | refine below_set ?_ GE256.out | refine below_set ?_ GE258.out) | exact HB.out)));(case side4 => exact HC257_0.out);rintro e w17 ⟨rfl,hb⟩;refine ⟨_,rfl,?_⟩;have n0_ := Aside0.mk (blk_below (g := gb256) (o := .cells #[.slice A255_0 ((rd_T34 l0 x17_1).f0).length c255_0,.int .i64 ((rd_T34 l0 x17_1).f1)] 34 (0,0)) (by (with_reducible repeat (first | refine blk_drewN ?_ _ | refine blk_drew ?_ | refine blk_alloc ?_ _));refine blk_far ?_ NB256_258.out _;(with_reducible repeat (first | refine blk_drewN ?_ _ | refine blk_drew ?_ | refine blk_alloc ?_ _));refine blk_far ?_ NB256_258.out _;(with_reducible repeat (first | refine blk_drewN ?_ _ | refine blk_drew ?_ | refine blk_alloc ?_ _));exact BK256.out) hb);have n1_ := Aside0.mk (blk_below (g := gb258) (o := .cells #[.slice A257_0 ((rd_T34 l1 x17_1).f0).length c257_0,.int .i64 ((rd_T34 l1 x17_1).f1)] 34 (0,0)) (by (with_reducible repeat (first | refine blk_drewN ?_ _ | refine blk_drew ?_ | refine blk_alloc ?_ _));refine blk_put (cs := #[.slice A257_0 ((rd_T34 l1 x17_1).f0).length c257_0,.int .i64 0]) ?_ 1 _ rfl;(with_reducible repeat (first | refine blk_drewN ?_ _ | refine blk_drew ?_ | refine blk_alloc ?_ _));refine blk_put (cs := #[.slice none 0 0,.int .i64 0]) ?_ 0 _ rfl;(with_reducible repeat (first | refine blk_drewN ?_ _ | refine blk_drew ?_ | refine blk_alloc ?_ _));exact BK258.out) hb);have n2_ := Aside0.mk (below_step (by repeat (first | (with_reducible first | exact HB.out | apply below_alloc | apply pw_below_drewN | apply below_drew1 | refine below_set ?_ GE256.out | refine below_set ?_ GE258.out) | exact HB.out)) hb);clear BK256;clear BK258;clear HB;have BK256 := n0_;have BK258 := n1_;have HB := n2_;clear n0_ n1_ n2_;(try clear hb);(try clear hb2);(try clear hk);(try clear hi)))
                  go_roundg k1
                  case measure => have := HK1.out;omega
                  case rel => exact ⟨(wrap64 (x17_1 + 1)),(by first | rfl | (simp;done) | (simp [*];done)),H',⟨by have := HK1.out;omega⟩,⟨by repeat (first | (with_reducible first | exact HB.out | apply below_alloc | apply pw_below_drewN | apply below_drew1 | refine below_set ?_ GE256.out | refine below_set ?_ GE258.out) | exact HB.out)⟩⟩
                · replace c10 := Bool.eq_false_iff.mpr c10
                  subst c10
                  have H1 : (some false) = some r := by rw [if_neg (show ¬ (false = true) by decide)] at H;exact H
                  clear H
                  have H := H1
                  clear H1
                  obtain rfl := Option.some.inj H
                  have p255 : 0 ≤ (x17_1 : Int) := of_decide_eq_true (by first | (with_reducible assumption) | assumption)
                  have q255 : x17_1 < (l0.length : Int) := of_decide_eq_true (by first | (with_reducible assumption) | assumption)
                  obtain ⟨ad255,A255_0,c255_0,e255,hx255_0,hx255_1,hl255_0,hi255_0⟩ := at_T34 HR0.out x17_1 p255 q255
                  cases e255
                  replace hx255_0 := (HB.out.cell (World.block_lt_of_cell? w _ hx255_0)).trans hx255_0
                  replace hx255_1 := (HB.out.cell (World.block_lt_of_cell? w _ hx255_1)).trans hx255_1
                  have HR255_0 := Aside0.mk hi255_0
                  have HC255_0 := Aside0.mk hl255_0
                  clear hi255_0 hl255_0
                  replace p255 := eq_true p255
                  replace q255 := eq_true q255
                  go_wp2_with (first | ((with_reducible refine gate_dst (N := 8) rfl ?_);refine box_event ?hg (N := 8) ?hd (cs := #[.slice none 0 0,.int .i64 0]) (t := 34) ?hr ?_;(case hd => rfl);(case hg => rfl);(case hr => first | (go_simp;done) | (go_simp;rfl));intro gb256 hg w18 hbox hb;have n0_ := Aside0.mk (below_step (by repeat (first | (with_reducible first | exact HB.out | apply below_alloc | apply pw_below_drewN | apply below_drew1) | exact HB.out)) hb);have n1_ := Aside0.mk (hbox);have n2_ := Aside0.mk ((by rw [hg];exact (below_size (by repeat (first | (with_reducible first | exact HB.out | apply below_alloc | apply pw_below_drewN | apply below_drew1) | exact HB.out))) : w.heap.size ≤ gb256));have n3_ := Aside0.mk ((by rw [hg];exact (below_size (by repeat (first | (with_reducible first | exact HB.out | apply below_alloc | apply pw_below_drewN | apply below_drew1) | exact HB.out))) : w.heap.size ≤ gb256));clear HB;have HB := n0_;have BK256 := n1_;have GW256 := n2_;have GE256 := n3_;clear n0_ n1_ n2_ n3_;clear hb hbox hg;have hcz19_0 : w18.cell? ⟨gb256,0,none⟩ = some (.slice none 0 0) := (blk_cell BK256.out 0).trans rfl;have hcz19_1 : w18.cell? ⟨gb256,1,none⟩ = some (.int .i64 0) := (blk_cell BK256.out 1).trans rfl;have hfz19_0 := blk_frozen BK256.out 0;have hfz19_1 := blk_frozen BK256.out 1;have p257 : 0 ≤ (x17_1 : Int) := of_decide_eq_true (by first | (with_reducible assumption) | assumption);have q257 : x17_1 < (l1.length : Int) := of_decide_eq_true (by first | (with_reducible assumption) | assumption);obtain ⟨ad257,A257_0,c257_0,e257,hx257_0,hx257_1,hl257_0,hi257_0⟩ := at_T34 HR1.out x17_1 p257 q257;cases e257;have hn257_0 : ad257.block ≠ gb256 := Nat.ne_of_lt (Nat.lt_of_lt_of_le (by have := World.block_lt_of_cell? _ _ hx257_0;first | rwa [add_block] at this | exact this) GW256.out);have hn257_1 : ad257.block ≠ gb256 := Nat.ne_of_lt (Nat.lt_of_lt_of_le (by have := World.block_lt_of_cell? _ _ hx257_0;first | rwa [add_block] at this | exact this) GW256.out);replace hx257_0 := (HB.out.cell (World.block_lt_of_cell? w _ hx257_0)).trans hx257_0;replace hx257_1 := (HB.out.cell (World.block_lt_of_cell? w _ hx257_1)).trans hx257_1;have HR257_0 := Aside0.mk hi257_0;have HC257_0 := Aside0.mk hl257_0;clear hi257_0 hl257_0;replace hx257_0 := (cell_far (p := ⟨gb256,0,none⟩) (by first | (rw [add_block];exact hn257_0) | (show (Addr.add _ _).block ≠ _;rw [add_block];exact hn257_0) | exact hn257_0) (.slice A255_0 ((rd_T34 l0 x17_1).f0).length c255_0)).trans hx257_0;replace hx257_1 := (cell_far (p := ⟨gb256,0,none⟩) (by first | (rw [add_block];exact hn257_0) | (show (Addr.add _ _).block ≠ _;rw [add_block];exact hn257_0) | exact hn257_0) (.slice A255_0 ((rd_T34 l0 x17_1).f0).length c255_0)).trans hx257_1;replace hx257_0 := (cell_far (p := ⟨gb256,1,none⟩) (by first | (rw [add_block];exact hn257_1) | (show (Addr.add _ _).block ≠ _;rw [add_block];exact hn257_1) | exact hn257_1) (.int .i64 ((rd_T34 l0 x17_1).f1))).trans hx257_0;replace hx257_1 := (cell_far (p := ⟨gb256,1,none⟩) (by first | (rw [add_block];exact hn257_1) | (show (Addr.add _ _).block ≠ _;rw [add_block];exact hn257_1) | exact hn257_1) (.int .i64 ((rd_T34 l0 x17_1).f1))).trans hx257_1;clear hn257_0;clear hn257_1;replace p257 := eq_true p257;replace q257 := eq_true q257) | ((with_reducible refine gate_dst (N := 9) rfl ?_);refine box_event ?hg (N := 9) ?hd (cs := #[.slice none 0 0,.int .i64 0]) (t := 34) ?hr ?_;(case hd => rfl);(case hg => rfl);(case hr => first | (go_simp;done) | (go_simp;rfl));intro gb258 hg w20 hbox hb;have n0_ := Aside0.mk (blk_below (g := gb256) (o := .cells #[.slice A255_0 ((rd_T34 l0 x17_1).f0).length c255_0,.int .i64 ((rd_T34 l0 x17_1).f1)] 34 (0,0)) (by (with_reducible repeat (first | refine blk_drewN ?_ _ | refine blk_drew ?_ | refine blk_alloc ?_ _));refine blk_put (cs := #[.slice A255_0 ((rd_T34 l0 x17_1).f0).length c255_0,.int .i64 0]) ?_ 1 _ rfl;(with_reducible repeat (first | refine blk_drewN ?_ _ | refine blk_drew ?_ | refine blk_alloc ?_ _));refine blk_put (cs := #[.slice none 0 0,.int .i64 0]) ?_ 0 _ rfl;(with_reducible repeat (first | refine blk_drewN ?_ _ | refine blk_drew ?_ | refine blk_alloc ?_ _));exact BK256.out) hb);have n1_ := Aside0.mk (below_step (by repeat (first | (with_reducible first | exact HB.out | apply below_alloc | apply pw_below_drewN | apply below_drew1 | refine below_set ?_ GE256.out) | exact HB.out)) hb);have n2_ := Aside0.mk (hbox);have n3_ := Aside0.mk ((by rw [hg];exact (below_size (by repeat (first | (with_reducible first | exact HB.out | apply below_alloc | apply pw_below_drewN | apply below_drew1 | refine below_set ?_ GE256.out) | exact HB.out))) : w.heap.size ≤ gb258));have n4_ := Aside0.mk ((by rw [hg];exact (below_size (by repeat (first | (with_reducible first | exact HB.out | apply below_alloc | apply pw_below_drewN | apply below_drew1 | refine below_set ?_ GE256.out) | exact HB.out))) : w.heap.size ≤ gb258));have n5_ := Aside0.mk ((by rw [hg];exact Nat.ne_of_lt (blk_lt (g := gb256) (o := .cells #[.slice A255_0 ((rd_T34 l0 x17_1).f0).length c255_0,.int .i64 ((rd_T34 l0 x17_1).f1)] 34 (0,0)) (by (with_reducible repeat (first | refine blk_drewN ?_ _ | refine blk_drew ?_ | refine blk_alloc ?_ _));refine blk_put (cs := #[.slice A255_0 ((rd_T34 l0 x17_1).f0).length c255_0,.int .i64 0]) ?_ 1 _ rfl;(with_reducible repeat (first | refine blk_drewN ?_ _ | refine blk_drew ?_ | refine blk_alloc ?_ _));refine blk_put (cs := #[.slice none 0 0,.int .i64 0]) ?_ 0 _ rfl;(with_reducible repeat (first | refine blk_drewN ?_ _ | refine blk_drew ?_ | refine blk_alloc ?_ _));exact BK256.out)) : gb256 ≠ gb258));have n6_ := Aside0.mk ((by rw [hg];exact Nat.ne_of_gt (blk_lt (g := gb256) (o := .cells #[.slice A255_0 ((rd_T34 l0 x17_1).f0).length c255_0,.int .i64 ((rd_T34 l0 x17_1).f1)] 34 (0,0)) (by (with_reducible repeat (first | refine blk_drewN ?_ _ | refine blk_drew ?_ | refine blk_alloc ?_ _));refine blk_put (cs := #[.slice A255_0 ((rd_T34 l0 x17_1).f0).length c255_0,.int .i64 0]) ?_ 1 _ rfl;(with_reducible repeat (first | refine blk_drewN ?_ _ | refine blk_drew ?_ | refine blk_alloc ?_ _));refine blk_put (cs := #[.slice none 0 0,.int .i64 0]) ?_ 0 _ rfl;(with_reducible repeat (first | refine blk_drewN ?_ _ | refine blk_drew ?_ | refine blk_alloc ?_ _));exact BK256.out)) : gb258 ≠ gb256));clear BK256;clear HB;have BK256 := n0_;have HB := n1_;have BK258 := n2_;have GW258 := n3_;have GE258 := n4_;have NB256_258 := n5_;have NB258_256 := n6_;clear n0_ n1_ n2_ n3_ n4_ n5_ n6_;clear hb hbox hg;have hnb21 := NB258_256.out;have hnc21 := NB256_258.out;have hcz22_0 : w20.cell? ⟨gb258,0,none⟩ = some (.slice none 0 0) := (blk_cell BK258.out 0).trans rfl;have hcz22_1 : w20.cell? ⟨gb258,1,none⟩ = some (.int .i64 0) := (blk_cell BK258.out 1).trans rfl;have hfz22_0 := blk_frozen BK258.out 0;have hfz22_1 := blk_frozen BK258.out 1;have hcz23_0 : w20.cell? ⟨gb256,0,none⟩ = some (.slice A255_0 ((rd_T34 l0 x17_1).f0).length c255_0) := (blk_cell BK256.out 0).trans rfl;have hcz23_1 : w20.cell? ⟨gb256,1,none⟩ = some (.int .i64 ((rd_T34 l0 x17_1).f1)) := (blk_cell BK256.out 1).trans rfl;have hfz23_0 := blk_frozen BK256.out 0;have hfz23_1 := blk_frozen BK256.out 1) | ((with_reducible refine gate_tmp (n := 26) rfl ?_);refine goesT_ (some 29) rfl rfl Try.func73 (by kernel_rfl) rfl #[.agg #[.slice A255_0 ((rd_T34 l0 x17_1).f0).length c255_0,.int .i64 ((rd_T34 l0 x17_1).f1)],.agg #[.slice A257_0 ((rd_T34 l1 x17_1).f0).length c257_0,.int .i64 ((rd_T34 l1 x17_1).f1)]] rfl rfl (by (try simp only [List.map_toArray,List.map_cons,List.map_nil]);first | done | rfl | (simp only [List.length_drop,List.length_take];rfl)) ?_;(with_reducible refine (bag_Same_1.calls k1 _ _ ((rd_T34 l0 x17_1).f0) ((rd_T34 l0 x17_1).f1) _ _ ((rd_T34 l1 x17_1).f0) ((rd_T34 l1 x17_1).f1) false _ ?side1 ?side2 ?side3 ?side4 A9.out).mono ?_);(case side1 => exact Kd.C_below HR255_0.out (by repeat (first | (with_reducible first | exact HB.out | apply below_alloc | apply pw_below_drewN | apply below_drew1 | refine below_set ?_ GE256.out | refine below_set ?_ GE258.out) | exact HB.out)));(case side2 => exact HC255_0.out);(case side3 => exact Kd.C_below HR257_0.out (by repeat (first | (with_reducible first | exact HB.out | apply below_alloc | apply pw_below_drewN | apply below_drew1 | refine below_set ?_ GE256.out | refine below_set ?_ GE258.out) | exact HB.out)));(case side4 => exact HC257_0.out);rintro e w24 ⟨rfl,hb⟩;refine ⟨_,rfl,?_⟩;have n0_ := Aside0.mk (blk_below (g := gb256) (o := .cells #[.slice A255_0 ((rd_T34 l0 x17_1).f0).length c255_0,.int .i64 ((rd_T34 l0 x17_1).f1)] 34 (0,0)) (by (with_reducible repeat (first | refine blk_drewN ?_ _ | refine blk_drew ?_ | refine blk_alloc ?_ _));refine blk_far ?_ NB256_258.out _;(with_reducible repeat (first | refine blk_drewN ?_ _ | refine blk_drew ?_ | refine blk_alloc ?_ _));refine blk_far ?_ NB256_258.out _;(with_reducible repeat (first | refine blk_drewN ?_ _ | refine blk_drew ?_ | refine blk_alloc ?_ _));exact BK256.out) hb);have n1_ := Aside0.mk (blk_below (g := gb258) (o := .cells #[.slice A257_0 ((rd_T34 l1 x17_1).f0).length c257_0,.int .i64 ((rd_T34 l1 x17_1).f1)] 34 (0,0)) (by (with_reducible repeat (first | refine blk_drewN ?_ _ | refine blk_drew ?_ | refine blk_alloc ?_ _));refine blk_put (cs := #[.slice A257_0 ((rd_T34 l1 x17_1).f0).length c257_0,.int .i64 0]) ?_ 1 _ rfl;(with_reducible repeat (first | refine blk_drewN ?_ _ | refine blk_drew ?_ | refine blk_alloc ?_ _));refine blk_put (cs := #[.slice none 0 0,.int .i64 0]) ?_ 0 _ rfl;(with_reducible repeat (first | refine blk_drewN ?_ _ | refine blk_drew ?_ | refine blk_alloc ?_ _));exact BK258.out) hb);have n2_ := Aside0.mk (below_step (by repeat (first | (with_reducible first | exact HB.out | apply below_alloc | apply pw_below_drewN | apply below_drew1 | refine below_set ?_ GE256.out | refine below_set ?_ GE258.out) | exact HB.out)) hb);clear BK256;clear BK258;clear HB;have BK256 := n0_;have BK258 := n1_;have HB := n2_;clear n0_ n1_ n2_;(try clear hb);(try clear hb2);(try clear hk);(try clear hi)))
                  go_ret
                  exact ⟨by first | rfl | (simp [errW_none,errW_some] <;> rfl) | (simp [*,errW_none,errW_some] <;> rfl),by repeat (first | (with_reducible first | exact HB.out | apply below_alloc | apply pw_below_drewN | apply below_drew1 | refine below_set ?_ GE256.out | refine below_set ?_ GE258.out) | exact HB.out)⟩
              · rw [if_neg c8] at H
                exact absurd H (by simp)
            · rw [if_neg c7] at H
              exact absurd H (by simp)
          · rw [if_neg c6] at H
            exact absurd H (by simp)
        · rw [if_neg c5] at H
          have c5b0 : decide (x17_1 < (l0.length : Int)) = false := decide_eq_false c5
          clear c5
          obtain rfl := Option.some.inj H
          go_wp2
          go_ret
          exact ⟨by first | rfl | (simp [errW_none,errW_some] <;> rfl) | (simp [*,errW_none,errW_some] <;> rfl),by repeat (first | (with_reducible first | exact HB.out | apply below_alloc | apply pw_below_drewN | apply below_drew1) | exact HB.out)⟩
  · rw [if_neg c4] at H
    have c4b0 : ((l0.length : Int) == (l1.length : Int)) = false := beq_eq_false_iff_ne.mpr c4
    have c4b1 : ((l0.length : Int) != (l1.length : Int)) = true := bne_iff_ne.mpr c4
    have c4b2 : (l0.length == l1.length) = false := by first | simpa using c4 | (simp at c4 ⊢;omega)
    obtain rfl := Option.some.inj H
    go_enter Try.func72,Try.ntmps72
    go_wp2
    go_ret
    exact ⟨by first | rfl | (simp [errW_none,errW_some] <;> rfl) | (simp [*,errW_none,errW_some] <;> rfl),by repeat (first | (with_reducible first | exact HB.out | apply below_alloc | apply pw_below_drewN | apply below_drew1) | exact HB.out)⟩
end Go.Proofs.Ythmbfcfomcaaaaa.Z
end
section
namespace Go.Proofs.Ythmbfcfomcaaaaa.Z
set_option linter.unusedVariables false
set_option linter.unusedSimpArgs false
open Go.RowKit Go.Proofs.YthmbfcfomcaaaaaW.PrintWords Go.Proofs.YthmbfcfomcaaaaaW.PrintLast Go.Proofs.YthmbfcfomcaaaaaW.PrintMore Go.Proofs.Ythmbfcfomcaaaaa.Cmp
end Go.Proofs.Ythmbfcfomcaaaaa.Z
end
section
namespace Go.Proofs.Ythmbfcfomcaaaaa.Z
set_option linter.unusedVariables false
set_option linter.unusedSimpArgs false
open Go.RowKit Go.Proofs.YthmbfcfomcaaaaaW.PrintWords Go.Proofs.YthmbfcfomcaaaaaW.PrintLast Go.Proofs.YthmbfcfomcaaaaaW.PrintMore Go.Proofs.Ythmbfcfomcaaaaa.Cmp
theorem rdE_get {L : List En} {i : Nat} (hi : i < L.length) : rd_T34 L (i : Int) = L[i] := by
  rw [rd_at];simp [List.getD,List.getElem?_eq_getElem hi]
theorem same1_f (x y : En) (hx : rright x.f0 = true) (hy : rright y.f0 = true) (k : Nat) (hk : 50 < k) : ∃ r,bag_Same_1.f k x.f0 x.f1 y.f0 y.f1 = some r ∧ (r = true ↔ x = y) := by
  obtain ⟨xr,xm⟩ := x
  obtain ⟨yr,ym⟩ := y
  have lx := right_len hx
  unfold bag_Same_1.f row_Same.f
  simp only at *
  by_cases hm : xm = ym
  · rw [if_pos hm,rowCompare_f xr yr (by omega) k (by omega)]
    refine ⟨_,rfl,?_⟩
    rw [beq_iff_eq]
    constructor
    · intro h;rw [rright_eq hx hy h,hm]
    · intro h;injection h with h1 h2;rw [h1];exact rcmp_law.self yr
  · rw [if_neg hm]
    exact ⟨false,rfl,fun h => (by cases h),fun h => absurd (by injection h) hm⟩
theorem eqf_l0 (L1 L2 : List En) (h1 : OkD L1) (h2 : OkD L2) (he : L1.length = L2.length) (hl : L1.length ≤ 1000000) : ∀ d i k,L1.length - i = d → i ≤ L1.length → d + 60 < k → ∃ r,slices_EqualFunc.l0 k L2 L1 (L1.length : Int) (i : Int) = some r ∧ (r = true ↔ L1.drop i = L2.drop i) := by
  intro d
  induction d with
  | zero =>
    intro i k hd hi hk
    obtain ⟨k,rfl⟩ : ∃ m,k = m + 1 := ⟨k - 1,by omega⟩
    simp only [slices_EqualFunc.l0]
    rw [if_neg (by omega),List.drop_of_length_le (by omega),List.drop_of_length_le (by omega)]
    exact ⟨true,rfl,by simp⟩
  | succ d ih =>
    intro i k hd hi hk
    obtain ⟨k,rfl⟩ : ∃ m,k = m + 1 := ⟨k - 1,by omega⟩
    simp only [slices_EqualFunc.l0]
    have i1 : i < L1.length := by omega
    have i2 : i < L2.length := by omega
    rw [if_pos (by omega),if_pos (by omega),if_pos (by omega),if_pos (by omega),rdE_get i1,rdE_get i2]
    obtain ⟨r,hr,hq⟩ := same1_f L1[i] L2[i] (h1 _ (List.getElem_mem _)).1 (h2 _ (List.getElem_mem _)).1 k (by omega)
    rw [hr,Option.bind_some,List.drop_eq_getElem_cons i1,List.drop_eq_getElem_cons i2]
    by_cases hrt : r = true
    · rw [if_pos hrt,show wrap64 ((i : Int) + 1) = ((i + 1 : Nat) : Int) by unfold wrap64;omega]
      obtain ⟨r2,e2,q2⟩ := ih (i + 1) k (by omega) (by omega) (by omega)
      refine ⟨r2,e2,?_⟩
      rw [q2]
      exact ⟨fun h => by rw [hq.1 hrt,h],fun h => by injection h⟩
    · rw [if_neg hrt]
      exact ⟨false,rfl,fun h => (by cases h),fun h => absurd (hq.2 (by injection h)) hrt⟩
theorem eqf_f (L1 L2 : List En) (h1 : OkD L1) (h2 : OkD L2) (hl : L1.length ≤ 1000000) : ∃ r,slices_EqualFunc.f (L1.length + 100) L1 L2 0 = some r ∧ (r = true ↔ L1 = L2) := by
  unfold slices_EqualFunc.f
  by_cases he : L1.length = L2.length
  · rw [if_pos (by omega)]
    obtain ⟨r,e,q⟩ := eqf_l0 L1 L2 h1 h2 he hl L1.length 0 (L1.length + 100) (by omega) (by omega) (by omega)
    exact ⟨r,e,q⟩
  · rw [if_neg (by omega)]
    exact ⟨false,rfl,fun h => (by cases h),fun h => absurd (by rw [h]) he⟩
set_option maxHeartbeats 4000000 in
set_option maxRecDepth 100000 in
theorem bag_same {D1 D2 : Nat → Prop} {b1 b2 : Nat} {t1 t2 : Tr} {w : World} (h1 : BagAt w b1 t1 D1) (h2 : BagAt w b2 t2 D2) (l1 : t1.size ≤ 1000000) (l2 : t2.size ≤ 1000000) :
    Calls Try.prog 27 #[.pointer (some ⟨b1,0,none⟩),.pointer (some ⟨b2,0,none⟩)] w fun e w' => ∃ r,e = .returned (.bool r) ∧ (r = true ↔ docT t1 = docT t2) ∧ Below w.heap.size w w' := by
  have HO := Aside0.mk (And.intro h1.ok h2.ok)
  have RA := Aside0.mk (bag_rows b1 t1 w h1 l1)
  have RB := Aside0.mk (fun W (hb : Below w.heap.size w W) => bag_rows b2 t2 W (h2.below hb) l2)
  have HL := Aside0.mk (show (docT t1).length ≤ 1000000 by rw [doc_len];exact l1)
  obtain ⟨L1,e1⟩ : ∃ L1,docT t1 = L1 := ⟨_,rfl⟩
  obtain ⟨L2,e2⟩ : ∃ L2,docT t2 = L2 := ⟨_,rfl⟩
  rw [e1,e2] at HO
  rw [e1] at RA HL
  rw [e2] at RB
  rw [e1,e2]
  obtain ⟨r,hr,hq⟩ := eqf_f L1 L2 HO.out.1 HO.out.2 HL.out
  have FR := Aside0.mk hr
  have FQ := Aside0.mk hq
  clear h1 h2 l1 l2 e1 e2 hr hq
  go_enter Try.func27,Try.ntmps27
  go_wp2_with (fail)
  refine RA.out.mono ?_
  rintro e w1 ⟨v1,rfl,hv,hb⟩
  obtain ⟨A1,c1,rfl⟩ := Kd.R_slice hv
  have C1 := Aside0.mk (Kd.R_reads' hv).2
  have B1 := Aside0.mk hb
  clear hv hb RA
  go_wp2_with (fail)
  refine (RB.out w1 B1.out).mono ?_
  rintro e w2 ⟨v2,rfl,hv,hb⟩
  obtain ⟨A2,c2,rfl⟩ := Kd.R_slice hv
  have C2 := Aside0.mk (Kd.R_reads' hv).2
  have D1 := Aside0.mk (Kd.C_below C1.out.2 hb)
  have B2 := Aside0.mk (B1.out.trans (hb.mono B1.out.size))
  clear hv hb RB
  go_wp2_with (fail)
  refine (slices_EqualFunc.calls (L1.length + 100) A1 c1 L1 A2 c2 L2 0 r w2 D1.out C1.out.1 C2.out.2 C2.out.1 FR.out).mono ?_
  rintro e w3 ⟨rfl,hb⟩
  have B3 := Aside0.mk (B2.out.trans (hb.mono B2.out.size))
  clear hb
  go_wp2_with (fail)
  go_ret
  exact ⟨_,rfl,FQ.out,B3.out⟩
end Go.Proofs.Ythmbfcfomcaaaaa.Z
end
section
namespace Go.Proofs.Ythmbfcfomcaaaaa.Z
set_option linter.unusedVariables false
set_option linter.unusedSimpArgs false
open Go.RowKit Go.Proofs.YthmbfcfomcaaaaaW.PrintWords Go.Proofs.YthmbfcfomcaaaaaW.PrintLast Go.Proofs.YthmbfcfomcaaaaaW.PrintMore Go.Proofs.Ythmbfcfomcaaaaa.Cmp
theorem mul_len (m : Int) : ∀ (O L : List En),SrtD L → OkD L → (mulD m O L).length ≤ L.length + O.length
  | [],L,_,_ => Nat.le_refl _
  | e :: O,L,hs,hk => by
    obtain ⟨i1,i2⟩ := addD_inv (r := e.f0) (m := e.f1 * m) hs hk
    have h1 := mul_len m O (addD e.f0 (e.f1 * m) L).2 i1 i2
    have h2 := addD_len e.f0 (e.f1 * m) hs
    simp only [mulD,List.length_cons]
    omega
theorem merge_len (m : Int) (O L : List En) (hs : SrtD L) (hk : OkD L) : (mergeD m O L).2.length ≤ L.length + O.length := by
  have := mul_len m O L hs hk
  unfold mergeD
  split
  · split
    · exact this
    · exact Nat.le_add_right _ _
  · exact Nat.le_add_right _ _
theorem BagCh.other {w w1 : World} {b c : Nat} {t t' tc : Tr} {D D' Dc : Nat → Prop} (h : BagCh w w1 b t t' D D') (hc : BagAt w c tc Dc) (hd : ∀ k,BagOwn c tc Dc k → ¬ BagOwn b t D k) : BagAt w1 c tc Dc ∧ ∀ k,BagOwn c tc Dc k → ¬ BagOwn b t' D' k :=
  ⟨hc.keep h.ch (fun k s ho => hd k ho (s.elim .inl (fun q => .inr (.inl q)))),fun k ho hb => (h.own k hb).elim (hd k ho) (fun q => by have := hc.own_lt k ho;omega)⟩
theorem row_F {w : World} {A : Option Addr} {n : Nat} {r : Rw} (h : Kd.C k66 w A n r) : Kd.F k66 w (fun k => k < w.heap.size) A n r := fun W' hW => ⟨h.1,h.2.1,fun hn => by
  obtain ⟨ad,e,hc⟩ := h.2.2 hn
  refine ⟨ad,e,fun j p hj => ?_⟩
  obtain ⟨c,hl,hK,hcell⟩ := hc j p hj
  refine ⟨c,hl,by rw [k66_open hK];exact k66_mk W' p,fun i u hi => ?_⟩
  have h1 := hcell i u hi
  have hlt := World.block_lt_of_cell? w _ h1
  have e2 := hW _ hlt hlt
  have e3 : W'.cell? (ad.add (j * k66.sz + i)) = w.cell? (ad.add (j * k66.sz + i)) := by unfold World.cell?;rw [e2]
  exact e3.trans h1⟩
set_option maxHeartbeats 8000000 in
set_option maxRecDepth 100000 in
theorem known_end (w : World) (N : Nat) (w0 : World) (h : NextW N w0 w) : Calls Try.prog 14 #[] w fun e w' => e = .returned (.bool true) ∧ Below N w0 w' := by
  refine (known_at w).mono ?_
  rintro e w' ⟨rfl,hb⟩
  exact ⟨rfl,(h.next hb).at_⟩
set_option maxHeartbeats 8000000 in
set_option maxRecDepth 100000 in
theorem bag_order (A0 A1 : Option Addr) (n n1 c0 c1 : Nat) (l l1 : List En) (m : Int) (w : World) (hl : Kd.C k34 w A0 n l) (hc : n ≤ c0) (hl1 : Kd.C k34 w A1 n1 l1) (hc1 : n1 ≤ c1) :
    Calls Try.prog 4 #[.slice A0 n c0,.slice A1 n1 c1,.int .i64 m] w fun e w' => e = .returned (.bool true) ∧ Below w.heap.size w w' := by
  have HL := Aside0.mk hl
  have HL1 := Aside0.mk hl1
  have FW := Aside0.mk (lfew_at A0 n c0 l w hl hc)
  have FW1 := Aside0.mk (fun W (hb : Below w.heap.size w W) => lfew_at A1 n1 c1 l1 W (Kd.C_below hl1 hb) hc1)
  have LN := Aside0.mk (show l.length = n from hl.1)
  obtain ⟨N,hN⟩ : ∃ N,w.heap.size = N := ⟨_,rfl⟩
  have I0 := Aside0.mk (NextW.refl w)
  have HN := Aside0.mk hN
  rw [hN] at I0 FW1 ⊢
  have KE := Aside0.mk (fun W (h : NextW N w W) => known_end W N w h)
  clear hl hl1 hc hc1 hN
  go_enter Try.func4,Try.ntmps4
  go_wp2_with (fail)
  refine FW.out.mono ?_
  rintro e w1 ⟨fb,rfl,hfb,hb⟩
  have FB := Aside0.mk hfb
  have I1 := Aside0.mk (I0.out.next hb)
  clear hfb hb I0 FW
  cases fb with
  | false =>
    go_wp2_with (fail)
    refine (KE.out _ I1.out).mono ?_
    rintro e w2 ⟨rfl,hb⟩
    go_wp2_with (fail)
    go_ret
    exact ⟨rfl,hb⟩
  | true =>
  have hn := FB.out rfl
  clear FB
  go_wp2_with (fail)
  refine (FW1.out _ I1.out.at_).mono ?_
  rintro e w2 ⟨fb,rfl,hfb,hb⟩
  have FB := Aside0.mk hfb
  have I2 := Aside0.mk (I1.out.next hb)
  clear hfb hb I1 FW1
  by_cases hgo : fb = true ∧ -1000 ≤ m ∧ m ≤ 1000
  · obtain ⟨rfl,m0,m1⟩ := hgo
    have hn1 := FB.out rfl
    have q0 : decide (m < (-1000 : Int)) = false := decide_eq_false (by omega)
    have q1 : decide ((1000 : Int) < m) = false := decide_eq_false (by omega)
    clear FB
    go_wp2_with (fail)
    go_loopw [7] (fun iv wr => ∃ i : Nat,iv = .int .i64 (i : Int) ∧ i ≤ n ∧ Aside0 (∀ j x,j < i → l[j]? = some x → -1000 ≤ x.f1 ∧ x.f1 ≤ 1000) ∧ Aside0 (NextW N w wr)) (fun iv _ => n - (intOf iv).toNat)
    case atStart => exact ⟨0,rfl,Nat.zero_le _,⟨fun j x h => absurd h (by omega)⟩,I2⟩
    case round =>
      clear I2
      obtain ⟨i,rfl,hi,BD,I3⟩ := hrel
      by_cases hin : i < n
      · have k0 : decide ((i : Int) < (n : Int)) = true := decide_eq_true (by omega)
        have k0' : decide (i < n) = true := decide_eq_true hin
        have p0 : (0 : Int) ≤ (i : Int) := by omega
        have p1 : (i : Int) < (n : Int) := by omega
        obtain ⟨x,hx⟩ : ∃ x,l[i]? = some x := ⟨l[i]'(by have := LN.out;omega),List.getElem?_eq_getElem _⟩
        obtain ⟨ad,Ax,cx,e1,x0,x1,hxc⟩ := ent_get HL.out hin hx
        subst e1
        have HX := Aside0.mk hx
        replace x1 := (I3.out.below.cell (HN.out ▸ World.block_lt_of_cell? w _ x1)).trans x1
        clear x0 hxc hx
        by_cases h0 : x.f1 < -1000
        · have r0 : decide (x.f1 < (-1000 : Int)) = true := decide_eq_true h0
          go_wp2_with (fail)
          refine (KE.out _ I3.out).mono ?_
          rintro e w4 ⟨rfl,hb⟩
          go_wp2_with (fail)
          go_ret
          exact ⟨rfl,hb⟩
        · have r0 : decide (x.f1 < (-1000 : Int)) = false := decide_eq_false h0
          by_cases h1 : 1000 < x.f1
          · have r1 : decide ((1000 : Int) < x.f1) = true := decide_eq_true h1
            go_wp2_with (fail)
            refine (KE.out _ I3.out).mono ?_
            rintro e w4 ⟨rfl,hb⟩
            go_wp2_with (fail)
            go_ret
            exact ⟨rfl,hb⟩
          · have r1 : decide ((1000 : Int) < x.f1) = false := decide_eq_false h1
            go_wp2_with (fail)
            go_roundw
            case rel => exact ⟨i + 1,by go_num,hin,⟨fun j y hj hy => by
              rcases Nat.lt_succ_iff_lt_or_eq.1 hj with q | q
              · exact BD.out j y q hy
              · rw [q,HX.out] at hy
                obtain rfl := Option.some.inj hy
                omega⟩,I3⟩
            case measure => simp [intOf];omega
      · have k0 : decide ((i : Int) < (n : Int)) = false := decide_eq_false (by omega)
        have k0' : decide (i < n) = false := decide_eq_false hin
        have BE := Aside0.mk (show ∀ e ∈ l,-1000 ≤ e.f1 ∧ e.f1 ≤ 1000 from fun e he => by
          obtain ⟨j,hj,rfl⟩ := List.getElem_of_mem he
          exact BD.out j l[j] (by have := LN.out;omega) (List.getElem?_eq_getElem hj))
        go_wp2_with (fail)
        clear k0 k0' hin hi BD
        go_loopw [8,9] (fun v iv wx => ∃ j : Nat,iv = .int .i64 (j : Int) ∧ j ≤ n ∧ Aside0 (Kd.N k34 34 wx N (fun _ => True) v (l.drop j).reverse) ∧ Aside0 (∀ k,v.ownBlock = some k → N ≤ k) ∧ Aside0 (NextW N w wx)) (fun _ iv _ => (intOf iv).toNat)
        case atStart => exact ⟨n,rfl,Nat.le_refl _,⟨by rw [List.drop_of_length_le (by have := LN.out;omega)];exact Kd.N_nil _ _ _ _ _⟩,⟨fun k h => by simp [Value.ownBlock] at h⟩,I3⟩
        case round =>
          clear I3
          obtain ⟨j,rfl,hj,NV,OV,I4⟩ := hrel
          rename World => wx
          rename Value => vb
          obtain ⟨Lb,hLb⟩ : ∃ Lb,(l.drop j).reverse = Lb := ⟨_,rfl⟩
          have LB := Aside0.mk hLb
          rw [hLb] at NV
          have LBL := Aside0.mk (show Lb.length = n - j by rw [← hLb,List.length_reverse,List.length_drop,LN.out])
          obtain ⟨Ab,cb,eb⟩ := Kd.N_slice NV.out
          subst eb
          clear hLb
          by_cases hj0 : 0 < j
          · have k0 : decide ((0 : Int) < (j : Int)) = true := decide_eq_true (by omega)
            have k0' : decide (0 < j) = true := decide_eq_true hj0
            obtain ⟨i,hij⟩ : ∃ i,j = i + 1 := ⟨j - 1,by omega⟩
            have hin : i < n := by omega
            have wj : IntKind.i64.wrap ((j : Int) - 1) = (i : Int) := by rw [IntKind.wrap_i64];omega
            have p0 : (0 : Int) ≤ (i : Int) := by omega
            have p1 : (i : Int) < (n : Int) := by omega
            obtain ⟨x,hx⟩ : ∃ x,l[i]? = some x := ⟨l[i]'(by have := LN.out;omega),List.getElem?_eq_getElem _⟩
            obtain ⟨ad,Ax,cx,e1,x0,x1,hxc⟩ := ent_get HL.out hin hx
            subst e1
            have HX := Aside0.mk hx
            have XF := Aside0.mk (show Kd.F k66 wx (fun k => k < N) Ax x.f0.length x.f0 from Kd.F_step (HN.out ▸ row_F hxc.row) (fun k hk hlt => I4.out.below.block k hk))
            have XK := Aside0.mk hxc.cap
            replace x0 := (I4.out.below.cell (HN.out ▸ World.block_lt_of_cell? w _ x0)).trans x0
            replace x1 := (I4.out.below.cell (HN.out ▸ World.block_lt_of_cell? w _ x1)).trans x1
            have NE : Lb ++ [x] = (l.drop i).reverse := by
              have hil : i < l.length := by have := LN.out;omega
              rw [List.getElem?_eq_getElem hil] at hx
              rw [List.drop_eq_getElem_cons hil,List.reverse_cons,Option.some.inj hx,← hij,LB.out]
            have NE2 := Aside0.mk NE
            clear hxc hx NE
            obtain ⟨xr,xm⟩ := x
            simp only at *
            go_wp2_with (((with_reducible refine gate_builtin (b := .append) (xs := #[.tmp 61,.tmp 67]) rfl ?_);at_builtin;refine Kd.N_append k34 (w0 := w) N rfl (.tmp 61) (.tmp 67) 22 34 (.agg #[(.slice none 0 0),(.int .i64 0)]) 32 rfl Try.underlying22 info34 rfl (by decide) (by omega) (.slice Ab Lb.length cb) Lb (⟨xr,xm⟩ : En) [.slice Ax xr.length cx,.int .i64 xm] (fun _ => True) (fun k => k < N) rfl rfl (k34_mkF _ _ (⟨xr,xm⟩ : En) XK.out XF.out) (fun k hk => ⟨trivial,fun e => by have := OV.out k e.symm;omega⟩) (fun _ _ => trivial) NV.out I4.out.below I4.out.le (by have := LBL.out;omega) ?_;intro v2 w6 hv hb3 hg hat;have NV6 := Aside0.mk (show Kd.N k34 34 w6 N (fun _ => True) v2 (l.drop i).reverse by rw [← NE2.out];exact hv);have I6 := Aside0.mk (NextW.mk hb3 (Nat.le_trans I4.out.le hg.size));have OV6 := Aside0.mk (own_new2 OV.out I4.out.le hat);clear hv hb3 hg hat))
            go_roundw
            case rel => exact ⟨i,by go_num,by omega,NV6,OV6,I6⟩
            case measure => simp [intOf];omega
          · have k0 : decide ((0 : Int) < (j : Int)) = false := decide_eq_false (by omega)
            have k0' : decide (0 < j) = false := decide_eq_false hj0
            obtain rfl : j = 0 := by omega
            have LR := Aside0.mk (show Lb = l.reverse by rw [← LB.out];rfl)
            have CB := Aside0.mk (Kd.F_now (Kd.N_F NV.out))
            go_wp2_with (fail)
            have CPB := Aside0.mk (Kd.N_reads' NV.out).2.1
            have LBN := Aside0.mk (show Lb.length ≤ 1000 by have := LBL.out;omega)
            refine (bag_of A0 n c0 l wx (Kd.C_below HL.out (HN.out ▸ I4.out.below)) (by omega)).mono ?_
            rintro e w6 ⟨pa,qa,La,ha,rfl,hb,hpa,hpa0⟩
            have CB6 := Aside0.mk (Kd.C_below CB.out hb)
            have I6 := Aside0.mk (I4.out.next hb)
            have OA := Aside0.mk ha
            have PA := Aside0.mk hpa
            have PA0 := Aside0.mk hpa0
            have N4 := Aside0.mk I4.out.le
            clear ha hb hpa hpa0 CB I4 k0 k0' hj0 hj
            go_wp2_with (fail)
            refine (bag_of Ab Lb.length cb Lb w6 CB6.out LBN.out).mono ?_
            rintro e w7 ⟨pb,qb,Lk,hbk,rfl,hb,hpb,hpb0⟩
            have BK := of_back l BE.out (by have := LN.out;omega)
            rw [← LR.out,OA.out,hbk] at BK
            obtain ⟨hq,hLk⟩ := BK
            simp only at hq hLk
            subst hq
            have BKL := Aside0.mk hLk
            have B7 := Aside0.mk hb
            have I7 := Aside0.mk (I6.out.next hb)
            have PB := Aside0.mk hpb
            have PB0 := Aside0.mk hpb0
            clear hbk hb hpb hpb0 CB6 I6 hLk NV OV
            go_wp2_with (fail)
            refine (bag_of A1 n1 c1 l1 w7 (Kd.C_below HL1.out (HN.out ▸ I7.out.below)) (by omega)).mono ?_
            rintro e w8 ⟨pc,qc,Lc,hcc,rfl,hb,hpc,hpc0⟩
            have B8 := Aside0.mk hb
            have I8 := Aside0.mk (I7.out.next hb)
            have PC0 := Aside0.mk hpc0
            clear hcc hb hpc hpc0
            by_cases hqa : qa = 0
            · subst hqa
              obtain ⟨a,ta,Da,rfl,hda,hla,hA⟩ := PA0.out rfl
              obtain ⟨b,tb,Db,rfl,hdb,hlb,hB⟩ := PB0.out rfl
              have DTA := Aside0.mk hda
              have DTB := Aside0.mk hdb
              have LA := Aside0.mk hla
              have LBB := Aside0.mk hlb
              have HA6 := Aside0.mk hA
              have HA8 := Aside0.mk ((hA.below B7.out).below B8.out)
              have HB7 := Aside0.mk hB
              have HB8 := Aside0.mk (hB.below B8.out)
              have DAB := Aside0.mk (show ∀ k,BagOwn b tb Db k → ¬ BagOwn a ta Da k from fun k h1 h2 => by have := hA.bag.own_lt k h2;have := hB.own k h1;omega)
              have BEQ := Aside0.mk (BKL.out rfl)
              have OWA := Aside0.mk (show ∀ k,BagOwn a ta Da k → N ≤ k from fun k hk => Nat.le_trans N4.out (hA.own k hk))
              have LT7 := Aside0.mk (show ∀ k,BagOwn a ta Da k → k < w7.heap.size from (hA.below B7.out).bag.own_lt)
              clear hda hdb hla hlb hA hB PA PB PA0 PB0 BKL
              go_wp2_with (fail)
              have SM := Aside0.mk (fun W (hb : Below w8.heap.size w8 W) => bag_same (HA8.out.bag.below hb) (HB8.out.bag.below hb) (by rw [← doc_len,DTA.out];have := LA.out;omega) (by rw [← doc_len,DTB.out];have := LBB.out;have := LBN.out;omega))
              refine (SM.out w8 (Below.refl _ _)).mono ?_
              rintro e w9 ⟨r,rfl,hr,hb⟩
              obtain rfl : r = true := hr.2 (by rw [DTA.out,DTB.out];exact BEQ.out)
              have B9 := Aside0.mk hb
              have I9 := Aside0.mk (I8.out.next hb)
              clear hr hb
              by_cases hqc : qc = 0
              · subst hqc
                obtain ⟨c,tc,Dc,rfl,hdc,hlc,hC⟩ := PC0.out rfl
                have DTC := Aside0.mk hdc
                have LC := Aside0.mk hlc
                have HC9 := Aside0.mk (hC.bag.below B9.out)
                have HA9 := Aside0.mk (HA8.out.below B9.out)
                have HB9 := Aside0.mk (HB8.out.bag.below B9.out)
                have DAC := Aside0.mk (show ∀ k,BagOwn c tc Dc k → ¬ BagOwn a ta Da k from fun k h1 h2 => by have := LT7.out k h2;have := hC.own k h1;omega)
                have NA := Aside0.mk (show w.heap.size ≤ w9.heap.size from HN.out ▸ I9.out.le)
                have SDA := Aside0.mk (show SrtD La ∧ OkD La by rw [← DTA.out];exact ⟨HA9.out.bag.srtD,HA9.out.bag.ok⟩)
                have SDC := Aside0.mk (show SrtD Lc ∧ OkD Lc by rw [← DTC.out];exact ⟨HC9.out.srtD,HC9.out.ok⟩)
                clear hdc hlc hC PC0
                go_wp2_with (fail)
                refine (bag_merge (N := 0) m ⟨HA9.out.bag,fun _ _ => Nat.zero_le _⟩ HC9.out (Nat.zero_le _) DTA.out DTC.out (by have := LA.out;omega) (by have := LC.out;omega)).mono ?_
                rintro e w10 ⟨t',D',rfl,hd,hT,hc⟩
                have ML := merge_len m Lc La SDA.out.1 SDA.out.2
                have MB := merge_back m Lc La SDC.out.1 SDC.out.2 SDA.out.1 SDA.out.2 ⟨m0,m1⟩
                obtain ⟨⟨h,La'⟩,hm⟩ : ∃ x,mergeD m Lc La = x := ⟨_,rfl⟩
                rw [hm] at hd ML MB ⊢
                simp only at hd ML MB ⊢
                have DTA' := Aside0.mk hd
                have ML' := Aside0.mk ML
                have MB' := Aside0.mk MB
                have HA10 := Aside0.mk hT
                obtain ⟨ob,db⟩ := hc.other HB9.out DAB.out
                obtain ⟨oc,dc⟩ := hc.other HC9.out DAC.out
                have HB10 := Aside0.mk ob
                have HC10 := Aside0.mk oc
                have DB10 := Aside0.mk db
                have I10 := Aside0.mk (I9.out.nextN (hc.ch.toBelow I9.out.le (fun k s => OWA.out k (s.elim .inl (fun q => .inr (.inl q))))))
                have OW10 := Aside0.mk (show ∀ k,BagOwn a t' D' k → N ≤ k from fun k hk => (hc.own k hk).elim (OWA.out k) (fun q => Nat.le_trans I9.out.le q))
                clear hd ML MB hm hT ob db oc dc hc HB9 HC9 HA9 DAB DAC I9 OWA
                by_cases hh : h = 0
                · subst hh
                  have wn : IntKind.i64.wrap (-m) = -m := by rw [IntKind.wrap_i64];omega
                  go_wp2_with (fail)
                  refine (bag_merge (N := 0) (-m) ⟨HA10.out,fun _ _ => Nat.zero_le _⟩ HC10.out (Nat.zero_le _) DTA'.out DTC.out (by have := LA.out;have := LC.out;have := ML'.out;omega) (by have := LC.out;omega)).mono ?_
                  rintro e w11 ⟨t'',D'',rfl,hd,hT,hc⟩
                  rw [MB'.out.2 (by trivial)] at hd ⊢
                  simp only at hd ⊢
                  have DTA2 := Aside0.mk hd
                  have HA11 := Aside0.mk hT
                  have HB11 := Aside0.mk (hc.other HB10.out DB10.out).1
                  have I11 := Aside0.mk (I10.out.nextN (hc.ch.toBelow I10.out.le (fun k s => OW10.out k (s.elim .inl (fun q => .inr (.inl q))))))
                  clear hd hT hc HA10 HB10 HC10 I10
                  go_wp2_with (fail)
                  refine (bag_same HA11.out HB11.out (by rw [← doc_len,DTA2.out];have := LA.out;omega) (by rw [← doc_len,DTB.out];have := LBB.out;have := LBN.out;omega)).mono ?_
                  rintro e w12 ⟨r,rfl,hr,hb⟩
                  obtain rfl : r = true := hr.2 (by rw [DTA2.out,DTB.out];exact BEQ.out)
                  have I12 := Aside0.mk (I11.out.next hb)
                  clear hr hb
                  go_wp2_with (fail)
                  refine (KE.out _ I12.out).mono ?_
                  rintro e w13 ⟨rfl,hb⟩
                  go_wp2_with (fail)
                  go_ret
                  exact ⟨rfl,hb⟩
                · obtain rfl := MB'.out.1 hh
                  have c1 : (h == 0) = false := by simp [hh]
                  go_wp2_with (fail)
                  refine (bag_same HA10.out HB10.out (by rw [← doc_len,DTA'.out];have := LA.out;omega) (by rw [← doc_len,DTB.out];have := LBB.out;have := LBN.out;omega)).mono ?_
                  rintro e w12 ⟨r,rfl,hr,hb⟩
                  obtain rfl : r = true := hr.2 (by rw [DTA'.out,DTB.out];exact BEQ.out)
                  have I12 := Aside0.mk (I10.out.next hb)
                  clear hr hb
                  go_wp2_with (fail)
                  refine (KE.out _ I12.out).mono ?_
                  rintro e w13 ⟨rfl,hb⟩
                  go_wp2_with (fail)
                  go_ret
                  exact ⟨rfl,hb⟩
              · have c1 : (qc != 0) = true := by simp [hqc]
                go_wp2_with (fail)
                refine (KE.out _ I9.out).mono ?_
                rintro e w10 ⟨rfl,hb⟩
                go_wp2_with (fail)
                go_ret
                exact ⟨rfl,hb⟩
            · obtain rfl := PA.out hqa
              obtain rfl := PB.out hqa
              have c0 : (qa == 0) = false := by simp [hqa]
              have c1 : (qa != 0) = true := by simp [hqa]
              go_wp2_with (fail)
              refine (KE.out _ I8.out).mono ?_
              rintro e w10 ⟨rfl,hb⟩
              go_wp2_with (fail)
              go_ret
              exact ⟨rfl,hb⟩
  · by_cases hf : fb = true
    · subst hf
      by_cases h0 : m < -1000
      · have q0 : decide (m < (-1000 : Int)) = true := decide_eq_true h0
        clear hgo
        go_wp2_with (fail)
        refine (KE.out _ I2.out).mono ?_
        rintro e w3 ⟨rfl,hb⟩
        go_wp2_with (fail)
        go_ret
        exact ⟨rfl,hb⟩
      · have q0 : decide (m < (-1000 : Int)) = false := decide_eq_false h0
        have q1 : decide ((1000 : Int) < m) = true := decide_eq_true (by have : ¬ (-1000 ≤ m ∧ m ≤ 1000) := fun h => hgo ⟨rfl,h⟩;omega)
        clear hgo
        go_wp2_with (fail)
        refine (KE.out _ I2.out).mono ?_
        rintro e w3 ⟨rfl,hb⟩
        go_wp2_with (fail)
        go_ret
        exact ⟨rfl,hb⟩
    · obtain rfl : fb = false := by simpa using hf
      clear hgo hf
      go_wp2_with (fail)
      refine (KE.out _ I2.out).mono ?_
      rintro e w3 ⟨rfl,hb⟩
      go_wp2_with (fail)
      go_ret
      exact ⟨rfl,hb⟩
end Go.Proofs.Ythmbfcfomcaaaaa.Z
end
section
namespace Go.Proofs.Ythmbfcfomcaaaaa.Z
set_option linter.unusedVariables false
open Go.RowKit Go.Proofs.YthmbfcfomcaaaaaW.PrintWords Go.Proofs.YthmbfcfomcaaaaaW.PrintLast Go.Proofs.YthmbfcfomcaaaaaW.PrintMore
def verdererlaw05_BagOrder.f (l0 : List (S34)) (l1 : List (S34)) (a2 : Int) : Option (Bool) := some true
theorem verdererlaw05_BagOrder.calls (A0 : Option Addr) (c0 : Nat) (l0 : List (S34)) (A1 : Option Addr) (c1 : Nat) (l1 : List (S34)) (a2 : Int) (r : Bool) (w : World) (hr0 : Kd.C k34 w A0 l0.length l0) (hc0 : l0.length ≤ c0) (hr1 : Kd.C k34 w A1 l1.length l1) (hc1 : l1.length ≤ c1) (h : verdererlaw05_BagOrder.f l0 l1 a2 = some r) :
    Calls Try.prog 4 #[.slice A0 l0.length c0,.slice A1 l1.length c1,.int .i64 a2] w fun e w' => e = .returned (.bool r) ∧ Below w.heap.size w w' := by
  obtain rfl := Option.some.inj h
  exact bag_order A0 A1 l0.length l1.length c0 c1 l0 l1 a2 w hr0 hc0 hr1 hc1
end Go.Proofs.Ythmbfcfomcaaaaa.Z
end
section
namespace Go.Proofs.Ythmbfcfomcaaaaa.Z
open Go.RowKit Go.Proofs.YthmbfcfomcaaaaaW.PrintWords Go.Proofs.YthmbfcfomcaaaaaW.PrintLast Go.Proofs.YthmbfcfomcaaaaaW.PrintMore
theorem bagOrder_pure : ∀ (l0 : (List S34)) (l1 : (List S34)) (a2 : Int),(l0.length ≤ maxLen ∧ ∀ x ∈ l0,G34 x) → (l1.length ≤ maxLen ∧ ∀ x ∈ l1,G34 x) → (Lit.int .i64 a2).wf = true → verdererlaw05_BagOrder.f l0 l1 a2 = some true := by
  intros
  rfl
end Go.Proofs.Ythmbfcfomcaaaaa.Z
end
