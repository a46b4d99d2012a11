/- Parts of the proof of IndexPlays: what its functions answer. -/
import Derived.Test.YthmbfcfomcaaaaaMIndexPlaysa
import Derived.Test.YthmbfcfomcaaaaaMIndexPlaysb
import Derived.Test.YthmbfcfomcaaaaaMIndexPlaysc
import Derived.Deep.RegionWith
import Derived.RangeFuncNested
import Derived.RangeFuncBound
import Derived.RangeFuncCalls
import Derived.RangeFuncLeaves
import Derived.Shelf.Abstract
import Derived.WalkKit
import Derived.OwnWalkIn
import Derived.TacticsInMore
import Derived.Deep.Cut
import Derived.Deep.RegionHeld3
section
namespace Go.Proofs.Ythmbfcfomcaaaaa.Z
set_option linter.unusedVariables false
set_option linter.unusedSimpArgs false
open Go.RowKit Go.Proofs.YthmbfcfomcaaaaaW.PrintWords Go.Proofs.YthmbfcfomcaaaaaW.PrintLast Go.Proofs.YthmbfcfomcaaaaaW.PrintMore Go.Proofs.Ythmbfcfomcaaaaa.Cmp
structure RowC (w : World) (A : Option Addr) (c : Nat) (r : List S66) : Prop where
 cap : r.length ≤ c
 row : Kd.C k66 w A r.length r
theorem RowC.below {w w1 : World} {A : Option Addr} {c : Nat} {r : List S66} (h : RowC w A c r) (hb : Below w.heap.size w w1) : RowC w1 A c r := ⟨h.cap,Kd.C_below h.row hb⟩
theorem RowC.max {w : World} {A : Option Addr} {c : Nat} {r : List S66} (h : RowC w A c r) : r.length ≤ 9223372036854775807 := h.row.2.1
theorem EntIn.c {w : World} {D : Nat → Prop} {e : Ent} (h : EntIn w D e) : RowC w e.A e.c e.row := ⟨h.cap,Kd.F_now h.row⟩
theorem cmp_at (A0 A1 : Option Addr) (c0 c1 : Nat) (l0 l1 : List S66) (w : World) (h0 : RowC w A0 c0 l0) (h1 : RowC w A1 c1 l1) :
  Calls Try.prog 93 #[.slice A0 l0.length c0,.slice A1 l1.length c1] w fun e w' => e = .returned (.int .i64 (rcmp l0 l1)) ∧ Below w.heap.size w w' :=
 row_Compare.calls (l0.length + 1) A0 c0 l0 A1 c1 l1 (rcmp l0 l1) w h0.row h0.cap h1.row h1.cap (rowCompare_f l0 l1 h0.max (l0.length + 1) (by omega))
def adr : Option (Nat × Ent) → Option Addr
 | none => none
 | some x => some ⟨x.1,0,none⟩
def isRow (r : List S66) (x : Nat × Ent) : Bool := decide (rcmp r x.2.row = 0)
theorem srt_items {a b : List (Nat × Ent)} {x : Nat × Ent} (h : Srt (entsL (a ++ x :: b))) : (∀ y ∈ a,rcmp y.2.row x.2.row < 0) ∧ (∀ y ∈ b,rcmp x.2.row y.2.row < 0) := by
 rw [entsL_app] at h
 have := Srt.app (e := x.2) (by simpa [entsL] using h)
 exact ⟨fun y hy => this.2.2.1 y.2 (List.mem_map_of_mem (f := Prod.snd) hy),fun y hy => this.2.2.2 y.2 (List.mem_map_of_mem (f := Prod.snd) hy)⟩
theorem find_append {α : Type} (p : α → Bool) (a b : List α) : (a ++ b).find? p = match a.find? p with | some x => some x | none => b.find? p := by
 rw [List.find?_append]
 cases a.find? p <;> rfl
theorem find_none' {α : Type} {p : α → Bool} {a : List α} (h : ∀ x ∈ a,p x = false) : a.find? p = none := List.find?_eq_none.2 (fun x hx => by simp [h x hx])
theorem isRow_left {a b : List (Nat × Ent)} {x : Nat × Ent} (r : List S66) (h : Srt (entsL (a ++ x :: b))) (hc : rcmp r x.2.row < 0) : (a ++ x :: b).find? (isRow r) = a.find? (isRow r) := by
 obtain ⟨h1,h2⟩ := srt_items h
 rw [find_append,List.find?_cons,find_none' (a := b) (fun y hy => by
  have := rcmp_law.lt_le hc (Int.le_of_lt (h2 y hy))
  unfold isRow;exact decide_eq_false (by omega))]
 have : isRow r x = false := by unfold isRow;exact decide_eq_false (by omega)
 rw [this]
 cases a.find? (isRow r) <;> rfl
theorem isRow_right {a b : List (Nat × Ent)} {x : Nat × Ent} (r : List S66) (h : Srt (entsL (a ++ x :: b))) (hc : 0 < rcmp r x.2.row) : (a ++ x :: b).find? (isRow r) = b.find? (isRow r) := by
 obtain ⟨h1,h2⟩ := srt_items h
 have k1 : rcmp x.2.row r < 0 := by rw [rcmp_anti];omega
 rw [find_append,find_none' (a := a) (fun y hy => by
  have := rcmp_law.lt_le (h1 y hy) (Int.le_of_lt k1)
  rw [rcmp_anti] at this
  unfold isRow;exact decide_eq_false (by omega)),List.find?_cons]
 have : isRow r x = false := by unfold isRow;exact decide_eq_false (by omega)
 rw [this]
theorem isRow_here {a b : List (Nat × Ent)} {x : Nat × Ent} (r : List S66) (h : Srt (entsL (a ++ x :: b))) (hc : rcmp r x.2.row = 0) : (a ++ x :: b).find? (isRow r) = some x := by
 obtain ⟨h1,h2⟩ := srt_items h
 rw [find_append,find_none' (a := a) (fun y hy => by
  have := h1 y hy
  have e := rcmp_law.eq_left y.2.row hc
  have : rcmp r y.2.row = rcmp x.2.row y.2.row := e
  have k := rcmp_anti y.2.row x.2.row
  unfold isRow;exact decide_eq_false (by omega)),List.find?_cons]
 have : isRow r x = true := by unfold isRow;exact decide_eq_true hc
 rw [this]
theorem srt_left {b : Nat} {e : Ent} {l r : Tr} {h : Int} (k : Srt (Tr.node b e l r h).ents) : Srt l.ents ∧ Srt r.ents := by
 rw [Tr.ents_node] at k
 exact ⟨k.app.1,k.app.2.1⟩
set_option maxHeartbeats 4000000 in
set_option maxRecDepth 100000 in
theorem nd_find {D : Nat → Prop} (t : Tr) (A : Option Addr) (c : Nat) (r : List S66) (w : World) (h : t.In w D) (hs : Srt t.ents) (hr : RowC w A c r) :
  Calls Try.prog 61 #[t.ptr,.slice A r.length c] w fun e' w' => e' = .returned (.pointer (adr (t.items.find? (isRow r)))) ∧ Below w.heap.size w w' := by
 have HI := Aside0.mk h
 have HS := Aside0.mk hs
 have HR := Aside0.mk hr
 have HB := Aside0.mk (Below.refl w.heap.size w)
 obtain ⟨q,hq⟩ := ptr_case t
 have HQ := Aside0.mk hq
 obtain ⟨rr,hrr⟩ : ∃ rr,adr (t.items.find? (isRow r)) = rr := ⟨_,rfl⟩
 have RR := Aside0.mk hrr
 rw [hrr,hq]
 clear h hs hr hq hrr
 go_enter Try.func61,Try.ntmps61
 go_wp2_with (fail)
 go_loopg [0] t.size (fun k p wr => ∃ t2 : Tr,p = t2.ptr ∧ k = t2.size ∧ Aside0 (t2.In w D) ∧ Aside0 (Srt t2.ents) ∧ Aside0 (adr (t2.items.find? (isRow r)) = rr) ∧ Aside0 (Below w.heap.size w wr))
 case atStart => exact ⟨t,HQ.out.symm,rfl,HI,HS,RR,HB⟩
 case round =>
  clear HB HI HS RR HQ
  obtain ⟨t2,rfl,rfl,HI,HS,RR,HB⟩ := hrel
  cases t2 with
  | nil =>
   have e : rr = none := RR.out.symm
   subst e
   show Code.wp _ _ _ { tmps := _,defers := _ } _
   simp only [Tr.ptr]
   go_wp2_with (fail)
   go_ret
   exact ⟨rfl,HB.out⟩
  | node b e l r' k =>
   have c0 := q0d HI.out.1 0
   have c2 := q0d HI.out.1 2
   have c3 := q0d HI.out.1 3
   simp only [ncells,List.getElem?_toArray,List.getElem?_cons_zero,List.getElem?_cons_succ] at c0 c2 c3
   replace c0 := (HB.out.cell (World.block_lt_of_cell? w _ c0)).trans c0
   replace c2 := (HB.out.cell (World.block_lt_of_cell? w _ c2)).trans c2
   replace c3 := (HB.out.cell (World.block_lt_of_cell? w _ c3)).trans c3
   have RC := Aside0.mk (HR.out.below HB.out)
   have EC := Aside0.mk (HI.out.2.1.c.below HB.out)
   simp only [Tr.ptr]
   go_wp2_with (fail)
   refine (cmp_at A e.A c e.c r e.row wr RC.out EC.out).mono ?_
   rintro e' w2 ⟨rfl,hb⟩
   replace c2 := (hb.cell (World.block_lt_of_cell? _ _ c2)).trans c2
   replace c3 := (hb.cell (World.block_lt_of_cell? _ _ c3)).trans c3
   have HB2 := Aside0.mk (HB.out.trans (hb.mono HB.out.size))
   clear hb HB c0 RC EC
   obtain ⟨ql,hql⟩ := ptr_case l
   obtain ⟨qr,hqr⟩ := ptr_case r'
   rw [hql] at c2
   rw [hqr] at c3
   have QL := Aside0.mk hql
   have QR := Aside0.mk hqr
   clear hql hqr
   have SZ := Aside0.mk (Tr.size_node b e l r' k)
   obtain ⟨v,hv⟩ : ∃ v,rcmp r e.row = v := ⟨_,rfl⟩
   have HV := Aside0.mk hv
   rw [hv]
   clear hv
   rcases Int.lt_trichotomy v 0 with hc | hc | hc
   ·have q1 : decide (v < 0) = true := decide_eq_true hc
    have R2 := Aside0.mk (show adr (l.items.find? (isRow r)) = rr by rw [← RR.out];exact congrArg adr (isRow_left r HS.out (by rw [HV.out];exact hc)).symm)
    go_wp2_with (fail)
    go_roundg l.size
    case measure => rw [SZ.out];omega
    case rel => exact ⟨l,QL.out.symm,rfl,⟨HI.out.2.2.1⟩,⟨(srt_left HS.out).1⟩,R2,HB2⟩
   ·subst hc
    have R2 : rr = some ⟨b,0,none⟩ := by rw [← RR.out];exact congrArg adr (isRow_here r HS.out HV.out)
    subst R2
    go_wp2_with (fail)
    go_ret
    exact ⟨rfl,HB2.out⟩
   ·have q1 : decide (v < 0) = false := decide_eq_false (by omega)
    have q2 : decide (0 < v) = true := decide_eq_true hc
    have R2 := Aside0.mk (show adr (r'.items.find? (isRow r)) = rr by rw [← RR.out];exact congrArg adr (isRow_right r HS.out (by rw [HV.out];exact hc)).symm)
    go_wp2_with (fail)
    go_roundg r'.size
    case measure => rw [SZ.out];omega
    case rel => exact ⟨r',QR.out.symm,rfl,⟨HI.out.2.2.2⟩,⟨(srt_left HS.out).2⟩,R2,HB2⟩
def pick (o : Option (Nat × Ent)) (d : Option Addr) : Option Addr := match o with | some x => some ⟨x.1,0,none⟩ | none => d
theorem items_head (b : Nat) (e : Ent) (l r : Tr) (k : Int) : ∃ x rest,(Tr.node b e l r k).items = x :: rest := by
 show ∃ x rest,l.items ++ (b,e) :: r.items = x :: rest
 cases l.items with
 | nil => exact ⟨_,_,rfl⟩
 | cons x t => exact ⟨x,t ++ (b,e) :: r.items,rfl⟩
set_option maxHeartbeats 4000000 in
set_option maxRecDepth 100000 in
theorem nd_first {D : Nat → Prop} (b : Nat) (e : Ent) (l r : Tr) (k : Int) (w : World) (h : (Tr.node b e l r k).In w D) :
  Calls Try.prog 70 #[.pointer (some ⟨b,0,none⟩)] w fun e' w' => e' = .returned (.pointer (adr (Tr.node b e l r k).items.head?)) ∧ Below w.heap.size w w' := by
 have HI := Aside0.mk h
 have HB := Aside0.mk (Below.refl w.heap.size w)
 obtain ⟨rr,hrr⟩ : ∃ rr,adr (Tr.node b e l r k).items.head? = rr := ⟨_,rfl⟩
 have RR := Aside0.mk hrr
 rw [hrr]
 clear h hrr
 go_enter Try.func70,Try.ntmps70
 go_wp2_with (fail)
 go_loopg [0] (Tr.node b e l r k).size (fun j p wr => ∃ (b : Nat) (e : Ent) (l r : Tr) (k : Int),p = .pointer (some ⟨b,0,none⟩) ∧ j = (Tr.node b e l r k).size ∧ Aside0 ((Tr.node b e l r k).In w D) ∧ Aside0 (adr (Tr.node b e l r k).items.head? = rr) ∧ Aside0 (Below w.heap.size w wr))
 case atStart => exact ⟨b,e,l,r,k,rfl,rfl,HI,RR,HB⟩
 case round =>
  clear HB HI RR
  obtain ⟨b,e,l,r,k,rfl,rfl,HI,RR,HB⟩ := hrel
  have c2 := q0d HI.out.1 2
  simp only [ncells,List.getElem?_toArray,List.getElem?_cons_zero,List.getElem?_cons_succ] at c2
  replace c2 := (HB.out.cell (World.block_lt_of_cell? w _ c2)).trans c2
  cases l with
  | nil =>
   have e : rr = some ⟨b,0,none⟩ := RR.out.symm
   subst e
   simp only [Tr.ptr] at c2
   go_wp2_with (fail)
   go_ret
   exact ⟨rfl,HB.out⟩
  | node b1 e1 l1 r1 k1 =>
   simp only [Tr.ptr] at c2
   have SZ := Aside0.mk (show (Tr.node b1 e1 l1 r1 k1).size < (Tr.node b e (.node b1 e1 l1 r1 k1) r k).size by rw [Tr.size_node b];omega)
   have R2 := Aside0.mk (show adr (Tr.node b1 e1 l1 r1 k1).items.head? = rr by
    rw [← RR.out]
    obtain ⟨x,rest,hx⟩ := items_head b1 e1 l1 r1 k1
    show _ = adr ((Tr.node b1 e1 l1 r1 k1).items ++ _).head?
    rw [hx];rfl)
   go_wp2_with (fail)
   go_roundg (Tr.node b1 e1 l1 r1 k1).size
   case measure => exact SZ.out
   case rel => exact ⟨b1,e1,l1,r1,k1,rfl,rfl,⟨HI.out.2.2.1⟩,R2,HB⟩
end Go.Proofs.Ythmbfcfomcaaaaa.Z
end
section
namespace Go.Proofs.Ythmbfcfomcaaaaa.Z
set_option linter.unusedVariables false
set_option linter.unusedSimpArgs false
open Go.RowKit Go.Proofs.YthmbfcfomcaaaaaW.PrintWords Go.Proofs.YthmbfcfomcaaaaaW.PrintLast Go.Proofs.YthmbfcfomcaaaaaW.PrintMore Go.Proofs.Ythmbfcfomcaaaaa.Cmp
theorem cmpI_zero {a b : Int} (h : cmpI a b = 0) : a = b := cmpI_eq.1 h
theorem bytes_ext {a b : ByteArray} (h : a.data.toList = b.data.toList) : a = b := by
 cases a with | mk da => cases b with | mk db => exact congrArg ByteArray.mk (Array.toList_inj.1 h)
theorem bytes_nil {a : ByteArray} (h : (a.toList == ([] : List UInt8)) = true) : a.data.toList = [] := by
 rw [beq_iff_eq] at h
 rw [← ByteArray.toList_eq a];exact h
theorem vright_eq {a b : S66} (ha : vright a = true) (hb : vright b = true) (h : vcmp a b = 0) : a = b := by
 obtain ⟨a0,a1,a2,a3⟩ := a
 obtain ⟨b0,b1,b2,b3⟩ := b
 unfold vcmp at h
 by_cases h0 : a0 = b0
 ·subst h0
  simp only [if_true] at h
  unfold kcmp at h
  unfold vright at ha hb
  simp only at ha hb h
  by_cases k0 : a0 = 0
  ·subst k0
   simp only [if_true,Bool.and_eq_true,Bool.not_eq_true',beq_iff_eq] at ha hb
   obtain ⟨rfl,rfl,e1⟩ := ha
   obtain ⟨rfl,rfl,e2⟩ := hb
   exact congrArg _ (bytes_ext ((bytes_nil (by simpa using e1)).trans (bytes_nil (by simpa using e2)).symm))
  ·rw [if_neg k0] at ha hb
   by_cases k1 : a0 = 1
   ·subst k1
    simp only [if_true,Bool.and_eq_true,beq_iff_eq] at ha hb h
    obtain ⟨rfl,e1⟩ := ha
    obtain ⟨rfl,e2⟩ := hb
    have := cmpI_zero h
    have e3 : a1 = b1 := by cases a1 <;> cases b1 <;> simp_all [b2i]
    subst e3
    exact congrArg _ (bytes_ext ((bytes_nil (by simpa using e1)).trans (bytes_nil (by simpa using e2)).symm))
   ·rw [if_neg k1] at ha hb h
    by_cases k2 : a0 = 2
    ·subst k2
     simp only [if_true,Bool.and_eq_true,Bool.not_eq_true',beq_iff_eq] at ha hb h
     obtain ⟨rfl,e1⟩ := ha
     obtain ⟨rfl,e2⟩ := hb
     have := cmpI_zero h
     subst this
     exact congrArg _ (bytes_ext ((bytes_nil (by simpa using e1)).trans (bytes_nil (by simpa using e2)).symm))
    ·rw [if_neg k2] at ha hb h
     by_cases k3 : a0 = 3
     ·subst k3
      simp only [if_true,Bool.and_eq_true,Bool.not_eq_true',beq_iff_eq] at ha hb h
      obtain ⟨rfl,rfl,e1⟩ := ha
      obtain ⟨rfl,rfl,e2⟩ := hb
      exact congrArg _ (bytes_ext (cmpB_eq h))
     ·rw [if_neg k3] at ha
      cases ha
 ·rw [if_neg (show ¬ (a0 = b0) from h0)] at h
  exact absurd (cmpI_zero h) h0
theorem lex_right : ∀ {a b : List S66},a.all vright = true → b.all vright = true → lexC vcmp a b = 0 → a = b
 | [],[],_,_,_ => rfl
 | [],_ :: _,_,_,h => by simp [lexC] at h
 | _ :: _,[],_,_,h => by simp [lexC] at h
 | x :: a,y :: b,ha,hb,h => by
  simp only [List.all_cons,Bool.and_eq_true] at ha hb
  unfold lexC at h
  by_cases hc : vcmp x y = 0
  ·rw [if_pos hc] at h
   rw [vright_eq ha.1 hb.1 hc,lex_right ha.2 hb.2 h]
  ·rw [if_neg hc] at h
   exact absurd h hc
theorem rright_eq {a b : List S66} (ha : rright a = true) (hb : rright b = true) (h : rcmp a b = 0) : a = b := by
 unfold rright at ha hb
 rw [Bool.and_eq_true] at ha hb
 exact lex_right ha.2 hb.2 h
end Go.Proofs.Ythmbfcfomcaaaaa.Z
end
section
namespace Go.Proofs.Ythmbfcfomcaaaaa.Z
set_option linter.unusedVariables false
set_option linter.unusedSimpArgs false
open Go.RowKit Go.Proofs.YthmbfcfomcaaaaaW.PrintWords Go.Proofs.YthmbfcfomcaaaaaW.PrintLast Go.Proofs.YthmbfcfomcaaaaaW.PrintMore Go.Proofs.Ythmbfcfomcaaaaa.Cmp
def Tr.put (g : Nat) (en : Ent) : Tr → List (Nat × Ent)
 | .nil => [(g,en)]
 | .node b e l r _ => if rcmp en.row e.row < 0 then l.put g en ++ (b,e) :: r.items else l.items ++ (b,e) :: r.put g en
theorem Tr.put_len (g : Nat) (en : Ent) : ∀ t : Tr,(t.put g en).length = t.size + 1
 | .nil => rfl
 | .node b e l r h => by
  rw [Tr.size_node]
  simp only [Tr.put]
  split
  ·rw [List.length_append,List.length_cons,Tr.put_len g en l];show _ + (r.size + 1) = _;omega
  ·rw [List.length_append,List.length_cons,Tr.put_len g en r];show l.size + _ = _;omega
theorem Tr.put_ids (g : Nat) (en : Ent) : ∀ (t : Tr) (x : Nat),x ∈ idsL (t.put g en) → x ∈ t.ids ∨ x = g
 | .nil,x,h => by simp [Tr.put,idsL] at h;exact .inr h
 | .node b e l r h,x,hx => by
  rw [Tr.q0t]
  simp only [Tr.put] at hx
  split at hx
  ·rw [idsL_app] at hx
   rcases List.mem_append.1 hx with q | q
   ·exact (Tr.put_ids g en l x q).imp (fun q => by simp [q]) id
   ·refine .inl (List.mem_append_right _ ?_)
    simpa [idsL,Tr.ids] using q
  ·rw [idsL_app] at hx
   rcases List.mem_append.1 hx with q | q
   ·exact .inl (List.mem_append_left _ q)
   ·rcases List.mem_cons.1 (show x ∈ b :: idsL (r.put g en) from by simpa [idsL] using q) with q | q
    ·exact .inl (by simp [q])
    ·exact (Tr.put_ids g en r x q).imp (fun q => by simp [q]) id
structure Put (w : World) (D : Nat → Prop) (en : Ent) (t t' : Tr) (w' : World) : Prop where
 inn : NdIn w' D t'
 hok : t'.Hok
 items : ∃ g,w.heap.size ≤ g ∧ t'.items = t.put g en
 ch : Ch (fun x => x ∈ t.ids) w w'
theorem put_sub {w w' : World} {D : Nat → Prop} {en : Ent} {t t' : Tr} (h : Put w D en t t' w') : ∀ x ∈ t'.ids,x ∈ t.ids ∨ w.heap.size ≤ x := fun x hx => by
 obtain ⟨g,hg,hi⟩ := h.items
 unfold Tr.ids at hx
 rw [hi] at hx
 rcases Tr.put_ids g en t x hx with q | q
 ·exact .inl q
 ·exact .inr (by omega)
def entV (en : Ent) : Value := .agg #[.slice en.A en.row.length en.c,.int .i64 en.many]
set_option maxHeartbeats 4000000 in
set_option maxRecDepth 100000 in
theorem nd_put0 {D : Nat → Prop} (en : Ent) (w : World) (he : EntIn w D en) (hD : ∀ k,D k → k < w.heap.size) :
  Calls Try.prog 62 #[.pointer none,entV en] w fun e' w' => ∃ t',e' = .returned t'.ptr ∧ Put w D en .nil t' w' := by
 have HE := Aside0.mk he
 have HD := Aside0.mk hD
 clear he hD
 simp only [entV]
 go_enter Try.func62,Try.ntmps62
 go_wp2_with (fail)
 go_ret
 have b1 : Below w.heap.size w ((w.alloc (Obj.cells #[Value.slice en.A en.row.length en.c,Value.int IntKind.i64 en.many] 34)).alloc (Obj.cells (ncells en .nil .nil 1) 90)) := q0b (q0b (Below.refl _ _) _) _
 have h1 : ((w.alloc (Obj.cells #[Value.slice en.A en.row.length en.c,Value.int IntKind.i64 en.many] 34)).alloc (Obj.cells (ncells en .nil .nil 1) 90)).heap[w.heap.size + 1]? = some (.cells (ncells en .nil .nil 1) 90 (0,0)) := by
  have := blk_new (w.alloc (Obj.cells #[Value.slice en.A en.row.length en.c,Value.int IntKind.i64 en.many] 34)) (Obj.cells (ncells en .nil .nil 1) 90)
  rwa [World.size_alloc] at this
 exact ⟨.node (w.heap.size + 1) en .nil .nil 1,rfl,mkNd h1 (HE.out.step (fun k hk hlt => b1.block k hlt)) trivial trivial (by simp [Tr.ids_nil]) (fun x hx hm => by
  have := HD.out x hx
  simp [Tr.ids_nil] at hm
  omega),⟨by omega,by simp [Tr.size_nil],trivial,trivial⟩,⟨w.heap.size + 1,by omega,rfl⟩,Ch.of_below b1⟩
set_option maxHeartbeats 4000000 in
set_option maxRecDepth 100000 in
theorem nd_put {D : Nat → Prop} (en : Ent) (t : Tr) : ∀ (w : World) (h : NdIn w D t) (hok : t.Hok) (hs : t.size ≤ 400000000000000000) (he : EntIn w D en) (hD : ∀ k,D k → k < w.heap.size),
  Calls Try.prog 62 #[t.ptr,entV en] w fun e' w' => ∃ t',e' = .returned t'.ptr ∧ Put w D en t t' w' := by
 induction t with
 | nil => intro w h hok hs he hD;exact nd_put0 en w he hD
 | node b e l r k ihl ihr =>
  intro w h hok hs he hD
  have hsz := Tr.size_node b e l r k
  have H0 := Aside0.mk h
  have HO := Aside0.mk hok
  have HE := Aside0.mk he
  have HD := Aside0.mk hD
  have HS := Aside0.mk (show l.size + r.size + 1 ≤ 400000000000000000 by omega)
  have IL := Aside0.mk ihl
  have IR := Aside0.mk ihr
  have H1 := Aside0.mk (h.below (w1 := w.alloc (Obj.cells #[Value.slice en.A en.row.length en.c,Value.int IntKind.i64 en.many] 34)) (q0b (Below.refl _ _) _))
  have HB := Aside0.mk (q0b (Below.refl w.heap.size w) (Obj.cells #[Value.slice en.A en.row.length en.c,Value.int IntKind.i64 en.many] 34))
  have G0 := Aside0.mk (blk_new w (Obj.cells #[Value.slice en.A en.row.length en.c,Value.int IntKind.i64 en.many] 34))
  clear h hok hs he hD hsz ihl ihr
  have c0 := q0d H1.out.inn.1 0
  have d0 := q0d G0.out 0
  have d1 := q0d G0.out 1
  simp only [ncells,List.getElem?_toArray,List.getElem?_cons_zero,List.getElem?_cons_succ] at c0 d0 d1
  simp only [entV,Tr.ptr]
  go_enter Try.func62,Try.ntmps62
  go_wp2_with (fail)
  obtain ⟨g,hg⟩ : ∃ g,w.heap.size = g := ⟨_,rfl⟩
  rw [hg] at G0 d0 d1 ⊢
  have HG := Aside0.mk hg
  clear hg
  have H1' : Aside0 (NdIn (w.alloc (Obj.cells #[Value.slice en.A en.row.length en.c,Value.int IntKind.i64 en.many] 34)) D (.node b e l r k)) := H1
  generalize w.alloc (Obj.cells #[Value.slice en.A en.row.length en.c,Value.int IntKind.i64 en.many] 34) = w0 at *
  go_still_tail 7,(by kernel_rfl)
  change wpList _ _ _ _ _ w0.drew
  have B1 := Aside0.mk (q0c HB.out)
  have H2 := Aside0.mk (H1.out.heap (w' := w0.drew) rfl)
  have G1 : Aside0 (w0.drew.heap[g]? = some (.cells #[Value.slice en.A en.row.length en.c,Value.int IntKind.i64 en.many] 34 (0,0))) := G0
  clear H1 H1' HB G0 c0 d0 d1
  generalize w0.drew = w1 at *
  go_wp2_with (fail)
  refine (cmp_at en.A e.A en.c e.c en.row e.row w1 (HE.out.c.below B1.out) H2.out.inn.2.1.c).mono ?_
  rintro e' w2 ⟨rfl,hb⟩
  have B2 := Aside0.mk (B1.out.trans (hb.mono B1.out.size))
  have H3 := Aside0.mk (H2.out.below hb)
  have G2 := Aside0.mk (q0s G1.out hb)
  clear hb B1 H2 G1
  obtain ⟨v,hv⟩ : ∃ v,rcmp en.row e.row = v := ⟨_,rfl⟩
  have HV := Aside0.mk hv
  rw [hv]
  clear hv
  by_cases hc : v < 0
  ·have q1 : decide (v < 0) = true := decide_eq_true hc
   go_wp2_with (fail)
   have c2 := q0d H3.out.inn.1 2
   have d0 := q0d G2.out 0
   have d1 := q0d G2.out 1
   simp only [ncells,List.getElem?_toArray,List.getElem?_cons_zero,List.getElem?_cons_succ] at c2 d0 d1
   go_region_with ((go_at_call 62;(refine (IL.out w2.drew (H3.out.left.heap (w' := w2.drew) rfl) HO.out.2.2.1 (by have := HS.out;omega) (HE.out.step (fun x hx hlt => B2.out.block x hlt)) (fun x hx => Nat.lt_of_lt_of_le (HD.out x hx) B2.out.size)).mono ?_);rintro e' w3 ⟨t1,rfl,hp⟩;have PT := Aside0.mk hp;have ss := (H3.out.heap (w' := w2.drew) rfl).set_left hp.ch (fun _ q => q) hp.inn (put_sub hp);have S2 := Aside0.mk ss.2;have z2 := q0e ss.1 2;have y2 := q0d ss.1 2;simp only [ncells,List.getElem?_toArray,List.getElem?_cons_zero,List.getElem?_cons_succ] at y2;obtain ⟨q,hq⟩ := ptr_case t1;rw [hq] at S2 ⊢;have HQ := Aside0.mk hq;clear hp ss hq c2 d0 d1))
   all_goals
    clear z2 y2
    have S3 := Aside0.mk S2.out.1
    have C3 := Aside0.mk (((Ch.of_below (S := fun x => x ∈ (Tr.node b e l r k).ids) B2.out).drew).then_ S2.out.2 (fun x q => .inl (by rw [Tr.q0t];rcases q with q | q <;> simp [q])))
    clear S2
    generalize w3.setCell ⟨b,2,none⟩ (.pointer q) = w4 at *
    go_wp2_with (fail)
    refine (nd_even b e t1 r k w4 S3.out PT.out.hok HO.out.2.2.2 (by have := HS.out;obtain ⟨g2,_,hi⟩ := PT.out.items;have h2 := Tr.put_len g2 en l;rw [← hi] at h2;change t1.size = _ at h2;omega)).mono ?_
    rintro e' w5 ⟨t',rfl,hev⟩
    have EV := Aside0.mk hev
    clear hev S3
    go_wp2_with (fail)
    go_ret
    refine ⟨t',rfl,EV.out.inn,EV.out.hok,?_,C3.out.then_ EV.out.ch (fun x q => ?_)⟩
    ·obtain ⟨g2,hg2,hi⟩ := PT.out.items
     refine ⟨g2,Nat.le_trans B2.out.size hg2,EV.out.items.trans ?_⟩
     simp only [Tr.put,Tr.items]
     rw [if_pos (by rw [HV.out];exact hc),hi]
    ·rw [Tr.q0t] at q ⊢
     rcases List.mem_append.1 q with q | q
     ·rcases put_sub PT.out x q with q | q
      ·exact .inl (by simp [q])
      ·exact .inr (Nat.le_trans B2.out.size q)
     ·exact .inl (List.mem_append_right _ q)
  ·have q1 : decide (v < 0) = false := decide_eq_false hc
   go_wp2_with (fail)
   have c3 := q0d H3.out.inn.1 3
   have d0 := q0d G2.out 0
   have d1 := q0d G2.out 1
   simp only [ncells,List.getElem?_toArray,List.getElem?_cons_zero,List.getElem?_cons_succ] at c3 d0 d1
   go_region_with ((go_at_call 62;(refine (IR.out w2.drew (H3.out.right.heap (w' := w2.drew) rfl) HO.out.2.2.2 (by have := HS.out;omega) (HE.out.step (fun x hx hlt => B2.out.block x hlt)) (fun x hx => Nat.lt_of_lt_of_le (HD.out x hx) B2.out.size)).mono ?_);rintro e' w3 ⟨t1,rfl,hp⟩;have PT := Aside0.mk hp;have ss := (H3.out.heap (w' := w2.drew) rfl).set_right hp.ch (fun _ q => q) hp.inn (put_sub hp);have S2 := Aside0.mk ss.2;have z2 := q0e ss.1 3;have y2 := q0d ss.1 3;simp only [ncells,List.getElem?_toArray,List.getElem?_cons_zero,List.getElem?_cons_succ] at y2;obtain ⟨q,hq⟩ := ptr_case t1;rw [hq] at S2 ⊢;have HQ := Aside0.mk hq;clear hp ss hq c3 d0 d1))
   all_goals
    clear z2 y2
    have S3 := Aside0.mk S2.out.1
    have C3 := Aside0.mk (((Ch.of_below (S := fun x => x ∈ (Tr.node b e l r k).ids) B2.out).drew).then_ S2.out.2 (fun x q => .inl (by rw [Tr.q0t];rcases q with q | q <;> simp [q])))
    clear S2
    generalize w3.setCell ⟨b,3,none⟩ (.pointer q) = w4 at *
    go_wp2_with (fail)
    refine (nd_even b e l t1 k w4 S3.out HO.out.2.2.1 PT.out.hok (by have := HS.out;obtain ⟨g2,_,hi⟩ := PT.out.items;have h2 := Tr.put_len g2 en r;rw [← hi] at h2;change t1.size = _ at h2;omega)).mono ?_
    rintro e' w5 ⟨t',rfl,hev⟩
    have EV := Aside0.mk hev
    clear hev S3
    go_wp2_with (fail)
    go_ret
    refine ⟨t',rfl,EV.out.inn,EV.out.hok,?_,C3.out.then_ EV.out.ch (fun x q => ?_)⟩
    ·obtain ⟨g2,hg2,hi⟩ := PT.out.items
     refine ⟨g2,Nat.le_trans B2.out.size hg2,EV.out.items.trans ?_⟩
     simp only [Tr.put,Tr.items]
     rw [if_neg (by rw [HV.out];omega),hi]
    ·rw [Tr.q0t] at q ⊢
     rcases List.mem_append.1 q with q | q
     ·exact .inl (List.mem_append_left _ q)
     ·rcases List.mem_cons.1 q with q | q
      ·exact .inl (by simp [q])
      ·rcases put_sub PT.out x q with q | q
       ·exact .inl (by simp [q])
       ·exact .inr (Nat.le_trans B2.out.size q)
end Go.Proofs.Ythmbfcfomcaaaaa.Z
end
section
namespace Go.Proofs.Ythmbfcfomcaaaaa.Z
set_option linter.unusedVariables false
set_option linter.unusedSimpArgs false
open Go.RowKit Go.Proofs.YthmbfcfomcaaaaaW.PrintWords Go.Proofs.YthmbfcfomcaaaaaW.PrintLast Go.Proofs.YthmbfcfomcaaaaaW.PrintMore Go.Proofs.Ythmbfcfomcaaaaa.Cmp
structure Drop (w : World) (D : Nat → Prop) (r : List S66) (t t' : Tr) (w' : World) : Prop where
 inn : NdIn w' D t'
 hok : t'.Hok
 ents : t'.ents = others r t.ents
 sub : ∀ x ∈ t'.ids,x ∈ t.ids
 ch : Ch (fun x => x ∈ t.ids) w w'
theorem Drop.size {w w' : World} {D : Nat → Prop} {r : List S66} {t t' : Tr} (h : Drop w D r t t' w') : t'.size ≤ t.size := by
 rw [← Tr.size_ents,← Tr.size_ents,h.ents]
 exact List.length_filter_le _ _
theorem NdIn.set_ent {w : World} {D : Nat → Prop} {b : Nat} {e e1 : Ent} {l r : Tr} {k : Int} (h : NdIn w D (.node b e l r k)) (he : EntIn w D e1) :
  NdIn ((w.setCell ⟨b,0,none⟩ (.slice e1.A e1.row.length e1.c)).setCell ⟨b,1,none⟩ (.int .i64 e1.many)) D (.node b e1 l r k) ∧ Ch (fun x => x = b) w ((w.setCell ⟨b,0,none⟩ (.slice e1.A e1.row.length e1.c)).setCell ⟨b,1,none⟩ (.int .i64 e1.many)) := by
 obtain ⟨n1,n2,n3,n4⟩ := h.root
 have cb : Ch (fun x => x = b) w ((w.setCell ⟨b,0,none⟩ (.slice e1.A e1.row.length e1.c)).setCell ⟨b,1,none⟩ (.int .i64 e1.many)) := ((Ch.refl (fun x => x = b) w).setCell (p := ⟨b,0,none⟩) (.inl rfl) _).setCell (p := ⟨b,1,none⟩) (.inl rfl) _
 have c1 := q0r (cs' := #[.slice e1.A e1.row.length e1.c,.int .i64 e.many,l.ptr,r.ptr,.int .i64 k]) h.inn.1 0 (.slice e1.A e1.row.length e1.c) rfl
 have c2 := q0r (cs' := ncells e1 l r k) c1 1 (.int .i64 e1.many) rfl
 refine ⟨mkNd c2 (he.step (fun x hx hlt => cb.block x hlt (fun q => n4 (q ▸ hx)))) (h.left.inn.keep cb (fun x hx q => n1 (q ▸ hx)) (fun x hx q => n4 (q ▸ hx))) (h.right.inn.keep cb (fun x hx q => n2 (q ▸ hx)) (fun x hx q => n4 (q ▸ hx))) ?_ ?_,cb⟩
 ·have := h.nd;rw [Tr.q0t] at this;exact this
 ·intro x hx;have := h.dis x hx;rw [Tr.q0t] at this;exact this
theorem Tr.In.node_of {w : World} {D : Nat → Prop} : ∀ {t : Tr},t.In w D → ∀ x ∈ t.items,∃ l r k,w.heap[x.1]? = some (.cells (ncells x.2 l r k) 90 (0,0)) ∧ EntIn w D x.2
 | .nil,_,x,hx => by simp [Tr.items] at hx
 | .node b e l r h,⟨h0,he,hl,hr⟩,x,hx => by
  simp only [Tr.items] at hx
  rcases List.mem_append.1 hx with q | q
  ·exact Tr.In.node_of hl x q
  ·rcases List.mem_cons.1 q with q | q
   ·subst q;exact ⟨l,r,h,h0,he⟩
   ·exact Tr.In.node_of hr x q
theorem nd_first' {D : Nat → Prop} (b : Nat) (e : Ent) (l r : Tr) (k : Int) (bs : Nat) (es : Ent) (rest : List (Nat × Ent)) (hx : (Tr.node b e l r k).items = (bs,es) :: rest) (w : World) (h : (Tr.node b e l r k).In w D) :
  Calls Try.prog 70 #[.pointer (some ⟨b,0,none⟩)] w fun e' w' => e' = .returned (.pointer (some ⟨bs,0,none⟩)) ∧ Below w.heap.size w w' := by
 have := nd_first b e l r k w h
 rw [hx] at this
 exact this
theorem there_left {b : Nat} {e : Ent} {l r' : Tr} {k : Int} {r : List S66} (hs : Srt (Tr.node b e l r' k).ents) (hx : ∃ x ∈ (Tr.node b e l r' k).ents,rcmp r x.row = 0) (hc : rcmp r e.row < 0) : ∃ x ∈ l.ents,rcmp r x.row = 0 := by
 rw [Tr.ents_node] at hs hx
 obtain ⟨x,hm,h0⟩ := hx
 rcases List.mem_append.1 hm with q | q
 ·exact ⟨x,q,h0⟩
 ·rcases List.mem_cons.1 q with q | q
  ·subst q;omega
  ·have := rcmp_law.lt_le hc (Int.le_of_lt (hs.app.2.2.2 x q))
   omega
theorem there_right {b : Nat} {e : Ent} {l r' : Tr} {k : Int} {r : List S66} (hs : Srt (Tr.node b e l r' k).ents) (hx : ∃ x ∈ (Tr.node b e l r' k).ents,rcmp r x.row = 0) (hc : 0 < rcmp r e.row) : ∃ x ∈ r'.ents,rcmp r x.row = 0 := by
 rw [Tr.ents_node] at hs hx
 obtain ⟨x,hm,h0⟩ := hx
 rcases List.mem_append.1 hm with q | q
 ·have h1 := hs.app.2.2.1 x q
  have := rcmp_law.lt_le h1 (show rcmp e.row r ≤ 0 by rw [rcmp_anti];omega)
  rw [rcmp_anti] at this
  omega
 ·rcases List.mem_cons.1 q with q | q
  ·subst q;omega
  ·exact ⟨x,q,h0⟩
set_option maxHeartbeats 4000000 in
set_option maxRecDepth 100000 in
theorem nd_drop {D : Nat → Prop} (t : Tr) : ∀ (w : World) (A : Option Addr) (c : Nat) (r : List S66) (h : NdIn w D t) (hok : t.Hok) (hs : t.size ≤ 400000000000000000) (hsr : Srt t.ents) (hr : RowC w A c r) (hx : ∃ x ∈ t.ents,rcmp r x.row = 0),
  Calls Try.prog 64 #[t.ptr,.slice A r.length c] w fun e' w' => ∃ t',e' = .returned t'.ptr ∧ Drop w D r t t' w' := by
 induction t with
 | nil => intro w A c r h hok hs hsr hr hx;obtain ⟨x,hx,_⟩ := hx;simp [Tr.ents_nil] at hx
 | node b e l r' k ihl ihr =>
  intro w A c r h hok hs hsr hr hx
  have hsz := Tr.size_node b e l r' k
  have H1 := Aside0.mk h
  have HO := Aside0.mk hok
  have HR := Aside0.mk hr
  have HX := Aside0.mk hx
  have SR := Aside0.mk hsr
  have SE := Aside0.mk (show Srt (l.ents ++ e :: r'.ents) by rw [← Tr.ents_node b e l r' k];exact hsr)
  have HS := Aside0.mk (show l.size + r'.size + 1 ≤ 400000000000000000 by omega)
  have IL := Aside0.mk ihl
  have IR := Aside0.mk ihr
  clear h hok hs hsr hr hx hsz ihl ihr
  have c0 := q0d H1.out.inn.1 0
  simp only [ncells,List.getElem?_toArray,List.getElem?_cons_zero,List.getElem?_cons_succ] at c0
  simp only [Tr.ptr]
  go_enter Try.func64,Try.ntmps64
  go_wp2_with (fail)
  refine (cmp_at A e.A c e.c r e.row w HR.out H1.out.inn.2.1.c).mono ?_
  rintro e' w2 ⟨rfl,hb⟩
  have B2 := Aside0.mk hb
  have H3 := Aside0.mk (H1.out.below hb)
  have R3 := Aside0.mk (HR.out.below hb)
  clear hb c0
  have c2 := q0d H3.out.inn.1 2
  have c3 := q0d H3.out.inn.1 3
  simp only [ncells,List.getElem?_toArray,List.getElem?_cons_zero,List.getElem?_cons_succ] at c2 c3
  obtain ⟨v,hv⟩ : ∃ v,rcmp r e.row = v := ⟨_,rfl⟩
  have HV := Aside0.mk hv
  rw [hv]
  clear hv
  rcases Int.lt_trichotomy v 0 with hc | hc | hc
  ·have q1 : decide (v < 0) = true := decide_eq_true hc
   go_wp2_with (fail)
   refine (IL.out w2 A c r H3.out.left HO.out.2.2.1 (by have := HS.out;omega) (srt_left SR.out).1 R3.out (there_left SR.out HX.out (by rw [HV.out];exact hc))).mono ?_
   rintro e' w3 ⟨t1,rfl,hp⟩
   have PT := Aside0.mk hp
   have ss := H3.out.set_left hp.ch (fun _ q => q) hp.inn (fun x q => .inl (hp.sub x q))
   have S2 := Aside0.mk ss.2
   have z2 := q0e ss.1 2
   have y2 := q0d ss.1 2
   simp only [ncells,List.getElem?_toArray,List.getElem?_cons_zero,List.getElem?_cons_succ] at y2
   obtain ⟨q,hq⟩ := ptr_case t1
   rw [hq] at S2 ⊢
   clear hp ss hq c2 c3
   go_wp2_with (fail)
   have S3 := Aside0.mk S2.out.1
   have C3 := Aside0.mk ((Ch.of_below (S := fun x => x ∈ (Tr.node b e l r' k).ids) B2.out).then_ S2.out.2 (fun x q => .inl (by rw [Tr.q0t];rcases q with q | q <;> simp [q])))
   clear S2 z2 y2
   generalize w3.setCell ⟨b,2,none⟩ (.pointer q) = w4 at *
   refine (nd_even b e t1 r' k w4 S3.out PT.out.hok HO.out.2.2.2 (by have := HS.out;have := PT.out.size;omega)).mono ?_
   rintro e' w5 ⟨t',rfl,hev⟩
   have EV := Aside0.mk hev
   clear hev S3
   go_wp2_with (fail)
   go_ret
   refine ⟨t',rfl,EV.out.inn,EV.out.hok,?_,fun x q => ?_,C3.out.then_ EV.out.ch (fun x q => .inl ?_)⟩
   ·have e1 : t'.ents = t1.ents ++ e :: r'.ents := by have := congrArg entsL EV.out.items;rw [show entsL (Tr.node b e t1 r' k).items = (Tr.node b e t1 r' k).ents from rfl,Tr.ents_node] at this;exact this
    rw [e1,PT.out.ents,Tr.ents_node,oth_left r SE.out (by rw [HV.out];exact hc)]
   ·have e1 := ids_of_items EV.out.items
    rw [e1,Tr.q0t] at q
    rw [Tr.q0t]
    rcases List.mem_append.1 q with q | q
    ·exact List.mem_append_left _ (PT.out.sub x q)
    ·exact List.mem_append_right _ q
   ·rw [Tr.q0t] at q ⊢
    rcases List.mem_append.1 q with q | q
    ·exact List.mem_append_left _ (PT.out.sub x q)
    ·exact List.mem_append_right _ q
  ·subst hc
   cases l with
   | nil =>
    simp only [Tr.ptr] at c2
    obtain ⟨q,hq⟩ := ptr_case r'
    have HQ := Aside0.mk hq
    rw [hq] at c3
    clear hq
    go_wp2_with (fail)
    go_ret
    refine ⟨r',congrArg Ending.returned HQ.out.symm,H3.out.right,HO.out.2.2.2,?_,fun x q => ?_,Ch.of_below B2.out⟩
    ·rw [Tr.ents_node,oth_here r SE.out HV.out];rfl
    ·rw [Tr.q0t];simp [q]
   | node b1 e1 l1 r1 k1 =>
    simp only [Tr.ptr] at c2
    cases r' with
    | nil =>
     simp only [Tr.ptr] at c3
     go_wp2_with (fail)
     go_ret
     refine ⟨.node b1 e1 l1 r1 k1,rfl,H3.out.left,HO.out.2.2.1,?_,fun x q => ?_,Ch.of_below B2.out⟩
     ·rw [Tr.ents_node b e,oth_here r SE.out HV.out,Tr.ents_nil,List.append_nil]
     ·rw [Tr.q0t b e];exact List.mem_append_left _ q
    | node b2 e2 l2 r2 k2 =>
     simp only [Tr.ptr] at c3
     go_wp2_with (fail)
     obtain ⟨⟨bs,es⟩,rest,hit⟩ := items_head b2 e2 l2 r2 k2
     have HI := Aside0.mk hit
     have MI := Aside0.mk (show (bs,es) ∈ (Tr.node b2 e2 l2 r2 k2).items by rw [hit];simp)
     refine (nd_first' b2 e2 l2 r2 k2 bs es rest hit w2 H3.out.right.inn).mono ?_
     rintro e' w3 ⟨rfl,hb⟩
     have B3 := Aside0.mk (B2.out.trans (hb.mono B2.out.size))
     have H4 := Aside0.mk (H3.out.below hb)
     obtain ⟨lx,rx,kx,hcx,hex⟩ := H4.out.right.inn.node_of _ MI.out
     have EX := Aside0.mk hex
     have d0 := q0d hcx 0
     have d1 := q0d hcx 1
     have a0 := q0d H4.out.inn.1 0
     have a1 := q0d H4.out.inn.1 1
     have a3 := q0d H4.out.inn.1 3
     have z0 := q0e H4.out.inn.1 0
     have z1 := q0e H4.out.inn.1 1
     simp only [ncells,List.getElem?_toArray,List.getElem?_cons_zero,List.getElem?_cons_succ] at d0 d1 a0 a1 a3
     simp only [Tr.ptr] at a3
     have SE4 := Aside0.mk (H4.out.set_ent hex)
     clear hb hcx hex hit c2 c3 H3 R3
     go_wp2_with (fail)
     clear d0 d1 a0 a1 a3 z0 z1
     generalize (w3.setCell ⟨b,0,none⟩ (.slice es.A es.row.length es.c)).setCell ⟨b,1,none⟩ (.int .i64 es.many) = w4 at *
     have H5 := Aside0.mk SE4.out.1
     have C5 := Aside0.mk ((Ch.of_below (S := fun x => x ∈ (Tr.node b e (.node b1 e1 l1 r1 k1) (.node b2 e2 l2 r2 k2) k).ids) B3.out).then_ SE4.out.2 (fun x q => .inl (by rw [Tr.q0t];subst q;simp)))
     have EX4 := Aside0.mk (EX.out.step (fun x hx hlt => SE4.out.2.block x hlt (fun q => H4.out.root.2.2.2 (q ▸ hx))))
     clear SE4 H4 EX
     have EN := Aside0.mk (show (Tr.node b2 e2 l2 r2 k2).ents = es :: entsL rest by unfold Tr.ents;rw [HI.out];rfl)
     have a0 := q0d H5.out.inn.1 0
     have a3 := q0d H5.out.inn.1 3
     simp only [ncells,List.getElem?_toArray,List.getElem?_cons_zero,List.getElem?_cons_succ] at a0 a3
     simp only [Tr.ptr] at a3
     have IR2 := Aside0.mk (IR.out w4.drew es.A es.c es.row (H5.out.right.heap (w' := w4.drew) rfl) HO.out.2.2.2 (by have := HS.out;omega) (srt_left SR.out).2 (EX4.out.step (w1 := w4.drew) (fun x hx hlt => rfl)).c ⟨es,by rw [EN.out];simp,rcmp_law.self _⟩)
     go_region_with ((go_at_call 64;(refine IR2.out.mono ?_);rintro e' w5 ⟨t1,rfl,hp⟩;have PT := Aside0.mk hp;have ss := (H5.out.heap (w' := w4.drew) rfl).set_right hp.ch (fun _ q => q) hp.inn (fun x q => .inl (hp.sub x q));have S2 := Aside0.mk ss.2;have z2 := q0e ss.1 3;have y2 := q0d ss.1 3;simp only [ncells,List.getElem?_toArray,List.getElem?_cons_zero,List.getElem?_cons_succ] at y2;simp only [Tr.ptr] at y2;obtain ⟨q,hq⟩ := ptr_case t1;rw [hq] at S2 ⊢;clear hp ss hq a0 a3))
     all_goals
      clear z2 y2
      have S3 := Aside0.mk S2.out.1
      have C6 := Aside0.mk ((C5.out.drew).then_ S2.out.2 (fun x q => .inl (by rw [Tr.q0t];rcases q with q | q <;> simp [q])))
      clear S2
      generalize w5.setCell ⟨b,3,none⟩ (.pointer q) = w6 at *
      go_wp2_with (fail)
      refine (nd_even b es (.node b1 e1 l1 r1 k1) t1 k w6 S3.out HO.out.2.2.1 PT.out.hok (by have := HS.out;have := PT.out.size;omega)).mono ?_
      rintro e' w7 ⟨t',rfl,hev⟩
      have EV := Aside0.mk hev
      clear hev S3
      go_wp2_with (fail)
      go_ret
      refine ⟨t',rfl,EV.out.inn,EV.out.hok,?_,fun x q => ?_,C6.out.then_ EV.out.ch (fun x q => .inl ?_)⟩
      ·have f1 : t'.ents = (Tr.node b1 e1 l1 r1 k1).ents ++ es :: t1.ents := by have := congrArg entsL EV.out.items;rw [show entsL (Tr.node b es (Tr.node b1 e1 l1 r1 k1) t1 k).items = (Tr.node b es (Tr.node b1 e1 l1 r1 k1) t1 k).ents from rfl,Tr.ents_node b es] at this;exact this
       have f2 : others es.row (Tr.node b2 e2 l2 r2 k2).ents = entsL rest := by
        have h0 := (srt_left SR.out).2
        rw [EN.out] at h0 ⊢
        exact oth_here (a := []) es.row h0 (rcmp_law.self _)
       rw [f1,PT.out.ents,Tr.ents_node b e,oth_here r SE.out HV.out,f2,EN.out]
      ·have f1 := ids_of_items EV.out.items
       rw [f1,Tr.q0t b es] at q
       rw [Tr.q0t b e]
       rcases List.mem_append.1 q with q | q
       ·exact List.mem_append_left _ q
       ·rcases List.mem_cons.1 q with q | q
        ·rw [q];simp
        ·exact List.mem_append_right _ (List.mem_cons_of_mem _ (PT.out.sub x q))
      ·rw [Tr.q0t b es] at q
       rw [Tr.q0t b e]
       rcases List.mem_append.1 q with q | q
       ·exact List.mem_append_left _ q
       ·rcases List.mem_cons.1 q with q | q
        ·rw [q];simp
        ·exact List.mem_append_right _ (List.mem_cons_of_mem _ (PT.out.sub x q))
  ·have q1 : decide (v < 0) = false := decide_eq_false (by omega)
   have q2 : decide (0 < v) = true := decide_eq_true hc
   go_wp2_with (fail)
   refine (IR.out w2 A c r H3.out.right HO.out.2.2.2 (by have := HS.out;omega) (srt_left SR.out).2 R3.out (there_right SR.out HX.out (by rw [HV.out];exact hc))).mono ?_
   rintro e' w3 ⟨t1,rfl,hp⟩
   have PT := Aside0.mk hp
   have ss := H3.out.set_right hp.ch (fun _ q => q) hp.inn (fun x q => .inl (hp.sub x q))
   have S2 := Aside0.mk ss.2
   have z2 := q0e ss.1 3
   have y2 := q0d ss.1 3
   simp only [ncells,List.getElem?_toArray,List.getElem?_cons_zero,List.getElem?_cons_succ] at y2
   obtain ⟨q,hq⟩ := ptr_case t1
   rw [hq] at S2 ⊢
   clear hp ss hq c2 c3
   go_wp2_with (fail)
   have S3 := Aside0.mk S2.out.1
   have C3 := Aside0.mk ((Ch.of_below (S := fun x => x ∈ (Tr.node b e l r' k).ids) B2.out).then_ S2.out.2 (fun x q => .inl (by rw [Tr.q0t];rcases q with q | q <;> simp [q])))
   clear S2 z2 y2
   generalize w3.setCell ⟨b,3,none⟩ (.pointer q) = w4 at *
   refine (nd_even b e l t1 k w4 S3.out HO.out.2.2.1 PT.out.hok (by have := HS.out;have := PT.out.size;omega)).mono ?_
   rintro e' w5 ⟨t',rfl,hev⟩
   have EV := Aside0.mk hev
   clear hev S3
   go_wp2_with (fail)
   go_ret
   refine ⟨t',rfl,EV.out.inn,EV.out.hok,?_,fun x q => ?_,C3.out.then_ EV.out.ch (fun x q => .inl ?_)⟩
   ·have e1 : t'.ents = l.ents ++ e :: t1.ents := by have := congrArg entsL EV.out.items;rw [show entsL (Tr.node b e l t1 k).items = (Tr.node b e l t1 k).ents from rfl,Tr.ents_node] at this;exact this
    rw [e1,PT.out.ents,Tr.ents_node,oth_right r SE.out (by rw [HV.out];exact hc)]
   ·have e1 := ids_of_items EV.out.items
    rw [e1,Tr.q0t] at q
    rw [Tr.q0t]
    rcases List.mem_append.1 q with q | q
    ·exact List.mem_append_left _ q
    ·rcases List.mem_cons.1 q with q | q
     ·rw [q];simp
     ·exact List.mem_append_right _ (List.mem_cons_of_mem _ (PT.out.sub x q))
   ·rw [Tr.q0t] at q ⊢
    rcases List.mem_append.1 q with q | q
    ·exact List.mem_append_left _ q
    ·rcases List.mem_cons.1 q with q | q
     ·rw [q];simp
     ·exact List.mem_append_right _ (List.mem_cons_of_mem _ (PT.out.sub x q))
end Go.Proofs.Ythmbfcfomcaaaaa.Z
end
section
namespace Go.Proofs.Ythmbfcfomcaaaaa.Z
set_option linter.unusedVariables false
set_option linter.unusedSimpArgs false
open Go.RowKit Go.Proofs.YthmbfcfomcaaaaaW.PrintWords Go.Proofs.YthmbfcfomcaaaaaW.PrintLast Go.Proofs.YthmbfcfomcaaaaaW.PrintMore Go.Proofs.Ythmbfcfomcaaaaa.Cmp
abbrev En := S34
abbrev Rw := List S66
def docE (L : List Ent) : List En := L.map (fun e => ⟨e.row,e.many⟩)
def docT (t : Tr) : List En := docE t.ents
def SrtD (L : List En) : Prop := L.Pairwise (fun a b => rcmp a.f0 b.f0 < 0)
def OkD (L : List En) : Prop := ∀ x ∈ L,rright x.f0 = true ∧ x.f1 ≠ 0 ∧ -1073741824 ≤ x.f1 ∧ x.f1 ≤ 1073741824
def few (n : Int) : Bool := decide (-1073741824 ≤ n) && decide (n ≤ 1073741824)
def loD (r : Rw) (L : List En) : List En := L.filter (fun x => decide (rcmp x.f0 r < 0))
def eqD (r : Rw) (L : List En) : List En := L.filter (fun x => decide (rcmp r x.f0 = 0))
def hiD (r : Rw) (L : List En) : List En := L.filter (fun x => decide (rcmp r x.f0 < 0))
def fndD (r : Rw) (L : List En) : Option En := L.find? (fun x => decide (rcmp r x.f0 = 0))
def manyD (r : Rw) (L : List En) : Int := match fndD r L with | some x => x.f1 | none => 0
def putD (r : Rw) (now : Int) (L : List En) : List En := loD r L ++ (if now = 0 then [] else [⟨r,now⟩]) ++ hiD r L
def okAdd (r : Rw) (m : Int) (L : List En) : Bool := decide (-2147483648 ≤ m) && decide (m ≤ 2147483648) && few (manyD r L + m)
def addD (r : Rw) (m : Int) (L : List En) : Int × List En := if rright r = true then (if okAdd r m L = true then (0,putD r (manyD r L + m) L) else (10,L)) else (2,L)
theorem SrtD.cons {x : En} {L : List En} (h : SrtD (x :: L)) : (∀ y ∈ L,rcmp x.f0 y.f0 < 0) ∧ SrtD L := List.pairwise_cons.1 h
theorem srt_split (r : Rw) : ∀ {L : List En},SrtD L → L = loD r L ++ eqD r L ++ hiD r L ∧ eqD r L = (fndD r L).toList
 | [],_ => ⟨rfl,rfl⟩
 | x :: L,h => by
  obtain ⟨h1,h2⟩ := h.cons
  obtain ⟨i1,i2⟩ := srt_split r h2
  unfold loD eqD hiD fndD at *
  rw [List.filter_cons,List.filter_cons,List.filter_cons,List.find?_cons]
  have an := rcmp_anti x.f0 r
  rcases Int.lt_trichotomy (rcmp r x.f0) 0 with c | c | c
  ·have hi : ∀ y ∈ L,rcmp r y.f0 < 0 := fun y hy => rcmp_law.lt_le c (Int.le_of_lt (h1 y hy))
   rw [filter_none (l := L) (fun y hy => by have := hi y hy;rw [rcmp_anti y.f0 r] at this;exact decide_eq_false (by omega)),filter_none (l := L) (fun y hy => by have := hi y hy;exact decide_eq_false (by omega)),filter_all (l := L) (fun y hy => decide_eq_true (hi y hy)),find_none' (a := L) (fun y hy => by have := hi y hy;exact decide_eq_false (by omega))]
   have a1 : ¬ rcmp x.f0 r < 0 := by omega
   have a2 : ¬ rcmp r x.f0 = 0 := by omega
   simp [a1,a2,c]
  ·have hi : ∀ y ∈ L,rcmp r y.f0 < 0 := fun y hy => by rw [show rcmp r y.f0 = rcmp x.f0 y.f0 from rcmp_law.eq_left y.f0 c];exact h1 y hy
   rw [filter_none (l := L) (fun y hy => by have := hi y hy;rw [rcmp_anti y.f0 r] at this;exact decide_eq_false (by omega)),filter_none (l := L) (fun y hy => by have := hi y hy;exact decide_eq_false (by omega)),filter_all (l := L) (fun y hy => decide_eq_true (hi y hy))]
   have a1 : ¬ rcmp x.f0 r < 0 := by omega
   simp [a1,c]
  ·have a0 : rcmp x.f0 r < 0 := by omega
   have a1 : ¬ rcmp r x.f0 < 0 := by omega
   have a2 : ¬ rcmp r x.f0 = 0 := by omega
   simp only [a0,a1,a2,decide_true,decide_false,if_true,Bool.false_eq_true,if_false]
   exact ⟨by rw [List.cons_append,List.cons_append,← i1],i2⟩
theorem mem_lo {r : Rw} {L : List En} {x : En} (h : x ∈ loD r L) : x ∈ L ∧ rcmp x.f0 r < 0 := by
 have := List.mem_filter.1 h;exact ⟨this.1,of_decide_eq_true this.2⟩
theorem mem_hi {r : Rw} {L : List En} {x : En} (h : x ∈ hiD r L) : x ∈ L ∧ rcmp r x.f0 < 0 := by
 have := List.mem_filter.1 h;exact ⟨this.1,of_decide_eq_true this.2⟩
theorem SrtD.filter {L : List En} (h : SrtD L) (p : En → Bool) : SrtD (L.filter p) := List.Pairwise.filter p h
theorem putD_srt {r : Rw} {now : Int} {L : List En} (h : SrtD L) : SrtD (putD r now L) := by
 have hl := h.filter (fun x => decide (rcmp x.f0 r < 0))
 have hh := h.filter (fun x => decide (rcmp r x.f0 < 0))
 unfold putD
 split
 ·rw [List.append_nil]
  exact List.pairwise_append.2 ⟨hl,hh,fun x hx y hy => rcmp_law.lt_le (mem_lo hx).2 (Int.le_of_lt (mem_hi hy).2)⟩
 ·rw [List.append_assoc]
  refine List.pairwise_append.2 ⟨hl,List.pairwise_cons.2 ⟨fun y hy => (mem_hi hy).2,hh⟩,fun x hx y hy => ?_⟩
  rcases List.mem_cons.1 hy with q | q
  ·rw [q];exact (mem_lo hx).2
  ·exact rcmp_law.lt_le (mem_lo hx).2 (Int.le_of_lt (mem_hi q).2)
theorem few_iff {n : Int} : few n = true ↔ -1073741824 ≤ n ∧ n ≤ 1073741824 := by
 unfold few;rw [Bool.and_eq_true,decide_eq_true_eq,decide_eq_true_eq]
theorem putD_ok {r : Rw} {now : Int} {L : List En} (h : OkD L) (hr : rright r = true) (hn : few now = true) : OkD (putD r now L) := by
 intro x hx
 unfold putD at hx
 rcases List.mem_append.1 hx with q | q
 ·rcases List.mem_append.1 q with q | q
  ·exact h x (mem_lo q).1
  ·split at q
   ·cases q
   ·rename_i h0
    rw [List.mem_singleton] at q
    subst q
    exact ⟨hr,h0,few_iff.1 hn⟩
 ·exact h x (mem_hi q).1
theorem addD_inv {r : Rw} {m : Int} {L : List En} (h : SrtD L) (k : OkD L) : SrtD (addD r m L).2 ∧ OkD (addD r m L).2 := by
 unfold addD
 split
 ·rename_i hr
  split
  ·rename_i ha
   unfold okAdd at ha
   rw [Bool.and_eq_true] at ha
   exact ⟨putD_srt h,putD_ok k hr ha.2⟩
  ·exact ⟨h,k⟩
 ·exact ⟨h,k⟩
theorem many_bd {r : Rw} {L : List En} (k : OkD L) : -1073741824 ≤ manyD r L ∧ manyD r L ≤ 1073741824 := by
 unfold manyD fndD
 cases hf : L.find? (fun x => decide (rcmp r x.f0 = 0)) with
 | none => simp
 | some x => exact (k x (List.mem_of_find?_eq_some hf)).2.2
theorem srtD_of {L : List Ent} (h : Srt L) : SrtD (docE L) := by
 unfold docE SrtD
 rw [List.pairwise_map]
 exact h
theorem srt_of {L : List Ent} (h : SrtD (docE L)) : Srt L := by
 unfold docE SrtD at h
 rw [List.pairwise_map] at h
 exact h
theorem put_ents (g : Nat) (en : Ent) : ∀ {t : Tr},Srt t.ents → (∀ x ∈ t.ents,rcmp en.row x.row ≠ 0) → entsL (t.put g en) = ahead en.row t.ents ++ en :: behind en.row t.ents
 | .nil,_,_ => rfl
 | .node b e l r h,hs,hx => by
  have hs' := hs
  rw [Tr.ents_node] at hs hx ⊢
  simp only [Tr.put]
  by_cases hc : rcmp en.row e.row < 0
  ·rw [if_pos hc,entsL_app,put_ents g en (srt_left hs').1 (fun x q => hx x (by simp [q]))]
   obtain ⟨a1,a2⟩ := ins_left en.row hs hc
   rw [a1,a2]
   simp [entsL,Tr.ents]
  ·have hn := hx e (by simp)
   rw [if_neg hc,entsL_app]
   show entsL l.items ++ e :: entsL (r.put g en) = _
   rw [put_ents g en (srt_left hs').2 (fun x q => hx x (by simp [q]))]
   obtain ⟨a1,a2⟩ := ins_right en.row hs (by omega)
   rw [a1,a2]
   simp [Tr.ents]
theorem doc_put (g : Nat) (en : Ent) {t t' : Tr} (hs : Srt t.ents) (hx : fndD en.row (docT t) = none) (h0 : en.many ≠ 0) (hi : t'.items = t.put g en) : docT t' = putD en.row en.many (docT t) := by
 have hne : ∀ x ∈ t.ents,rcmp en.row x.row ≠ 0 := fun x hxm => by
  have := List.find?_eq_none.1 hx ⟨x.row,x.many⟩ (List.mem_map_of_mem (f := fun e : Ent => (⟨e.row,e.many⟩ : En)) hxm)
  simpa using this
 have e1 : t'.ents = ahead en.row t.ents ++ en :: behind en.row t.ents := by
  rw [← put_ents g en hs hne,← hi];rfl
 unfold docT docE
 rw [e1]
 unfold putD loD hiD ahead behind
 rw [if_neg h0,List.map_append,List.map_cons,List.filter_map,List.filter_map,List.append_assoc]
 congr 1
 show _ :: _ = _ :: _
 congr 1
 congr 1
 apply List.filter_congr
 intro x hxm
 have := hne x hxm
 have an := rcmp_anti en.row x.row
 show (!decide (rcmp x.row en.row < 0)) = decide (rcmp en.row x.row < 0)
 by_cases c : rcmp x.row en.row < 0
 ·rw [decide_eq_true c,decide_eq_false (show ¬ rcmp en.row x.row < 0 by omega)];rfl
 ·rw [decide_eq_false c,decide_eq_true (show rcmp en.row x.row < 0 by omega)];rfl
theorem doc_drop {r : Rw} {t t' : Tr} (hs : Srt t.ents) (hi : t'.ents = others r t.ents) : docT t' = putD r 0 (docT t) := by
 have e1 : docT t' = (docT t).filter (fun x => !decide (rcmp r x.f0 = 0)) := by
  unfold docT docE
  rw [hi,List.filter_map]
  rfl
 rw [e1]
 obtain ⟨s1,s2⟩ := srt_split r (srtD_of hs)
 show List.filter _ (docE t.ents) = _
 rw [s1,List.filter_append,List.filter_append,filter_all (l := loD _ _) (fun x hx => by
  have := (mem_lo hx).2
  rw [rcmp_anti] at this
  simp;omega),filter_none (l := eqD _ _) (fun x hx => by
  have := List.mem_filter.1 hx
  simpa using this.2),filter_all (l := hiD _ _) (fun x hx => by
  have := (mem_hi hx).2
  simp;omega)]
 unfold putD
 rw [if_pos rfl]
 rfl
def Tr.upd (bx : Nat) (m : Int) : Tr → Tr
 | .nil => .nil
 | .node b e l r h => .node b (if b = bx then { e with many := m } else e) (l.upd bx m) (r.upd bx m) h
theorem Tr.upd_ptr (bx : Nat) (m : Int) (t : Tr) : (t.upd bx m).ptr = t.ptr := by cases t <;> rfl
def updI (bx : Nat) (m : Int) (x : Nat × Ent) : Nat × Ent := if x.1 = bx then (x.1,{ x.2 with many := m }) else x
theorem Tr.upd_items (bx : Nat) (m : Int) : ∀ t : Tr,(t.upd bx m).items = t.items.map (updI bx m)
 | .nil => rfl
 | .node b e l r h => by
  simp only [Tr.upd,Tr.items]
  rw [Tr.upd_items bx m l,Tr.upd_items bx m r,List.map_append,List.map_cons]
  unfold updI
  by_cases c : b = bx
  ·simp [c]
  ·simp [c]
theorem Tr.upd_ids (bx : Nat) (m : Int) (t : Tr) : (t.upd bx m).ids = t.ids := by
 unfold Tr.ids idsL
 rw [Tr.upd_items,List.map_map]
 apply List.map_congr_left
 intro x _
 show (updI bx m x).1 = x.1
 unfold updI
 split <;> rfl
theorem Tr.upd_size (bx : Nat) (m : Int) (t : Tr) : (t.upd bx m).size = t.size := by unfold Tr.size;rw [Tr.upd_items,List.length_map]
theorem Tr.upd_hok (bx : Nat) (m : Int) : ∀ {t : Tr},t.Hok → (t.upd bx m).Hok
 | .nil,_ => trivial
 | .node b e l r h,⟨h1,h2,hl,hr⟩ => ⟨h1,by rw [Tr.upd_size,Tr.upd_size];exact h2,Tr.upd_hok bx m hl,Tr.upd_hok bx m hr⟩
theorem Tr.In.upd {w : World} {D : Nat → Prop} {bx : Nat} (m : Int) (hD : ¬ D bx) : ∀ {t : Tr},t.In w D → (t.upd bx m).In (w.setCell ⟨bx,1,none⟩ (.int .i64 m)) D
 | .nil,_ => trivial
 | .node b e l r h,⟨h0,he,hl,hr⟩ => by
  have cb : Ch (fun x => x = bx) w (w.setCell ⟨bx,1,none⟩ (.int .i64 m)) := (Ch.refl (fun x => x = bx) w).setCell (p := ⟨bx,1,none⟩) (.inl rfl) _
  refine ⟨?_,?_,Tr.In.upd m hD hl,Tr.In.upd m hD hr⟩
  ·by_cases c : b = bx
   ·subst c
    rw [if_pos rfl]
    refine q0r h0 1 _ ?_
    unfold ncells
    rw [Tr.upd_ptr,Tr.upd_ptr]
    rfl
   ·rw [if_neg c]
    refine (blk_far h0 (p := ⟨bx,1,none⟩) c _).trans ?_
    unfold ncells
    rw [Tr.upd_ptr,Tr.upd_ptr]
  ·have hs := he.step (fun x hx hlt => cb.block x hlt (fun q => hD (q ▸ hx)))
   by_cases c : b = bx
   ·rw [if_pos c];exact ⟨hs.cap,hs.row⟩
   ·rw [if_neg c];exact hs
theorem NdIn.upd {w : World} {D : Nat → Prop} {t : Tr} {bx : Nat} (m : Int) (h : NdIn w D t) (hb : bx ∈ t.ids) : NdIn (w.setCell ⟨bx,1,none⟩ (.int .i64 m)) D (t.upd bx m) :=
 ⟨h.inn.upd m (fun hd => h.dis bx hd hb),by rw [Tr.upd_ids];exact h.nd,fun x hx => by rw [Tr.upd_ids];exact h.dis x hx⟩
theorem find_parts {α : Type} {p : α → Bool} {l : List α} {x : α} (h : l.find? p = some x) : ∃ a b,l = a ++ x :: b ∧ p x = true := by
 obtain ⟨h1,a,b,e,_⟩ := List.find?_eq_some_iff_append.1 h
 exact ⟨a,b,e,h1⟩
theorem ids_mem {t : Tr} {x : Nat × Ent} (h : x ∈ t.items) : x.1 ∈ t.ids := List.mem_map_of_mem (f := Prod.fst) h
theorem doc_upd {r : Rw} {now : Int} {t : Tr} {bx : Nat} {ex : Ent} (hs : Srt t.ents) (hnd : t.ids.Nodup) (hf : t.items.find? (isRow r) = some (bx,ex)) (he : ex.row = r) (h0 : now ≠ 0) : docT (t.upd bx now) = putD r now (docT t) := by
 obtain ⟨a,b,e1,hp⟩ := find_parts hf
 have hs' : Srt (entsL (a ++ (bx,ex) :: b)) := by rw [← e1];exact hs
 have hn' : (idsL (a ++ (bx,ex) :: b)).Nodup := by rw [← e1];exact hnd
 obtain ⟨s1,s2⟩ := srt_items hs'
 have n1 : ∀ y ∈ a,y.1 ≠ bx := fun y hy q => by
  rw [idsL_app] at hn'
  exact (List.nodup_append.1 hn').2.2 y.1 (List.mem_map_of_mem (f := Prod.fst) hy) bx (by simp [idsL]) q
 have n2 : ∀ y ∈ b,y.1 ≠ bx := fun y hy q => by
  rw [idsL_app] at hn'
  have := (List.nodup_append.1 hn').2.1
  exact (List.nodup_cons.1 (show (bx :: idsL b).Nodup from this)).1 (q ▸ List.mem_map_of_mem (f := Prod.fst) hy)
 have m1 : a.map (updI bx now) = a := by
  conv => rhs;rw [← List.map_id a]
  exact List.map_congr_left (fun y hy => by unfold updI;rw [if_neg (n1 y hy)];rfl)
 have m2 : b.map (updI bx now) = b := by
  conv => rhs;rw [← List.map_id b]
  exact List.map_congr_left (fun y hy => by unfold updI;rw [if_neg (n2 y hy)];rfl)
 have d1 : docT (t.upd bx now) = docE (entsL a) ++ (⟨ex.row,now⟩ : En) :: docE (entsL b) := by
  unfold docT Tr.ents
  rw [Tr.upd_items,e1,List.map_append,List.map_cons,m1,m2,entsL_app]
  unfold updI
  rw [if_pos rfl]
  unfold docE
  rw [List.map_append]
  rfl
 have d2 : docT t = docE (entsL a) ++ (⟨ex.row,ex.many⟩ : En) :: docE (entsL b) := by
  unfold docT Tr.ents
  rw [e1,entsL_app]
  unfold docE
  rw [List.map_append]
  rfl
 have ha : ∀ y ∈ docE (entsL a),rcmp y.f0 r < 0 := fun y hy => by
  unfold docE entsL at hy
  rw [List.map_map] at hy
  obtain ⟨z,hz,rfl⟩ := List.mem_map.1 hy
  have := s1 z hz
  rw [← he];exact this
 have hb : ∀ y ∈ docE (entsL b),rcmp r y.f0 < 0 := fun y hy => by
  unfold docE entsL at hy
  rw [List.map_map] at hy
  obtain ⟨z,hz,rfl⟩ := List.mem_map.1 hy
  have := s2 z hz
  rw [← he];exact this
 rw [d1,d2]
 unfold putD loD hiD
 rw [if_neg h0,List.filter_append,List.filter_append,List.filter_cons,List.filter_cons,filter_all (l := docE (entsL a)) (fun y hy => decide_eq_true (ha y hy)),filter_none (l := docE (entsL b)) (fun y hy => by have := hb y hy;rw [rcmp_anti] at this;exact decide_eq_false (by omega)),filter_none (l := docE (entsL a)) (fun y hy => by have := ha y hy;rw [rcmp_anti] at this;exact decide_eq_false (by omega)),filter_all (l := docE (entsL b)) (fun y hy => decide_eq_true (hb y hy))]
 have z1 : rcmp r r = 0 := rcmp_law.self r
 have z2 : ¬ rcmp r r < 0 := by omega
 simp [he,z2]
theorem fnd_doc (r : Rw) (t : Tr) : fndD r (docT t) = (t.items.find? (isRow r)).map (fun x => ⟨x.2.row,x.2.many⟩) := by
 unfold fndD docT docE Tr.ents entsL
 rw [List.map_map,List.find?_map]
 rfl
theorem many_some {r : Rw} {t : Tr} {x : Nat × Ent} (h : t.items.find? (isRow r) = some x) : manyD r (docT t) = x.2.many := by
 unfold manyD;rw [fnd_doc,h];rfl
theorem many_none {r : Rw} {t : Tr} (h : t.items.find? (isRow r) = none) : manyD r (docT t) = 0 := by
 unfold manyD;rw [fnd_doc,h];rfl
theorem doc_len (t : Tr) : (docT t).length = t.size := by unfold docT docE;rw [List.length_map,Tr.size_ents]
end Go.Proofs.Ythmbfcfomcaaaaa.Z
end
section
namespace Go.Proofs.YthmbfcfomcaaaaaW.PrintMore
set_option linter.unusedVariables false
open Go.RowKit Go.Proofs.YthmbfcfomcaaaaaW.PrintWords Go.Proofs.YthmbfcfomcaaaaaW.PrintLast
section
variable {P : Program} {ops : Array Oper} {Q : Exit → Act → World → Prop} {l n : Nat}
theorem rows_round {row : String} {args : Array Value} {w : World} {R : Value → World → Prop} (h : Rows P row args w R) : RowsIn (Fence.wide.inRound l) n P row args w R := by
 intro c cs _
 obtain ⟨v,w',r,s⟩ := h c cs
 exact ⟨v,w',r,stepsIn_wide.2 s⟩
theorem oper_round {o : Oper} {a : Act} {w : World} {K K' : Act → World → Prop} (hd : ∀ c,o.op ≠ .defer c) (hq : ¬ LetsOut Q) (hk : ∀ a w,K a w → K' a w) (h : o.wp P a w K Q) : o.wpIn (Fence.wide.inRound l) n P a w K' Q := by
 refine ⟨fun f _ => trivial,?_⟩
 show o.uponIn _ _ _ _ _ _ ((o.semAt (some l) a.eval).run P w)
 rw [Oper.semAt_some l a.eval o hd]
 unfold Oper.wp at h
 cases hr : (execOp a.eval o).run P w with
 | ok x w' =>
  rw [hr] at h
  cases x with
  | value v => exact hk _ _ h
  | skip => exact hk _ _ h
  | defer d => exact hk _ _ h
  | enter f args =>
   refine ⟨(fun hh => by cases hh),CallsIn.inRound l (callsIn_wide.2 (Calls.mono h ?_))⟩
   intro e w2 he
   cases e with
   | returned v => exact hk _ _ he
   | panicked c => exact he
   | outgrown => exact he
  | row r args => exact ⟨(fun hh => by cases hh),rows_round (Rows.mono h (fun v w2 he => hk _ _ he))⟩
  | _ => exact h.elim
 | halt x w' =>
  rw [hr] at h
  cases x <;> first | exact h | exact h.elim
theorem any_round {md : Region.Mode} (hd : ∀ (j : Nat) (o : Oper),ops[j]? = some o → ∀ c,o.op ≠ .defer c) (hq : ¬ LetsOut Q) : ∀ (fuel : Nat) (listed : Array Bool) (a : Act) (w : World),wpAny P md ops Q fuel listed a w → wpAnyIn (Fence.wide.inRound l) n P md ops Q fuel listed a w
 | 0,_,_,_,h => h
 | fuel + 1,listed,a,w,h => ⟨h.1,fun i hi => by
   have hw := h.2 i hi
   unfold wpOp at hw
   unfold wpOpIn
   cases ho : ops[i]? with
   | none => rw [ho] at hw;exact any_round hd hq fuel _ a w hw
   | some o =>
    rw [ho] at hw
    show if _ then _ else _
    replace hw : (if Region.wanted o (yielded ops a.tmps) = true then _ else _) := hw
    split
    ·rename_i hc
     rw [if_pos hc] at hw
     rcases hw with hw | hw
     ·exact oper_round (hd i o ho) hq (fun a w h => any_round hd hq fuel _ a w h) hw
     ·exact absurd hw.2 hq
    ·rename_i hc
     rw [if_neg hc] at hw
     exact ⟨fun _ _ => trivial,any_round hd hq fuel _ _ w hw⟩⟩
theorem region_round {id : Nat} {a : Act} {w : World} (hm : P.follows .mixedOrders = true) (hd : ∀ (j : Nat) (o : Oper),ops[j]? = some o → ∀ c,o.op ≠ .defer c) (hq : ¬ LetsOut Q)
  (h : wpAny P .any ops Q ops.size (Array.replicate ops.size false) a { w with drawn := w.drawn + 1 }) : (Code.region id ops true).wpIn (Fence.wide.inRound l) n P Q a w :=
 wpIn_region_any hm (any_round hd hq _ _ _ _ h)
def noDefer (ops : Array Oper) : Bool := ops.toList.all fun o => match o.op with | .defer _ => false | _ => true
theorem noDefer_at (h : noDefer ops = true) : ∀ (j : Nat) (o : Oper),ops[j]? = some o → ∀ c,o.op ≠ .defer c := by
 intro j o hj c e
 have hm : o ∈ ops.toList := by
  rw [← Array.getElem?_toList] at hj
  exact List.mem_of_getElem? hj
 have := List.all_eq_true.1 h o hm
 rw [e] at this
 cases this
theorem startR_ {id m : Nat} {S : World → Prop} {ds : List Nat} {a : Act} {w : World} (l_ : Array Bool) (hm : P.follows .mixedOrders = true) (hd : ∀ (j : Nat) (o : Oper),ops[j]? = some o → ∀ c,o.op ≠ .defer c) (hq : ¬ LetsOut Q) (hn : ops.size = m) (hl : Array.replicate m false = l_) (hS : S w.drew)
  (h : S w.drew → wpAnyLast P .any ops Q S ds m l_ a w.drew) : (Code.region id ops true).wpIn (Fence.wide.inRound l) n P Q a w := by
 subst hn
 subst hl
 exact region_round hm hd hq (wpAny_of_last _ _ _ _ (h hS))
end
end Go.Proofs.YthmbfcfomcaaaaaW.PrintMore
end
section
namespace Go.Proofs.Ythmbfcfomcaaaaa.Z
set_option linter.unusedVariables false
set_option linter.unusedSimpArgs false
open Go.RowKit Go.Shelf Go.Proofs.YthmbfcfomcaaaaaW.PrintWords Go.Proofs.YthmbfcfomcaaaaaW.PrintLast Go.Proofs.YthmbfcfomcaaaaaW.PrintMore Go.Proofs.Ythmbfcfomcaaaaa.Cmp
attribute [local go_sem] Oper.semAt_some
theorem yield_any {m : Nat} (m' : Nat) {P : Program} {l : Nat} {args : Array Value} {W : World} {R : Ending → World → Prop} (h : YieldAt Fence.wide m P l args W R) : YieldAt Fence.wide m' P l args W R := by
 obtain ⟨fn,tmps,assign,body,hy,hR⟩ := h
 exact ⟨fn,tmps,assign,body,hy,hR.1,fun c cs _ => hR.2 c cs (room_wide _)⟩
def ptrOf (x : Nat × Ent) : Array Value := #[.pointer (some ⟨x.1,0,none⟩)]
structure InB (n₀ : Nat) (w : World) (D : Nat → Prop) (t : Tr) : Prop where
 inn : t.In w D
 ids : ∀ k ∈ t.ids,k < n₀
 dat : ∀ k,D k → k < n₀
theorem InB.below {n₀ : Nat} {w w1 : World} {D : Nat → Prop} {t : Tr} (h : InB n₀ w D t) (hb : Below n₀ w w1) : InB n₀ w1 D t :=
 ⟨h.inn.step (fun k hk => hb.block k (h.ids k hk)) (fun k hk _ => hb.block k (h.dat k hk)),h.ids,h.dat⟩
theorem InB.left {n₀ : Nat} {w : World} {D : Nat → Prop} {b : Nat} {e : Ent} {l r : Tr} {k : Int} (h : InB n₀ w D (.node b e l r k)) : InB n₀ w D l :=
 ⟨h.inn.2.2.1,fun x hx => h.ids x (by rw [Tr.q0t];simp [hx]),h.dat⟩
theorem InB.right {n₀ : Nat} {w : World} {D : Nat → Prop} {b : Nat} {e : Ent} {l r : Tr} {k : Int} (h : InB n₀ w D (.node b e l r k)) : InB n₀ w D r :=
 ⟨h.inn.2.2.2,fun x hx => h.ids x (by rw [Tr.q0t];simp [hx]),h.dat⟩
theorem InB.root {n₀ : Nat} {w : World} {D : Nat → Prop} {b : Nat} {e : Ent} {l r : Tr} {k : Int} (h : InB n₀ w D (.node b e l r k)) : b < n₀ := h.ids b (by rw [Tr.q0t];simp)
set_option maxRecDepth 100000 in
set_option maxHeartbeats 2000000 in
theorem nd_walk {D : Nat → Prop} (l n₀ N : Nat) (S : Nat × Ent → Prop) (J Jx : List (Nat × Ent) → World → Prop)
  (hY : ∀ m pre x W,J pre W → S x → pre.length < N → YieldAt Fence.wide m Try.prog l (ptrOf x) W fun e W' =>
   (e = .returned (.bool true) ∧ J (pre ++ [x]) W' ∧ Below n₀ W W') ∨ (e = .returned (.bool false) ∧ Jx (pre ++ [x]) W')) (t : Tr) :
  ∀ (n : Nat) (pre : List (Nat × Ent)) (W : World),(∀ y ∈ t.items,S y) → InB n₀ W D t → J pre W → pre.length + t.items.length ≤ N →
   CallsIn Fence.wide n Try.prog 98 #[t.ptr,.func (.yield l) #[] #[]] W fun e W' =>
    (e = .returned (.bool true) ∧ J (pre ++ t.items) W' ∧ Below n₀ W W') ∨ (e = .returned (.bool false) ∧ ∃ q,q <+: t.items ∧ Jx (pre ++ q) W') := by
 induction t with
 | nil =>
  intro n pre W hS ht hJ _
  refine callsIn_of_wp Try.func98 rfl trivial ?_ rfl
  simp only [Tr.ptr,Try.ntmps98,List.size_toArray,List.length_cons,List.length_nil,Nat.reduceAdd,Nat.reduceSub,Array.replicate_succ,Array.replicate_zero,List.push_toArray,List.append_toArray,List.nil_append,List.cons_append]
  have hw98 : Fence.wide.fn 98 := trivial
  gi_wp2
  all_goals first
   | exact absurd ‹some undef = some (Value.bool _)› (by simp [undef])
   | (refine ⟨(fun _ h => by cases h),?_⟩;gi_wp2;go_ret;exact .inl ⟨rfl,by simpa [Tr.items] using hJ,Below.refl _ _⟩)
 | node b e tl tr k ihl ihr =>
  intro n pre W hS ht hJ hN
  have hS0 : S (b,e) := hS _ (by simp [Tr.items])
  have hSl : ∀ y ∈ tl.items,S y := fun y hy => hS y (by simp [Tr.items,hy])
  have hSr : ∀ y ∈ tr.items,S y := fun y hy => hS y (by simp [Tr.items,hy])
  have HSR := Aside0.mk hSr
  have hb := ht.root
  have c2 := q0d ht.inn.1 2
  have c3 := q0d ht.inn.1 3
  simp only [ncells,List.getElem?_toArray,List.getElem?_cons_zero,List.getElem?_cons_succ] at c2 c3
  have hN2 : pre.length + (tl.items.length + (tr.items.length + 1)) ≤ N := by simpa [Tr.items] using hN
  have hy2 : ∀ W1,J (pre ++ tl.items) W1 → Below n₀ W W1 → YieldAt Fence.wide (n - 1) Try.prog l #[.pointer (some ⟨b,0,none⟩)] W1 fun e' W2 =>
    (e' = .returned (.bool true) ∧ J (pre ++ tl.items ++ [(b,e)]) W2 ∧ Below n₀ W W2 ∧ W2.cell? ⟨b,3,none⟩ = some tr.ptr ∧ InB n₀ W2 D tr) ∨ (e' = .returned (.bool false) ∧ Jx (pre ++ tl.items ++ [(b,e)]) W2) := fun W1 hJ1 hb1 =>
   YieldAt.mono (hY (n - 1) _ (b,e) W1 hJ1 hS0 (by simp;omega)) fun e' W2 h => h.elim
    (fun ⟨he,hj,hb2⟩ => .inl ⟨he,hj,hb1.trans hb2,((hb1.trans hb2).cell (p := ⟨b,3,none⟩) hb).trans c3,ht.right.below (hb1.trans hb2)⟩) .inr
  have ih1 := (ihl (n - 1) pre W hSl ht.left hJ (by omega)).mono (R' := fun e' W1 =>
    (e' = .returned (.bool true) ∧ YieldAt Fence.wide (n - 1) Try.prog l #[.pointer (some ⟨b,0,none⟩)] W1 fun e' W2 =>
     (e' = .returned (.bool true) ∧ J (pre ++ tl.items ++ [(b,e)]) W2 ∧ Below n₀ W W2 ∧ W2.cell? ⟨b,3,none⟩ = some tr.ptr ∧ InB n₀ W2 D tr) ∨ (e' = .returned (.bool false) ∧ Jx (pre ++ tl.items ++ [(b,e)]) W2)) ∨
    (e' = .returned (.bool false) ∧ ∃ q,q <+: tl.items ∧ Jx (pre ++ q) W1))
   (fun e' W1 h => h.elim (fun ⟨he,hj,hb1⟩ => .inl ⟨he,hy2 W1 hj hb1⟩) .inr)
  clear hy2 ihl c3 ht hN hY hS hS0 hSl hSr
  refine callsIn_of_wp Try.func98 rfl trivial ?_ rfl
  simp only [Tr.ptr,Try.ntmps98,List.size_toArray,List.length_cons,List.length_nil,Nat.reduceAdd,Nat.reduceSub,Array.replicate_succ,Array.replicate_zero,List.push_toArray,List.append_toArray,List.nil_append,List.cons_append]
  have hw98 : Fence.wide.fn 98 := trivial
  have hdd : ∀ k : Nat,(Fence.wide.depth.isSome = true → 1 ≤ k) := fun k h => by cases h
  gi_wp2_with (first
   | ((try refine ⟨hdd _,?_⟩);gi_at_call 98;refine ih1.mono ?_;clear ih1;rintro e' W1 (⟨rfl,fn,tmps,assign,body,hy,hR⟩ | ⟨rfl,q,hq,hx1⟩))
   | ((try refine ⟨hdd _,?_⟩);refine hR.mono ?_;clear hR;rintro e' W2 (⟨rfl,hJ2,hb2,c2',hr2⟩ | ⟨rfl,hx2⟩))
   | ((try refine ⟨hdd _,?_⟩);gi_at_call 98;refine (ihr (n - 1) _ _ HSR.out hr2 hJ2 (by simp;omega)).mono ?_;rintro e' W3 (⟨rfl,hJ3,hb3⟩ | ⟨rfl,q,hq,hx3⟩)))
  ·go_ret
   exact .inl ⟨rfl,by simpa [Tr.items,List.append_assoc] using hJ3,hb2.trans hb3⟩
  ·go_ret
   obtain ⟨r,hr'⟩ := hq
   exact .inr ⟨rfl,tl.items ++ (b,e) :: q,⟨r,by simp [Tr.items,← hr']⟩,by simpa [List.append_assoc] using hx3⟩
  ·go_ret
   exact .inr ⟨rfl,tl.items ++ [(b,e)],⟨tr.items,by simp [Tr.items]⟩,by simpa [List.append_assoc] using hx2⟩
  ·refine ⟨(fun _ h => by cases h),?_⟩
   gi_wp2
   go_ret
   exact .inr ⟨rfl,q,hq.trans (by simp [Tr.items]),hx1⟩
set_option maxRecDepth 100000 in
set_option maxHeartbeats 2000000 in
theorem nd_all1 {D : Nat → Prop} (n l Bt n₀ : Nat) (t : Tr) (J Jx : List (Nat × Ent) → World → Prop)
  (hY : ∀ pre x W,J pre W → x ∈ t.items → pre.length < t.items.length → YieldAt Fence.wide (n - 1) Try.prog l (ptrOf x) W fun e W' =>
   (e = .returned (.bool true) ∧ J (pre ++ [x]) W' ∧ Below n₀ W W') ∨ (e = .returned (.bool false) ∧ Jx (pre ++ [x]) W'))
  (W : World) (hBt : W.cell? ⟨Bt,0,none⟩ = some t.ptr) (hT : InB n₀ W D t) (h0 : J [] W) :
  CallsIn Fence.wide n Try.prog 97 #[.func (.yield l) #[] #[],.pointer (some ⟨Bt,0,none⟩)] W fun e W' => (∃ v,e = .returned v) ∧
   ((∃ ys,ys = t.items ∧ J ys W') ∨ (∃ pre,pre <+: t.items ∧ Jx pre W')) := by
 have hdd : ∀ k : Nat,(Fence.wide.depth.isSome = true → 1 ≤ k) := fun k h => by cases h
 have hp := nd_walk l n₀ t.items.length (fun x => x ∈ t.items) J Jx (fun m pre x W hj hs hl => yield_any m (hY pre x W hj hs hl)) t (n - 1) [] W (fun _ h => h) hT h0 (by simp)
 have hw98 : Fence.wide.fn 98 := trivial
 obtain ⟨q,hq⟩ := ptr_case t
 rw [hq] at hBt hp
 refine callsIn_of_wp Try.func97 rfl trivial ?_ rfl
 simp only [Try.ntmps97,List.size_toArray,List.length_cons,List.length_nil,Nat.reduceAdd,Nat.reduceSub,Array.replicate_succ,Array.replicate_zero,List.push_toArray,List.append_toArray,List.nil_append,List.cons_append]
 clear hY hq
 gi_wp2_with ((try refine ⟨hdd _,?_⟩);gi_at_call 98;refine hp.mono ?_;clear hp;rintro e W1 (⟨rfl,hJ1,_⟩ | ⟨rfl,q,hq,hx⟩))
 ·go_end0
  exact ⟨⟨_,rfl⟩,.inl ⟨_,rfl,by simpa using hJ1⟩⟩
 ·go_end0
  exact ⟨⟨_,rfl⟩,.inr ⟨q,hq,by simpa using hx⟩⟩
set_option maxRecDepth 100000 in
set_option maxHeartbeats 1000000 in
theorem nd_all (t : Tr) (w : World) :
  Calls Try.prog 76 #[t.ptr] w fun e w' => e = .returned (.func (.func 97) #[] #[.pointer (some ⟨w.heap.size,0,none⟩)]) ∧ w' = w.alloc (.cells #[t.ptr] 81) := by
 obtain ⟨q,hq⟩ := ptr_case t
 rw [hq]
 clear hq
 go_enter Try.func76,Try.ntmps76
 go_wp2
 go_ret
 exact ⟨rfl,rfl⟩
theorem nd_all_stops {D : Nat → Prop} (n Bt n₀ : Nat) (t : Tr) (w : World) (hBt : Bt < w.heap.size) (hn₀ : n₀ ≤ w.heap.size) (hc : w.cell? ⟨Bt,0,none⟩ = some t.ptr) (hT : InB n₀ w D t) :
  SeqStopsK Fence.wide n Try.prog 97 #[.pointer (some ⟨Bt,0,none⟩)] (fun x : { x : Nat × Ent // x ∈ t.items } => ptrOf x.1) (Below n₀) (fun ys => ys.map Subtype.val = t.items) (fun pre => pre.map Subtype.val <+: t.items) t.items.length w := fun l J Jx W hW _ _ hY h0 => by
 refine (nd_all1 n l Bt n₀ t (fun pre W => ∃ p : List { x : Nat × Ent // x ∈ t.items },p.map Subtype.val = pre ∧ J p W) (fun pre W => ∃ p : List { x : Nat × Ent // x ∈ t.items },p.map Subtype.val = pre ∧ Jx p W) ?_ W ((hW.cell (p := ⟨Bt,0,none⟩) hBt).trans hc) (hT.below (hW.mono hn₀)) ⟨[],rfl,h0⟩).mono ?_
 ·rintro pre x W1 ⟨p,rfl,hj⟩ hx hlt
  refine YieldAt.mono (hY p ⟨x,hx⟩ W1 hj (by simpa using hlt)) ?_
  rintro e W2 (⟨he,hj2,hb⟩ | ⟨he,hj2⟩)
  ·exact .inl ⟨he,⟨p ++ [⟨x,hx⟩],by simp,hj2⟩,hb⟩
  ·exact .inr ⟨he,⟨p ++ [⟨x,hx⟩],by simp,hj2⟩⟩
 ·rintro e W2 ⟨he,(⟨ys,rfl,p,hp,hj⟩ | ⟨pre,hpre,p,hp,hj⟩)⟩
  ·exact ⟨he,.inl ⟨p,hp,hj⟩⟩
  ·exact ⟨he,.inr ⟨p,(by show List.map Subtype.val p <+: t.items;rw [hp];exact hpre),hj⟩⟩
end Go.Proofs.Ythmbfcfomcaaaaa.Z
end
section
namespace Go.Proofs.Ythmbfcfomcaaaaa.Z
open Go.RowKit Go.Proofs.YthmbfcfomcaaaaaW.PrintWords Go.Proofs.YthmbfcfomcaaaaaW.PrintLast Go.Proofs.YthmbfcfomcaaaaaW.PrintMore
attribute [local go_sem] max2_int min2_int max_two min_two max_three min_three max_four min_four
set_option linter.unusedVariables false
set_option linter.unusedSimpArgs false
def bag_few.f (a0 : Int) : Option (Bool) := if a0 ≥ (-1073741824) then (some (decide (a0 ≤ 1073741824))) else (some false)
set_option maxHeartbeats 8000000 in
set_option maxRecDepth 100000 in
theorem bag_few.calls (a0 : Int) (r : Bool) (w : World) (h : bag_few.f a0 = some r) :
  Calls Try.prog 75 #[.int .i64 a0] w fun e w' => e = .returned (.bool r) ∧ Drawn0 w w' := by
 have H : (if a0 ≥ (-1073741824) then (some (decide (a0 ≤ 1073741824))) else (some false)) = some r := h
 clear h
 by_cases c2 : a0 ≥ (-1073741824)
 ·rw [if_pos c2] at H
  have c2b0 : decide ((-1073741824) ≤ a0) = true := decide_eq_true c2
  clear c2
  obtain rfl := Option.some.inj H
  go_enter Try.func75,Try.ntmps75
  go_wp2
  go_ret
  exact ⟨by first | rfl | (simp;done) | (simp [*];done),by repeat (first | exact Drawn0.refl _ | apply Drawn0.step)⟩
 ·rw [if_neg c2] at H
  have c2b0 : decide ((-1073741824) ≤ a0) = false := decide_eq_false c2
  clear c2
  obtain rfl := Option.some.inj H
  go_enter Try.func75,Try.ntmps75
  go_wp2
  go_ret
  exact ⟨by first | rfl | (simp;done) | (simp [*];done),by repeat (first | exact Drawn0.refl _ | apply Drawn0.step)⟩
end Go.Proofs.Ythmbfcfomcaaaaa.Z
end
section
namespace Go.Proofs.Ythmbfcfomcaaaaa.Z
set_option linter.unusedVariables false
set_option linter.unusedSimpArgs false
open Go.RowKit Go.Proofs.YthmbfcfomcaaaaaW.PrintWords Go.Proofs.YthmbfcfomcaaaaaW.PrintLast Go.Proofs.YthmbfcfomcaaaaaW.PrintMore Go.Proofs.Ythmbfcfomcaaaaa.Cmp
def bcells (t : Tr) : Array Value := #[t.ptr,.int .i64 t.size]
structure BagAt (w : World) (b : Nat) (t : Tr) (D : Nat → Prop) : Prop where
 blk : w.heap[b]? = some (.cells (bcells t) 83 (0,0))
 tree : NdIn w D t
 hok : t.Hok
 srt : Srt t.ents
 ok : OkD (docT t)
 b_ids : b ∉ t.ids
 b_dat : ¬ D b
 dcell : ∀ k,D k → ∃ cs q,w.heap[k]? = some (.cells cs q (0,0))
theorem BagAt.srtD {w : World} {b : Nat} {t : Tr} {D : Nat → Prop} (h : BagAt w b t D) : SrtD (docT t) := srtD_of h.srt
theorem BagAt.lt {w : World} {b : Nat} {t : Tr} {D : Nat → Prop} (h : BagAt w b t D) : b < w.heap.size ∧ (∀ k ∈ t.ids,k < w.heap.size) ∧ ∀ k,D k → k < w.heap.size :=
 ⟨blk_lt h.blk,h.tree.inn.lt,fun k hk => by obtain ⟨cs,q,hc⟩ := h.dcell k hk;exact blk_lt hc⟩
def BagOwn (b : Nat) (t : Tr) (D : Nat → Prop) (k : Nat) : Prop := k = b ∨ k ∈ t.ids ∨ D k
theorem BagAt.keep {w w1 : World} {b : Nat} {t : Tr} {D S : Nat → Prop} (h : BagAt w b t D) (hc : Ch S w w1) (hS : ∀ k,S k → ¬ BagOwn b t D k) : BagAt w1 b t D :=
 ⟨hc.blk h.blk (fun s => hS b s (.inl rfl)),h.tree.keep hc (fun k hk s => hS k s (.inr (.inl hk))) (fun k hk s => hS k s (.inr (.inr hk))),h.hok,h.srt,h.ok,h.b_ids,h.b_dat,fun k hk => by
  obtain ⟨cs,q,hk'⟩ := h.dcell k hk
  exact ⟨cs,q,hc.blk hk' (fun s => hS k s (.inr (.inr hk)))⟩⟩
theorem BagAt.below {w w1 : World} {b : Nat} {t : Tr} {D : Nat → Prop} (h : BagAt w b t D) (hb : Below w.heap.size w w1) : BagAt w1 b t D := h.keep (Ch.of_below (S := fun _ => False) hb) (fun _ hk => hk.elim)
theorem BagAt.heap {w w1 : World} {b : Nat} {t : Tr} {D : Nat → Prop} (h : BagAt w b t D) (e : w1.heap = w.heap) : BagAt w1 b t D :=
 ⟨by rw [e];exact h.blk,h.tree.heap e,h.hok,h.srt,h.ok,h.b_ids,h.b_dat,fun k hk => by rw [e];exact h.dcell k hk⟩
set_option maxHeartbeats 2000000 in
set_option maxRecDepth 100000 in
theorem bag_new (w : World) : Calls Try.prog 15 #[] w fun e w' => e = .returned (.pointer (some ⟨w.heap.size,0,none⟩)) ∧ BagAt w' w.heap.size .nil (fun _ => False) ∧ Below w.heap.size w w' := by
 have h1 := Aside0.mk (blk_new w (Obj.cells (bcells .nil) 83 (0,0)))
 have b1 := Aside0.mk (q0b (Below.refl w.heap.size w) (Obj.cells (bcells .nil) 83 (0,0)))
 go_enter Try.func15,Try.ntmps15
 go_wp2
 go_ret
 exact ⟨rfl,⟨h1.out,⟨trivial,List.nodup_nil,fun _ h => h.elim⟩,trivial,List.Pairwise.nil,fun x hx => by simp [docT,docE,Tr.ents_nil] at hx,by simp [Tr.ids_nil],fun h => h,fun _ h => h.elim⟩,b1.out⟩
set_option maxHeartbeats 2000000 in
set_option maxRecDepth 100000 in
theorem bag_many {D : Nat → Prop} (b : Nat) (t : Tr) (A : Option Addr) (c : Nat) (r : Rw) (w : World) (h : BagAt w b t D) (hr : RowC w A c r) :
  Calls Try.prog 18 #[.pointer (some ⟨b,0,none⟩),.slice A r.length c] w fun e w' => e = .returned (.int .i64 (manyD r (docT t))) ∧ Below w.heap.size w w' := by
 have HA := Aside0.mk h
 have FN := Aside0.mk (nd_find t A c r w h.tree.inn h.srt hr)
 have c0 := q0d h.blk 0
 simp only [bcells,List.getElem?_toArray,List.getElem?_cons_zero] at c0
 obtain ⟨q,hq⟩ := ptr_case t
 rw [hq] at c0 FN
 obtain ⟨mm,hmm⟩ : ∃ mm,manyD r (docT t) = mm := ⟨_,rfl⟩
 have HM := Aside0.mk hmm
 rw [hmm]
 clear h hr hq hmm
 go_enter Try.func18,Try.ntmps18
 go_wp2_with (fail)
 refine FN.out.mono ?_
 rintro e w1 ⟨rfl,hb⟩
 have HB := Aside0.mk hb
 have HA1 := Aside0.mk (HA.out.below hb)
 clear hb c0 FN
 cases hf : t.items.find? (isRow r) with
 | none =>
  obtain rfl : 0 = mm := by rw [← HM.out];exact (many_none hf).symm
  clear hf
  simp only [adr]
  go_wp2_with (fail)
  go_ret
  exact ⟨rfl,HB.out⟩
 | some x =>
  obtain rfl : x.2.many = mm := by rw [← HM.out];exact (many_some hf).symm
  obtain ⟨l,r',k,hx,_⟩ := HA1.out.tree.inn.node_of x (List.mem_of_find?_eq_some hf)
  have c1 := q0d hx 1
  simp only [ncells,List.getElem?_toArray,List.getElem?_cons_zero,List.getElem?_cons_succ] at c1
  clear hf hx
  obtain ⟨bx,ex⟩ := x
  simp only [adr]
  go_wp2_with (fail)
  go_ret
  exact ⟨rfl,HB.out⟩
theorem few_calls (n : Int) (w : World) : Calls Try.prog 75 #[.int .i64 n] w fun e w' => e = .returned (.bool (few n)) ∧ Drawn0 w w' := by
 refine bag_few.calls n (few n) w ?_
 unfold bag_few.f few
 by_cases h : n ≥ -1073741824
 ·rw [if_pos h,decide_eq_true (show -1073741824 ≤ n from h)];rfl
 ·rw [if_neg h,decide_eq_false (show ¬ -1073741824 ≤ n from h)];rfl
set_option maxHeartbeats 2000000 in
set_option maxRecDepth 100000 in
theorem bag_sum {D : Nat → Prop} (b : Nat) (t : Tr) (A : Option Addr) (c : Nat) (r : Rw) (m : Int) (w : World) (h : BagAt w b t D) (hr : RowC w A c r) :
  Calls Try.prog 60 #[.pointer (some ⟨b,0,none⟩),.slice A r.length c,.int .i64 m] w fun e w' => (∃ n,e = .returned (.tuple #[.int .i64 n,.bool (okAdd r m (docT t))]) ∧ (okAdd r m (docT t) = true → n = manyD r (docT t) + m)) ∧ Below w.heap.size w w' := by
 have MN := Aside0.mk (bag_many b t A c r w h hr)
 obtain ⟨m0,m1⟩ := many_bd (r := r) h.ok
 obtain ⟨k,hk⟩ : ∃ k,manyD r (docT t) = k := ⟨_,rfl⟩
 have OA : okAdd r m (docT t) = (decide (-2147483648 ≤ m) && decide (m ≤ 2147483648) && few (k + m)) := by unfold okAdd;rw [hk]
 rw [hk] at MN m0 m1 ⊢
 rw [OA]
 clear h hr hk OA
 by_cases h1 : m < -2147483648
 ·have q1 : decide (m < -2147483648) = true := decide_eq_true h1
  have e1 : decide (-2147483648 ≤ m) = false := decide_eq_false (by omega)
  rw [e1]
  simp only [Bool.false_and]
  clear e1
  go_enter Try.func60,Try.ntmps60
  go_wp2_with (fail)
  refine MN.out.mono ?_
  rintro e w1 ⟨rfl,hb⟩
  have HB := Aside0.mk hb
  clear hb MN
  go_wp2_with (fail)
  go_ret2
  exact ⟨⟨_,rfl,fun h => by cases h⟩,HB.out⟩
 ·have q1 : decide (m < -2147483648) = false := decide_eq_false h1
  have e1 : decide (-2147483648 ≤ m) = true := decide_eq_true (by omega)
  have m2 : -2147483648 ≤ m := by omega
  by_cases h2 : 2147483648 < m
  ·have q2 : decide (2147483648 < m) = true := decide_eq_true h2
   have e2 : decide (m ≤ 2147483648) = false := decide_eq_false (by omega)
   rw [e1,e2]
   simp only [Bool.true_and,Bool.false_and]
   clear e1 e2
   go_enter Try.func60,Try.ntmps60
   go_wp2_with (fail)
   refine MN.out.mono ?_
   rintro e w1 ⟨rfl,hb⟩
   have HB := Aside0.mk hb
   clear hb MN
   go_wp2_with (fail)
   go_ret2
   exact ⟨⟨_,rfl,fun h => by cases h⟩,HB.out⟩
  ·have q2 : decide (2147483648 < m) = false := decide_eq_false h2
   have e2 : decide (m ≤ 2147483648) = true := decide_eq_true (by omega)
   have m3 : m ≤ 2147483648 := by omega
   rw [e1,e2]
   simp only [Bool.true_and]
   clear e1 e2
   have FC := Aside0.mk (few_calls (k + m))
   obtain ⟨fb,hfb⟩ : ∃ fb,few (k + m) = fb := ⟨_,rfl⟩
   rw [hfb] at FC ⊢
   clear hfb
   go_enter Try.func60,Try.ntmps60
   go_wp2_with (fail)
   refine MN.out.mono ?_
   rintro e w1 ⟨rfl,hb⟩
   have HB := Aside0.mk hb
   clear hb MN
   go_wp2_with (fail)
   refine (FC.out w1).mono ?_
   rintro e w2 ⟨rfl,hd⟩
   have HB2 := Aside0.mk (HB.out.trans (hd.below.mono HB.out.size))
   clear hd HB FC
   go_wp2_with (fail)
   go_ret2
   exact ⟨⟨_,rfl,fun _ => rfl⟩,HB2.out⟩
set_option maxHeartbeats 2000000 in
set_option maxRecDepth 100000 in
theorem bag_len {D : Nat → Prop} (b : Nat) (t : Tr) (w : World) (h : BagAt w b t D) :
  Calls Try.prog 33 #[.pointer (some ⟨b,0,none⟩)] w fun e w' => e = .returned (.int .i64 ((docT t).length : Int)) ∧ w = w' := by
 have c1 := q0d h.blk 1
 simp only [bcells,List.getElem?_toArray,List.getElem?_cons_zero,List.getElem?_cons_succ] at c1
 rw [← doc_len t] at c1
 obtain ⟨n,hn⟩ : ∃ n,(docT t).length = n := ⟨_,rfl⟩
 rw [hn] at c1 ⊢
 clear h hn
 go_enter Try.func33,Try.ntmps33
 go_wp2
 go_ret
 exact ⟨rfl,rfl⟩
theorem clone_at (A : Option Addr) (c : Nat) (r : Rw) (w : World) (hr : RowC w A c r) (hl : r.length ≤ 1000000) :
  Calls Try.prog 63 #[.slice A r.length c] w fun e w' => ∃ v : Value,e = .returned v ∧ Kd.R k66 66 w' w.heap.size (fun _ => True) v r ∧ Below w.heap.size w w' := by
 refine slices_Clone.calls A c r r w hr.row hr.cap ?_
 unfold slices_Clone.f
 simp only [Option.bind_some,List.length_nil,Nat.zero_add,List.nil_append]
 rw [if_pos (by omega)]
def docI (x : Nat × Ent) : En := ⟨x.2.row,x.2.many⟩
theorem right_len {r : Rw} (h : rright r = true) : r.length ≤ 40 := by
 unfold rright at h
 rw [Bool.and_eq_true,decide_eq_true_eq] at h
 exact h.1
theorem OkD.item {t : Tr} (h : OkD (docT t)) {x : Nat × Ent} (hx : x ∈ t.items) : rright x.2.row = true ∧ x.2.many ≠ 0 ∧ -1073741824 ≤ x.2.many ∧ x.2.many ≤ 1073741824 :=
 h ⟨x.2.row,x.2.many⟩ (List.mem_map_of_mem (f := fun e : Ent => (⟨e.row,e.many⟩ : En)) (List.mem_map_of_mem (f := Prod.snd) hx))
end Go.Proofs.Ythmbfcfomcaaaaa.Z
end
section
namespace Go.Proofs.Ythmbfcfomcaaaaa.Z
set_option linter.unusedVariables false
set_option linter.unusedSimpArgs false
open Go.RowKit Go.Proofs.YthmbfcfomcaaaaaW.PrintWords Go.Proofs.YthmbfcfomcaaaaaW.PrintLast Go.Proofs.YthmbfcfomcaaaaaW.PrintMore Go.Proofs.Ythmbfcfomcaaaaa.Cmp
structure BagCh (w w' : World) (b : Nat) (t t' : Tr) (D D' : Nat → Prop) : Prop where
 ch : Ch (fun k => k = b ∨ k ∈ t.ids) w w'
 ids : ∀ k ∈ t'.ids,k ∈ t.ids ∨ w.heap.size ≤ k
 dat : ∀ k,D' k → D k ∨ w.heap.size ≤ k
theorem BagCh.same {w w' : World} {b : Nat} {t : Tr} {D : Nat → Prop} (h : Below w.heap.size w w') : BagCh w w' b t t D D := ⟨Ch.of_below h,fun _ h => .inl h,fun _ h => .inl h⟩
theorem BagCh.own {w w' : World} {b : Nat} {t t' : Tr} {D D' : Nat → Prop} (h : BagCh w w' b t t' D D') : ∀ k,BagOwn b t' D' k → BagOwn b t D k ∨ w.heap.size ≤ k := fun k hk => by
 rcases hk with q | q | q
 ·exact .inl (.inl q)
 ·exact (h.ids k q).imp (fun q => .inr (.inl q)) id
 ·exact (h.dat k q).imp (fun q => .inr (.inr q)) id
theorem right_at (A : Option Addr) (c : Nat) (r : Rw) (w : World) (hr : RowC w A c r) : Calls Try.prog 59 #[.slice A r.length c] w fun e w' => e = .returned (.bool (rright r)) ∧ Below w.heap.size w w' :=
 row_Right.calls 41 A c r (rright r) w hr.row hr.cap (rright_f r 41 (by omega))
theorem add_right {r : Rw} {m : Int} {L : List En} (h : rright r = true) : addD r m L = if okAdd r m L = true then (0,putD r (manyD r L + m) L) else (10,L) := by unfold addD;rw [if_pos h]
theorem BagAt.root {w w1 : World} {b : Nat} {t t' : Tr} {D D' : Nat → Prop} (h : BagAt w b t D) (hb : w1.heap[b]? = some (.cells (bcells t) 83 (0,0))) (ht : NdIn w1 D' t') (hok : t'.Hok) (hd : SrtD (docT t')) (ho : OkD (docT t')) (hi : b ∉ t'.ids) (hbd : ¬ D' b) (hdc : ∀ k,D' k → ∃ cs q,w1.heap[k]? = some (.cells cs q (0,0))) :
  BagAt ((w1.setCell ⟨b,0,none⟩ t'.ptr).setCell ⟨b,1,none⟩ (.int .i64 t'.size)) b t' D' ∧ Ch (fun k => k = b) w1 ((w1.setCell ⟨b,0,none⟩ t'.ptr).setCell ⟨b,1,none⟩ (.int .i64 t'.size)) := by
 have cb : Ch (fun x => x = b) w1 ((w1.setCell ⟨b,0,none⟩ t'.ptr).setCell ⟨b,1,none⟩ (.int .i64 t'.size)) := ((Ch.refl (fun x => x = b) w1).setCell (p := ⟨b,0,none⟩) (.inl rfl) _).setCell (p := ⟨b,1,none⟩) (.inl rfl) _
 refine ⟨⟨q0r (q0r (cs' := #[t'.ptr,.int .i64 t.size]) hb 0 _ rfl) 1 _ rfl,ht.keep cb (fun k hk q => hi (q ▸ hk)) (fun k hk q => hbd (q ▸ hk)),hok,srt_of hd,ho,hi,hbd,fun k hk => ?_⟩,cb⟩
 obtain ⟨cs,q,hc⟩ := hdc k hk
 exact ⟨cs,q,cb.blk hc (fun s => hbd (s ▸ hk))⟩
theorem putD_len (r : Rw) (now : Int) {L : List En} (h : SrtD L) : (putD r now L).length + (fndD r L).toList.length = L.length + (if now = 0 then 0 else 1) := by
 obtain ⟨s1,s2⟩ := srt_split r h
 have e1 := congrArg List.length s1
 have e2 := congrArg List.length s2
 rw [List.length_append,List.length_append] at e1
 unfold putD
 rw [List.length_append,List.length_append]
 split <;> simp at * <;> omega
def NewD (w w1 : World) (k : Nat) : Prop := w.heap.size ≤ k ∧ ∃ cs q,w1.heap[k]? = some (.cells cs q (0,0))
theorem clone_dat {w w1 : World} {A1 : Option Addr} {c1 : Nat} {r : Rw} (m : Int) (hv : Kd.R k66 66 w1 w.heap.size (fun _ => True) (.slice A1 r.length c1) r) : EntIn w1 (NewD w w1) ⟨A1,c1,r,m⟩ :=
 ⟨(Kd.R_reads' hv).2.1,Kd.F_mono (Kd.R_F (Kd.R_bound hv)) (fun k hk => ⟨hk.2.1,by obtain ⟨q,_,cs,hc⟩ := hk.2.2.2;exact ⟨cs,q,hc⟩⟩)⟩
def OrD (D E : Nat → Prop) (k : Nat) : Prop := D k ∨ E k
theorem NdIn.more {w w1 : World} {D : Nat → Prop} {t : Tr} (h : NdIn w1 D t) (hl : ∀ k ∈ t.ids,k < w.heap.size) : NdIn w1 (OrD D (NewD w w1)) t :=
 ⟨h.inn.mono (fun k hk => .inl hk),h.nd,fun k hk hm => hk.elim (fun q => h.dis k q hm) (fun q => by have := hl k hm;have := q.1;omega)⟩
theorem put_at {w w1 : World} {b : Nat} {t : Tr} {D : Nat → Prop} {A1 : Option Addr} {c1 : Nat} {r : Rw} {m : Int} (h : BagAt w b t D) (hb : Below w.heap.size w w1) (hs : t.size ≤ 300000000000000000)
  (hv : Kd.R k66 66 w1 w.heap.size (fun _ => True) (.slice A1 r.length c1) r) :
  Calls Try.prog 62 #[t.ptr,.agg #[.slice A1 r.length c1,.int .i64 m]] w1 fun e' w' => ∃ t',e' = .returned t'.ptr ∧ Put w1 (OrD D (NewD w w1)) ⟨A1,c1,r,m⟩ t t' w' :=
 nd_put ⟨A1,c1,r,m⟩ t w1 ((h.below hb).tree.more h.lt.2.1) h.hok (by omega) ((clone_dat m hv).mono (fun k hk => .inr hk)) (fun k hk => hk.elim (fun q => Nat.lt_of_lt_of_le (h.lt.2.2 k q) hb.size) (fun q => by obtain ⟨cs,q',hc⟩ := q.2;exact blk_lt hc))
theorem putD0_ok {r : Rw} {L : List En} (h : OkD L) : OkD (putD r 0 L) := by
 intro x hx
 unfold putD at hx
 rw [if_pos rfl,List.append_nil] at hx
 rcases List.mem_append.1 hx with q | q
 ·exact h x (mem_lo q).1
 ·exact h x (mem_hi q).1
theorem there_of {r : Rw} {t : Tr} {x : Nat × Ent} (h : t.items.find? (isRow r) = some x) : ∃ y ∈ t.ents,rcmp r y.row = 0 := by
 refine ⟨x.2,List.mem_map_of_mem (f := Prod.snd) (List.mem_of_find?_eq_some h),?_⟩
 have := List.find?_some h
 unfold isRow at this
 exact of_decide_eq_true this
set_option maxHeartbeats 4000000 in
set_option maxRecDepth 100000 in
theorem bag_add {D : Nat → Prop} (b : Nat) (t : Tr) (A : Option Addr) (c : Nat) (r : Rw) (m : Int) (w : World) (h : BagAt w b t D) (hr : RowC w A c r) (hs : t.size ≤ 300000000000000000) :
  Calls Try.prog 16 #[.pointer (some ⟨b,0,none⟩),.slice A r.length c,.int .i64 m] w fun e w' => ∃ t' D',e = .returned (.int .i64 (addD r m (docT t)).1) ∧ docT t' = (addD r m (docT t)).2 ∧ BagAt w' b t' D' ∧ BagCh w w' b t t' D D' := by
 have HA := Aside0.mk h
 have HR := Aside0.mk hr
 have HS := Aside0.mk hs
 have RT := Aside0.mk (right_at A c r w hr)
 by_cases hrt : rright r = true
 ·have HT := Aside0.mk hrt
  rw [hrt] at RT
  rw [add_right hrt]
  obtain ⟨n,hn⟩ : ∃ n,manyD r (docT t) + m = n := ⟨_,rfl⟩
  have HN := Aside0.mk hn
  rw [hn]
  have c0 := q0d h.blk 0
  simp only [bcells,List.getElem?_toArray,List.getElem?_cons_zero] at c0
  obtain ⟨q0,hq0⟩ := ptr_case t
  have HQ0 := Aside0.mk hq0
  rw [hq0] at c0
  clear h hr hs hrt hn hq0
  by_cases hok : okAdd r m (docT t) = true
  ·have OK := Aside0.mk hok
   rw [if_pos hok]
   clear hok
   go_enter Try.func16,Try.ntmps16
   go_wp2_with (fail)
   refine RT.out.mono ?_
   rintro e w1 ⟨rfl,hb⟩
   have HB := Aside0.mk hb
   have HA1 := Aside0.mk (HA.out.below hb)
   have HR1 := Aside0.mk (HR.out.below hb)
   replace c0 := (hb.cell (World.block_lt_of_cell? w _ c0)).trans c0
   clear hb RT
   go_wp2_with (fail)
   refine (bag_sum b t A c r m w1 HA1.out HR1.out).mono ?_
   rintro e w2 ⟨⟨n',rfl,hn'⟩,hb⟩
   obtain rfl : n = n' := ((hn' OK.out).trans HN.out).symm
   rw [OK.out]
   have HB2 := Aside0.mk (HB.out.trans (hb.mono HB.out.size))
   have HA2 := Aside0.mk (HA1.out.below hb)
   have HR2 := Aside0.mk (HR1.out.below hb)
   replace c0 := (hb.cell (World.block_lt_of_cell? w1 _ c0)).trans c0
   clear hb hn' HB HA1 HR1
   go_wp2_with (fail)
   have FN := Aside0.mk (nd_find t A c r w2 HA2.out.tree.inn HA2.out.srt HR2.out)
   rw [HQ0.out] at FN
   refine FN.out.mono ?_
   rintro e w3 ⟨rfl,hb⟩
   have HB3 := Aside0.mk (HB2.out.trans (hb.mono HB2.out.size))
   have HA3 := Aside0.mk (HA2.out.below hb)
   have HR3 := Aside0.mk (HR2.out.below hb)
   replace c0 := (hb.cell (World.block_lt_of_cell? w2 _ c0)).trans c0
   clear hb HB2 HA2 HR2 FN
   obtain ⟨ff,hff⟩ : ∃ ff,t.items.find? (isRow r) = ff := ⟨_,rfl⟩
   have HF := Aside0.mk hff
   rw [hff]
   clear hff
   by_cases hn0 : n = 0
   ·have q1 : (n != 0) = false := by simp [hn0]
    have q2 : (n == 0) = true := by simp [hn0]
    cases ff with
    | none =>
     simp only [adr]
     go_wp2_with (fail)
     go_ret
     have hz := HN.out
     rw [many_none HF.out] at hz
     have e1 : putD r n (docT t) = docT t := by
      obtain ⟨s1,s2⟩ := srt_split r HA.out.srtD
      rw [fnd_doc,HF.out] at s2
      unfold putD
      rw [if_pos hn0]
      conv => rhs;rw [s1,s2]
      rfl
     exact ⟨t,D,rfl,e1.symm,HA3.out,BagCh.same HB3.out⟩
    | some x =>
     simp only [adr]
     have hs2 := HS.out
     have TH := Aside0.mk (there_of HF.out)
     have DR := Aside0.mk (nd_drop t w3 A c r HA3.out.tree HA3.out.hok (by omega) HA3.out.srt HR3.out TH.out)
     rw [HQ0.out] at DR
     go_wp2_with (fail)
     refine DR.out.mono ?_
     rintro e w4 ⟨t',rfl,hp⟩
     have PT := Aside0.mk hp
     have K4 : w4.heap[b]? = some (.cells (bcells t) 83 (0,0)) := hp.ch.blk HA3.out.blk HA3.out.b_ids
     have B4 := Aside0.mk K4
     have z0 := q0e K4 0
     have z1 := q0e K4 1
     have y0 := q0d K4 0
     have y1 := q0d K4 1
     simp only [bcells,List.getElem?_toArray,List.getElem?_cons_zero,List.getElem?_cons_succ] at y0 y1
     rw [HQ0.out] at y0
     obtain ⟨q1',hq1⟩ := ptr_case t'
     have HQ1 := Aside0.mk hq1
     rw [hq1]
     clear hp K4 hq1 c0 DR
     go_wp2_with (fail)
     go_ret
     have hd := doc_drop HA3.out.srt PT.out.ents
     have hl := putD_len r 0 HA3.out.srtD
     rw [← hd,doc_len,doc_len,fnd_doc,HF.out] at hl
     have es : ((t.size : Int) - 1) = (t'.size : Int) := by simp at hl;omega
     rw [es,← HQ1.out]
     have hdc : ∀ k,D k → ∃ cs q,w4.heap[k]? = some (.cells cs q (0,0)) := by
      intro k hk
      obtain ⟨cs,q,hc⟩ := HA3.out.dcell k hk
      exact ⟨cs,q,PT.out.ch.blk hc (fun hm => HA3.out.tree.dis k hk hm)⟩
     obtain ⟨g1,g2⟩ := HA3.out.root B4.out PT.out.inn PT.out.hok (by rw [hd];exact putD_srt HA3.out.srtD) (by rw [hd];exact putD0_ok HA3.out.ok) (fun hm => HA3.out.b_ids (PT.out.sub b hm)) HA3.out.b_dat hdc
     refine ⟨t',D,rfl,by rw [hd,hn0],g1,((Ch.of_below (S := fun k => k = b ∨ k ∈ t.ids) HB3.out).then_ PT.out.ch (fun k hk => .inl (.inr hk))).then_ g2 (fun k hk => .inl (.inl hk)),fun k hk => .inl (PT.out.sub k hk),fun k hk => .inl hk⟩
   ·have q1 : (n != 0) = true := by simp [hn0]
    have q2 : (n == 0) = false := by simp [hn0]
    cases ff with
    | none =>
     simp only [adr]
     have hs2 := HS.out
     go_wp2_with (fail)
     have CL := Aside0.mk (clone_at A c r w3.drew ((HR3.out.below (w1 := w3.drew) (q0c (Below.refl _ _)))) (by have := right_len HT.out;omega))
     have HA4 := Aside0.mk (HA3.out.heap (w1 := w3.drew) rfl)
     have HB4 := Aside0.mk (q0c HB3.out)
     go_region_with (first | (go_at_call 63;(with_reducible refine CL.out.mono ?_);rintro e w5 ⟨v,rfl,hv,hb⟩;replace c0 := (hb.cell (World.block_lt_of_cell? _ _ c0)).trans c0;have HV := Aside0.mk hv;have HB5 := Aside0.mk hb;obtain ⟨A1,c1,e1⟩ := Kd.R_slice hv;clear hv hb;subst e1) | (go_at_call 62;(have PP := put_at (m := n) HA4.out HB5.out HS.out HV.out;rw [HQ0.out] at PP;refine PP.mono ?_);clear PP;rintro e w6 ⟨t',rfl,hp⟩;have PT := Aside0.mk hp;have K6 := hp.ch.blk (HA4.out.below HB5.out).blk HA4.out.b_ids;have B6 := Aside0.mk K6;have z0 := q0e K6 0;have z1 := q0e K6 1;have y0 := q0d K6 0;have y1 := q0d K6 1;simp only [bcells,List.getElem?_toArray,List.getElem?_cons_zero,List.getElem?_cons_succ] at y0 y1;rw [HQ0.out] at y0;obtain ⟨q1',hq1⟩ := ptr_case t';have HQ1 := Aside0.mk hq1;rw [hq1];clear hp K6 hq1 c0))
     all_goals
      go_wp2_with (fail)
      go_ret
      have hd : docT t' = putD r n (docT t) := by
       obtain ⟨g,_,hi⟩ := PT.out.items
       exact doc_put g _ HA3.out.srt (by rw [fnd_doc,HF.out];rfl) hn0 hi
      have hl := putD_len r n HA3.out.srtD
      rw [← hd,doc_len,doc_len,fnd_doc,HF.out,if_neg hn0] at hl
      have es : ((t.size : Int) + 1) = (t'.size : Int) := by simp at hl;omega
      rw [es,← HQ1.out]
      have hfew : few n = true := by
       have := OK.out
       unfold okAdd at this
       rw [Bool.and_eq_true,HN.out] at this
       exact this.2
      have hdc : ∀ k,OrD D (NewD w3.drew w5) k → ∃ cs q,w6.heap[k]? = some (.cells cs q (0,0)) := by
       intro k hk
       have hnt : k ∉ t.ids := fun hm => hk.elim (fun q => HA3.out.tree.dis k q hm) (fun q => by have h1 := HA4.out.lt.2.1 k hm;have h2 := q.1;omega)
       rcases hk with q | q
       ·obtain ⟨cs,q',hc⟩ := (HA4.out.below HB5.out).dcell k q
        exact ⟨cs,q',PT.out.ch.blk hc hnt⟩
       ·obtain ⟨cs,q',hc⟩ := q.2
        exact ⟨cs,q',PT.out.ch.blk hc hnt⟩
      have hb5 : w3.drew.heap.size ≤ w5.heap.size := HB5.out.size
      have hb4 : b < w3.drew.heap.size := HA4.out.lt.1
      have hb3 : w.heap.size ≤ w3.drew.heap.size := HB4.out.size
      obtain ⟨g1,g2⟩ := HA3.out.root B6.out PT.out.inn PT.out.hok (by rw [hd];exact putD_srt HA3.out.srtD) (by rw [hd];exact putD_ok HA3.out.ok HT.out hfew) (fun hm => (put_sub PT.out b hm).elim HA3.out.b_ids (fun q => by omega)) (fun hk => hk.elim HA3.out.b_dat (fun q => by have := q.1;omega)) hdc
      have hC : Ch (fun k => k = b ∨ k ∈ t.ids) w w6 := ((Ch.of_below HB4.out).below HB5.out).then_ PT.out.ch (fun k hk => .inl (.inr hk))
      have FIN : BagCh w _ b t t' D (OrD D (NewD w3.drew w5)) := ⟨hC.then_ g2 (fun k hk => .inl (.inl hk)),fun k hk => (put_sub PT.out k hk).imp id (fun q => by omega),fun k hk => hk.imp id (fun q => by have := q.1;omega)⟩
      first
       | exact ⟨t',_,rfl,hd,g1,FIN⟩
       | exact ⟨rfl,t',_,hd,g1,FIN⟩
    | some x =>
     obtain ⟨l,r',k,hx,_⟩ := HA3.out.tree.inn.node_of x (List.mem_of_find?_eq_some HF.out)
     have z1 := q0e hx 1
     have y1 := q0d hx 1
     simp only [ncells,List.getElem?_toArray,List.getElem?_cons_zero,List.getElem?_cons_succ] at y1
     clear hx
     obtain ⟨bx,ex⟩ := x
     simp only [adr] at z1 y1 ⊢
     go_wp2_with (fail)
     go_ret
     have hm := List.mem_of_find?_eq_some HF.out
     have hrow : ex.row = r := by
      have h1 := List.find?_some HF.out
      unfold isRow at h1
      exact (rright_eq HT.out (HA3.out.ok.item hm).1 (of_decide_eq_true h1)).symm
     have hd := doc_upd HA3.out.srt HA3.out.tree.nd HF.out hrow hn0
     have hbx : bx ∈ t.ids := ids_mem hm
     have cb : Ch (fun x => x = bx) w3 (w3.setCell ⟨bx,1,none⟩ (.int .i64 n)) := (Ch.refl (fun x => x = bx) w3).setCell (p := ⟨bx,1,none⟩) (.inl rfl) _
     have hfew : few n = true := by
      have := OK.out
      unfold okAdd at this
      rw [Bool.and_eq_true,HN.out] at this
      exact this.2
     have f1 : (w3.setCell ⟨bx,1,none⟩ (.int .i64 n)).heap[b]? = some (.cells (bcells (t.upd bx n)) 83 (0,0)) := by
      refine (cb.blk HA3.out.blk (fun q => HA3.out.b_ids (q ▸ hbx))).trans ?_
      unfold bcells
      rw [Tr.upd_ptr,Tr.upd_size]
     have f2 : ∀ k,D k → ∃ cs q,(w3.setCell ⟨bx,1,none⟩ (.int .i64 n)).heap[k]? = some (.cells cs q (0,0)) := by
      intro k hk
      obtain ⟨cs,q,hc⟩ := HA3.out.dcell k hk
      exact ⟨cs,q,cb.blk hc (fun q => HA3.out.tree.dis k hk (q ▸ hbx))⟩
     have g1 : BagAt (w3.setCell ⟨bx,1,none⟩ (.int .i64 n)) b (t.upd bx n) D := ⟨f1,HA3.out.tree.upd n hbx,Tr.upd_hok bx n HA3.out.hok,srt_of (by show SrtD (docT _);rw [hd];exact putD_srt HA3.out.srtD),by rw [hd];exact putD_ok HA3.out.ok HT.out hfew,by rw [Tr.upd_ids];exact HA3.out.b_ids,HA3.out.b_dat,f2⟩
     have FIN : BagCh w (w3.setCell ⟨bx,1,none⟩ (.int .i64 n)) b t (t.upd bx n) D D := ⟨(Ch.of_below (S := fun k => k = b ∨ k ∈ t.ids) HB3.out).then_ cb (fun k hk => .inl (.inr (hk ▸ hbx))),fun k hk => .inl (by rwa [Tr.upd_ids] at hk),fun k hk => .inl hk⟩
     first
      | exact ⟨_,_,rfl,hd,g1,FIN⟩
      | exact ⟨rfl,_,_,hd,g1,FIN⟩
      | exact ⟨rfl,_,hd,_,g1,FIN⟩
  ·have OK := Aside0.mk (show okAdd r m (docT t) = false by simpa using hok)
   rw [if_neg hok]
   clear hok
   go_enter Try.func16,Try.ntmps16
   go_wp2_with (fail)
   refine RT.out.mono ?_
   rintro e w1 ⟨rfl,hb⟩
   have HB := Aside0.mk hb
   have HA1 := Aside0.mk (HA.out.below hb)
   have HR1 := Aside0.mk (HR.out.below hb)
   replace c0 := (hb.cell (World.block_lt_of_cell? w _ c0)).trans c0
   clear hb RT
   go_wp2_with (fail)
   refine (bag_sum b t A c r m w1 HA1.out HR1.out).mono ?_
   rintro e w2 ⟨⟨n',rfl,_⟩,hb⟩
   rw [OK.out]
   have HB2 := Aside0.mk (HB.out.trans (hb.mono HB.out.size))
   have HA2 := Aside0.mk (HA1.out.below hb)
   have HR2 := Aside0.mk (HR1.out.below hb)
   replace c0 := (hb.cell (World.block_lt_of_cell? w1 _ c0)).trans c0
   clear hb HB HA1 HR1
   go_wp2_with (fail)
   have FN := Aside0.mk (nd_find t A c r w2 HA2.out.tree.inn HA2.out.srt HR2.out)
   rw [HQ0.out] at FN
   refine FN.out.mono ?_
   rintro e w3 ⟨rfl,hb⟩
   have HB3 := Aside0.mk (HB2.out.trans (hb.mono HB2.out.size))
   have HA3 := Aside0.mk (HA2.out.below hb)
   clear hb HB2 HA2 HR2 FN c0
   go_wp2_with (fail)
   go_ret
   exact ⟨t,D,rfl,rfl,HA3.out,BagCh.same HB3.out⟩
 ·have hrf : rright r = false := by simpa using hrt
  rw [hrf] at RT
  have e1 : addD r m (docT t) = (2,docT t) := by unfold addD;rw [if_neg hrt]
  rw [e1]
  clear hrt hrf e1 h hr hs
  go_enter Try.func16,Try.ntmps16
  go_wp2_with (fail)
  refine RT.out.mono ?_
  rintro e w1 ⟨rfl,hb⟩
  have HB := Aside0.mk hb
  have HA1 := Aside0.mk (HA.out.below hb)
  clear hb RT
  go_wp2_with (fail)
  go_ret
  exact ⟨t,D,rfl,rfl,HA1.out,BagCh.same HB.out⟩
end Go.Proofs.Ythmbfcfomcaaaaa.Z
end
section
namespace Go.Proofs.Ythmbfcfomcaaaaa.Z
open Go.RowKit Go.Proofs.YthmbfcfomcaaaaaW.PrintWords Go.Proofs.YthmbfcfomcaaaaaW.PrintLast Go.Proofs.YthmbfcfomcaaaaaW.PrintMore
attribute [local go_sem] max2_int min2_int max_two min_two max_three min_three max_four min_four
set_option linter.unusedVariables false
set_option linter.unusedSimpArgs false
def verdererref02_Same.f (k : Nat) (l0 : List (S66)) (l1 : List (S66)) : Option (Bool) := (verdererref02_Compare.f k l0 l1).bind fun t162 => (some (t162 == 0))
set_option maxHeartbeats 8000000 in
set_option maxRecDepth 100000 in
theorem verdererref02_Same.calls (k : Nat) (A0 : Option Addr) (c0 : Nat) (l0 : List (S66)) (A1 : Option Addr) (c1 : Nat) (l1 : List (S66)) (r : Bool) (w : World) (hr0 : Kd.C k66 w A0 l0.length l0) (hc0 : l0.length ≤ c0) (hr1 : Kd.C k66 w A1 l1.length l1) (hc1 : l1.length ≤ c1) (h : verdererref02_Same.f k l0 l1 = some r) :
  Calls Try.prog 84 #[.slice A0 l0.length c0,.slice A1 l1.length c1] w fun e w' => e = .returned (.bool r) ∧ Below w.heap.size w w' := by
 have HR0 := Aside0.mk hr0
 have HC0 := Aside0.mk hc0
 clear hr0 hc0
 have HR1 := Aside0.mk hr1
 have HC1 := Aside0.mk hc1
 clear hr1 hc1
 have HB := Aside0.mk (Below.refl w.heap.size w)
 have H : ((verdererref02_Compare.f k l0 l1).bind fun t162 => (some (t162 == 0))) = some r := h
 clear h
 replace H := Option.bind_eq_some_iff.mp H
 obtain ⟨t162,A30,H⟩ := H
 replace H : (some (t162 == 0)) = some r := H
 have A3 := Aside0.mk A30
 clear A30
 obtain rfl := Option.some.inj H
 go_enter Try.func84,Try.ntmps84
 go_wp2_with (first | ((with_reducible refine q0u (f := 96) rfl ?_);refine goesL_ (some 7) rfl rfl Try.func96 (by kernel_rfl) rfl #[.slice A0 l0.length c0,.slice A1 l1.length c1] rfl (by (try simp only [List.map_toArray,List.map_cons,List.map_nil]);first | done | rfl | (simp only [List.length_drop,List.length_take];rfl)) ?_;(with_reducible refine (verdererref02_Compare.calls k _ _ l0 _ _ l1 t162 _ ?side1 ?side2 ?side3 ?side4 A3.out).mono ?_);(case side1 => repeat (first | exact HR0.out | (with_reducible refine Kd.C_alloc ?_ _) | (with_reducible refine Kd.C_drewN ?_ _) | (with_reducible refine Kd.C_drew ?_)));(case side2 => exact HC0.out);(case side3 => repeat (first | exact HR1.out | (with_reducible refine Kd.C_alloc ?_ _) | (with_reducible refine Kd.C_drewN ?_ _) | (with_reducible refine Kd.C_drew ?_)));(case side4 => exact HC1.out);rintro e w4 ⟨rfl,hb⟩;refine ⟨_,rfl,?_⟩;have n0_ := Aside0.mk (q0n (by repeat (first | (with_reducible first | exact HB.out | apply q0b | apply q0a | apply q0c) | exact HB.out)) hb);clear HB;have HB := n0_;clear n0_;(try clear hb);(try clear hb2);(try clear hk);(try clear hi)))
 go_ret
 exact ⟨by first | rfl | (simp [q0m,q0l] <;> rfl) | (simp [*,q0m,q0l] <;> rfl),by repeat (first | (with_reducible first | exact HB.out | apply q0b | apply q0a | apply q0c) | exact HB.out)⟩
end Go.Proofs.Ythmbfcfomcaaaaa.Z
end
section
namespace Go.Proofs.Ythmbfcfomcaaaaa.Z
open Go.RowKit Go.Proofs.YthmbfcfomcaaaaaW.PrintWords Go.Proofs.YthmbfcfomcaaaaaW.PrintLast Go.Proofs.YthmbfcfomcaaaaaW.PrintMore
attribute [local go_sem] max2_int min2_int max_two min_two max_three min_three max_four min_four
set_option linter.unusedVariables false
set_option linter.unusedSimpArgs false
def verdererref05_few.f (a0 : Int) : Option (Bool) := if a0 ≥ (-1073741824) then (some (decide (a0 ≤ 1073741824))) else (some false)
set_option maxHeartbeats 8000000 in
set_option maxRecDepth 100000 in
theorem verdererref05_few.calls (a0 : Int) (r : Bool) (w : World) (h : verdererref05_few.f a0 = some r) :
  Calls Try.prog 66 #[.int .i64 a0] w fun e w' => e = .returned (.bool r) ∧ Drawn0 w w' := by
 have H : (if a0 ≥ (-1073741824) then (some (decide (a0 ≤ 1073741824))) else (some false)) = some r := h
 clear h
 by_cases c2 : a0 ≥ (-1073741824)
 ·rw [if_pos c2] at H
  have c2b0 : decide ((-1073741824) ≤ a0) = true := decide_eq_true c2
  clear c2
  obtain rfl := Option.some.inj H
  go_enter Try.func66,Try.ntmps66
  go_wp2
  go_ret
  exact ⟨by first | rfl | (simp;done) | (simp [*];done),by repeat (first | exact Drawn0.refl _ | apply Drawn0.step)⟩
 ·rw [if_neg c2] at H
  have c2b0 : decide ((-1073741824) ≤ a0) = false := decide_eq_false c2
  clear c2
  obtain rfl := Option.some.inj H
  go_enter Try.func66,Try.ntmps66
  go_wp2
  go_ret
  exact ⟨by first | rfl | (simp;done) | (simp [*];done),by repeat (first | exact Drawn0.refl _ | apply Drawn0.step)⟩
end Go.Proofs.Ythmbfcfomcaaaaa.Z
end
section
namespace Go.Proofs.Ythmbfcfomcaaaaa.Z
set_option linter.unusedVariables false
set_option linter.unusedSimpArgs false
open Go.RowKit Go.Proofs.YthmbfcfomcaaaaaW.PrintWords Go.Proofs.YthmbfcfomcaaaaaW.PrintLast Go.Proofs.YthmbfcfomcaaaaaW.PrintMore Go.Proofs.Ythmbfcfomcaaaaa.Cmp
theorem vright_text {x : S66} (h : vright x = true) : x.f3.size ≤ 60 := by
 have z (e : (x.f3.toList == ([] : List UInt8)) = true) : x.f3.size ≤ 60 := by
  have := bytes_nil e
  have h2 : x.f3.data.toList.length = 0 := by rw [this];rfl
  have h3 : x.f3.size = x.f3.data.toList.length := by simp
  omega
 unfold vright at h
 by_cases k0 : x.f0 = 0
 ·rw [if_pos k0,Bool.and_eq_true,Bool.and_eq_true] at h;exact z h.2.2
 ·rw [if_neg k0] at h
  by_cases k1 : x.f0 = 1
  ·rw [if_pos k1,Bool.and_eq_true] at h;exact z h.2
  ·rw [if_neg k1] at h
   by_cases k2 : x.f0 = 2
   ·rw [if_pos k2,Bool.and_eq_true] at h;exact z h.2
   ·rw [if_neg k2] at h
    by_cases k3 : x.f0 = 3
    ·rw [if_pos k3,Bool.and_eq_true,Bool.and_eq_true,decide_eq_true_eq] at h;exact h.2.2
    ·rw [if_neg k3] at h;cases h
theorem rright_text {r : Rw} (h : rright r = true) : ∀ x ∈ r,x.f3.size ≤ 60 := fun x hx => by
 unfold rright at h
 rw [Bool.and_eq_true] at h
 exact vright_text (List.all_eq_true.1 h.2 x hx)
theorem rcmp_at (A0 A1 : Option Addr) (c0 c1 : Nat) (l0 l1 : Rw) (w : World) (h0 : RowC w A0 c0 l0) (h1 : RowC w A1 c1 l1) (hr : rright l0 = true) :
  Calls Try.prog 96 #[.slice A0 l0.length c0,.slice A1 l1.length c1] w fun e w' => e = .returned (.int .i64 (rcmp l0 l1)) ∧ Below w.heap.size w w' :=
 verdererref02_Compare.calls 300 A0 c0 l0 A1 c1 l1 (rcmp l0 l1) w h0.row h0.cap h1.row h1.cap (refCompare_f l0 l1 h0.max 60 (rright_text hr) (by omega) 300 (by have := right_len hr;omega))
theorem rsame_at (A0 A1 : Option Addr) (c0 c1 : Nat) (l0 l1 : Rw) (w : World) (h0 : RowC w A0 c0 l0) (h1 : RowC w A1 c1 l1) (hr : rright l0 = true) :
  Calls Try.prog 84 #[.slice A0 l0.length c0,.slice A1 l1.length c1] w fun e w' => e = .returned (.bool (rcmp l0 l1 == 0)) ∧ Below w.heap.size w w' := by
 refine verdererref02_Same.calls 300 A0 c0 l0 A1 c1 l1 (rcmp l0 l1 == 0) w h0.row h0.cap h1.row h1.cap ?_
 unfold verdererref02_Same.f
 rw [refCompare_f l0 l1 h0.max 60 (rright_text hr) (by omega) 300 (by have := right_len hr;omega)]
 rfl
structure RefV (w : World) (g : Nat) (A : Option Addr) (c : Nat) (L : List En) (D : Nat → Prop) : Prop where
 blk : w.heap[g]? = some (.cells #[.slice A L.length c] 30 (0,0))
 cap : L.length ≤ c
 row : Kd.F k34 w D A L.length L
 g_not : ¬ D g
 lt : ∀ k,D k → k < w.heap.size
theorem RefV.keep {w w1 : World} {g : Nat} {A : Option Addr} {c : Nat} {L : List En} {D S : Nat → Prop} (h : RefV w g A c L D) (hc : Ch S w w1) (hg : ¬ S g) (hD : ∀ k,D k → ¬ S k) : RefV w1 g A c L D :=
 ⟨hc.blk h.blk hg,h.cap,Kd.F_step h.row (fun k hk hlt => hc.block k hlt (hD k hk)),h.g_not,fun k hk => Nat.lt_of_lt_of_le (h.lt k hk) hc.size⟩
theorem RefV.below {w w1 : World} {g : Nat} {A : Option Addr} {c : Nat} {L : List En} {D : Nat → Prop} (h : RefV w g A c L D) (hb : Below w.heap.size w w1) : RefV w1 g A c L D :=
 h.keep (Ch.of_below (S := fun _ => False) hb) (fun s => s) (fun _ _ s => s)
theorem RefV.get {w : World} {g : Nat} {A : Option Addr} {c : Nat} {L : List En} {D : Nat → Prop} (h : RefV w g A c L D) {i : Nat} (hi : i < L.length) {x : En} (hx : L[i]? = some x) :
  ∃ ad A0 c0,A = some ad ∧ w.cell? (ad.add (i * 2)) = some (.slice A0 x.f0.length c0) ∧ w.cell? ⟨(ad.add (i * 2)).block,(ad.add (i * 2)).off + 1,none⟩ = some (.int .i64 x.f1) ∧ RowC w A0 c0 x.f0 ∧ x.f0.length ≤ c0 ∧ Kd.F k66 w D A0 x.f0.length x.f0 := by
 obtain ⟨ad,cs,e1,hcl,hK,hcc,_⟩ := Kd.F_get h.row z34 (i : Int) (by omega) (by omega)
 simp only [Int.toNat_natCast] at hK hcc
 rw [List.getD_eq_getElem?_getD,hx] at hK
 obtain ⟨A0,c0,e2,hl,hF⟩ := k34_openF hK
 subst e2
 have hc : ∀ j u,[Value.slice A0 x.f0.length c0,Value.int .i64 x.f1][j]? = some u → w.cell? (ad.add (i * 2 + j)) = some u := hcc
 exact ⟨ad,A0,c0,e1,hc 0 _ rfl,by rw [← add_field _ _ 1 (by omega)];exact hc 1 _ rfl,⟨hl,Kd.F_now hF⟩,hl,hF⟩
theorem lo_len (r : Rw) {L : List En} (h : SrtD L) : (loD r L).length ≤ L.length := List.length_filter_le _ _
theorem lo_at {r : Rw} {L : List En} (h : SrtD L) {i : Nat} {x : En} (hx : L[i]? = some x) : (i < (loD r L).length → rcmp x.f0 r < 0) ∧ (¬ i < (loD r L).length → ¬ rcmp x.f0 r < 0) := by
 obtain ⟨s1,_⟩ := srt_split r h
 constructor
 ·intro hi
  rw [s1,List.append_assoc,List.getElem?_append_left hi] at hx
  exact (mem_lo (List.mem_of_getElem? hx)).2
 ·intro hi
  rw [s1,List.append_assoc,List.getElem?_append_right (by omega)] at hx
  have hm := List.mem_of_getElem? hx
  rcases List.mem_append.1 hm with q | q
  ·have := (List.mem_filter.1 q).2
   have := of_decide_eq_true this
   have := rcmp_anti x.f0 r
   omega
  ·have := (mem_hi q).2
   have := rcmp_anti x.f0 r
   omega
theorem fnd_at {r : Rw} {L : List En} (h : SrtD L) {x : En} (hx : L[(loD r L).length]? = some x) : (rcmp x.f0 r == 0) = (fndD r L).isSome ∧ (fndD r L = some x ∨ fndD r L = none) := by
 obtain ⟨s1,s2⟩ := srt_split r h
 have hx' : (loD r L ++ (eqD r L ++ hiD r L))[(loD r L).length]? = some x := by rw [← List.append_assoc,← s1];exact hx
 rw [List.getElem?_append_right (Nat.le_refl _),Nat.sub_self,s2] at hx'
 cases hf : fndD r L with
 | none =>
  rw [hf] at hx'
  have hm : x ∈ hiD r L := List.mem_of_getElem? (show (hiD r L)[0]? = some x from hx')
  have := (mem_hi hm).2
  have := rcmp_anti x.f0 r
  refine ⟨?_,.inr rfl⟩
  rw [beq_eq_false_iff_ne.2 (by omega)];rfl
 | some y =>
  rw [hf] at hx'
  have hxy : y = x := Option.some.inj hx'
  subst hxy
  have h1 := List.find?_some (show L.find? (fun x => decide (rcmp r x.f0 = 0)) = some y from hf)
  have h2 := of_decide_eq_true h1
  have := rcmp_anti y.f0 r
  refine ⟨?_,.inl rfl⟩
  rw [beq_iff_eq.2 (by omega)];rfl
theorem fnd_end {r : Rw} {L : List En} (h : SrtD L) (he : (loD r L).length = L.length) : fndD r L = none := by
 obtain ⟨s1,s2⟩ := srt_split r h
 have := congrArg List.length s1
 rw [List.length_append,List.length_append,s2] at this
 cases hf : fndD r L with
 | none => rfl
 | some y => rw [hf] at this;simp at this;omega
end Go.Proofs.Ythmbfcfomcaaaaa.Z
end
section
namespace Go.Proofs.Ythmbfcfomcaaaaa.Z
set_option linter.unusedVariables false
set_option linter.unusedSimpArgs false
open Go.RowKit Go.Proofs.YthmbfcfomcaaaaaW.PrintWords Go.Proofs.YthmbfcfomcaaaaaW.PrintLast Go.Proofs.YthmbfcfomcaaaaaW.PrintMore Go.Proofs.Ythmbfcfomcaaaaa.Cmp
structure RefCh (w w' : World) (g : Nat) (D D' : Nat → Prop) : Prop where
 ch : Ch (fun k => k = g) w w'
 dat : ∀ k,D' k → D k ∨ w.heap.size ≤ k
theorem ch_grown {w w1 : World} {S : Nat → Prop} {row : Option Nat} (hg : w.grownBy w1 row) (hr : ∀ k,row = some k → S k) : Ch S w w1 := ⟨hg.os,hg.tape,hg.output,hg.size,fun k hk hn => hg.block k hk (fun e => hn (hr k e.symm))⟩
theorem own_new {v1 : Value} {N : Nat} (h : v1.ownBlock = (Value.slice none 0 0).ownBlock ∨ ∃ b,v1.ownBlock = some b ∧ N ≤ b) : ∀ k,v1.ownBlock = some k → N ≤ k := fun k e => by
 rcases h with h | ⟨b,h,hb⟩
 ·rw [h] at e;simp [Value.ownBlock] at e
 ·rw [h] at e;injection e with e;omega
theorem own_new2 {v1 v2 : Value} {N M : Nat} (h1 : ∀ k,v1.ownBlock = some k → N ≤ k) (hm : N ≤ M) (h : v2.ownBlock = v1.ownBlock ∨ ∃ b,v2.ownBlock = some b ∧ M ≤ b) : ∀ k,v2.ownBlock = some k → N ≤ k := fun k e => by
 rcases h with h | ⟨b,h,hb⟩
 ·rw [h] at e;exact h1 k e
 ·rw [h] at e;injection e with e;omega
theorem RefCh.same {w w' : World} {g : Nat} {D : Nat → Prop} (h : Below w.heap.size w w') : RefCh w w' g D D := ⟨Ch.of_below h,fun _ h => .inl h⟩
theorem rright_at (A : Option Addr) (c : Nat) (r : Rw) (w : World) (hr : RowC w A c r) : Calls Try.prog 65 #[.slice A r.length c] w fun e w' => e = .returned (.bool (rright r)) ∧ Below w.heap.size w w' :=
 verdererref02_Right.calls 41 A c r (rright r) w hr.row hr.cap (rright_ref r 41 (by omega))
theorem rfew_calls (n : Int) (w : World) : Calls Try.prog 66 #[.int .i64 n] w fun e w' => e = .returned (.bool (few n)) ∧ Drawn0 w w' := by
 refine verdererref05_few.calls n (few n) w ?_
 unfold verdererref05_few.f few
 by_cases h : n ≥ -1073741824
 ·rw [if_pos h,decide_eq_true (show -1073741824 ≤ n from h)];rfl
 ·rw [if_neg h,decide_eq_false (show ¬ -1073741824 ≤ n from h)];rfl
theorem take_lo {r : Rw} {L : List En} (h : SrtD L) : L.take (loD r L).length = loD r L := by
 have h1 : (loD r L ++ (eqD r L ++ hiD r L)).take (loD r L).length = loD r L := List.take_left
 rwa [← List.append_assoc,← (srt_split r h).1] at h1
theorem drop_lo {r : Rw} {L : List En} (h : SrtD L) : L.drop (loD r L).length = (fndD r L).toList ++ hiD r L := by
 have h1 : (loD r L ++ (eqD r L ++ hiD r L)).drop (loD r L).length = eqD r L ++ hiD r L := List.drop_left
 rwa [← List.append_assoc,← (srt_split r h).1,(srt_split r h).2] at h1
set_option maxHeartbeats 4000000 in
set_option maxRecDepth 100000 in
theorem ref_addR {D : Nat → Prop} (g : Nat) (A1 : Option Addr) (c1 : Nat) (L : List En) (A : Option Addr) (c : Nat) (r : Rw) (m : Int) (w : World) (h : RefV w g A1 c1 L D) (hr : RowC w A c r) (hrt : rright r = false) :
  Calls Try.prog 17 #[.pointer (some ⟨g,0,none⟩),.slice A r.length c,.int .i64 m] w fun e w' => ∃ A' c' D',e = .returned (.int .i64 2) ∧ RefV w' g A' c' L D' ∧ RefCh w w' g D D' := by
 have HV := Aside0.mk h
 have RT := Aside0.mk (rright_at A c r w hr)
 rw [hrt] at RT
 clear h hr hrt
 go_enter Try.func17,Try.ntmps17
 go_wp2_with (fail)
 refine RT.out.mono ?_
 rintro e w1 ⟨rfl,hb⟩
 have HB1 := Aside0.mk hb
 have HV1 := Aside0.mk (HV.out.below hb)
 clear hb RT
 go_wp2_with (fail)
 go_ret
 first
  | exact ⟨_,_,_,rfl,HV1.out,RefCh.same HB1.out⟩
  | exact ⟨rfl,_,_,_,HV1.out,RefCh.same HB1.out⟩
end Go.Proofs.Ythmbfcfomcaaaaa.Z
end
section
namespace Go.Proofs.Ythmbfcfomcaaaaa.Z
set_option linter.unusedVariables false
set_option linter.unusedSimpArgs false
open Go.RowKit Go.Shelf Go.Proofs.YthmbfcfomcaaaaaW.PrintWords Go.Proofs.YthmbfcfomcaaaaaW.PrintLast Go.Proofs.YthmbfcfomcaaaaaW.PrintMore Go.Proofs.Ythmbfcfomcaaaaa.Cmp
attribute [local go_sem] Oper.semAt_some
def RowsS (Bl bx : Nat) (v : Value) (ex : Ent) (w' : World) : Prop := w'.cell? ⟨Bl,0,none⟩ = some v ∧ w'.cell? ⟨bx,0,none⟩ = some (.slice ex.A ex.row.length ex.c) ∧ w'.cell? ⟨bx,1,none⟩ = some (.int .i64 ex.many)
theorem heldS {W : World} {Bl bx t q : Nat} {v : Value} {ex : Ent} {l r : Tr} {k : Int} (h : W.heap[Bl]? = some (.cells #[v] t (0,0))) (hx : W.heap[bx]? = some (.cells (ncells ex l r k) q (0,0))) : RowsS Bl bx v ex W :=
 ⟨(q0d h 0).trans rfl,(q0d hx 0).trans rfl,(q0d hx 1).trans rfl⟩
theorem keepsO_below {W W' : World} (h : Below W.heap.size W W') : KeepsOthers W W' := ⟨h.size,fun k o hk _ => (h.block k (Array.getElem?_eq_some_iff.1 hk).1).trans hk⟩
theorem docT_items (t : Tr) : docT t = t.items.map docI := by unfold docT docE Tr.ents entsL;rw [List.map_map];rfl
def RowsI (w : World) (L : List En) (W : World) : Prop := ∃ v,W.heap[w.heap.size]? = some (.cells #[v] 22 (0,0)) ∧ Kd.R k34 34 W w.heap.size (fun k => k ≠ w.heap.size) v L
theorem own_rows (w : World) {α : Type} (f : List α → List En) (B : Nat) : OwnFrom B (fun pre W => RowsI w (f pre) W) := by
 rintro pre W W' row ⟨v,hb,hR⟩ hg hr
 have hne : ∀ {k : Nat} {cs : Array Value} {q : TypeId},W.heap[k]? = some (.cells cs q (0,0)) → some k ≠ row := fun {k cs q} hk e => by
  obtain ⟨_,o,ho,hc⟩ := hr k e.symm
  rw [hk] at ho
  cases ho
  cases hc
 refine ⟨v,blk_grown hb hg (hne hb),Kd.R_mono (Kd.R_grown (Kd.R_bound hR) hg (fun k hk => by obtain ⟨q,_,cs,hc⟩ := hk.2.2.2;exact hne hc)) (fun k hk => hk.1)⟩
set_option maxRecDepth 100000 in
set_option maxHeartbeats 4000000 in
theorem bag_rows {D : Nat → Prop} (b : Nat) (t : Tr) (w : World) (h : BagAt w b t D) (hs : t.size ≤ 1000000) :
  Calls Try.prog 34 #[.pointer (some ⟨b,0,none⟩)] w fun e w' => ∃ v,e = .returned v ∧ Kd.R k34 34 w' w.heap.size (fun _ => True) v (docT t) ∧ Below w.heap.size w w' := by
 have HA := Aside0.mk h
 have HS := Aside0.mk hs
 have c0 := q0d h.blk 0
 simp only [bcells,List.getElem?_toArray,List.getElem?_cons_zero] at c0
 have hb := h.lt.1
 have NALL := Aside0.mk (fun w' => nd_all t w')
 have STOPS := Aside0.mk (fun Bt w' hBt hn hc hT => nd_all_stops (D := D) 2 Bt w.heap.size t w' hBt hn hc hT)
 obtain ⟨q0,hq0⟩ := ptr_case t
 have HQ0 := Aside0.mk hq0
 rw [hq0] at c0 NALL STOPS
 clear h hs hq0
 have hdd : ∀ k : Nat,(Fence.wide.depth.isSome = true → 1 ≤ k) := fun k h => by cases h
 have hwA : Fence.wide.fn 76 := trivial
 have hwC : Fence.wide.fn 63 := trivial
 refine (callsIn_wide (n := 3)).1 ?_
 refine callsIn_of_wp_marks Try.func34 rfl trivial ?_ rfl
 simp only [Try.ntmps34,List.size_toArray,List.length_cons,List.length_nil,Nat.reduceAdd,Nat.reduceSub,Array.replicate_succ,Array.replicate_zero,List.push_toArray,List.append_toArray,List.nil_append,List.cons_append]
 gi_wp2_with ((try refine ⟨hdd _,?_⟩);gi_at_call 76;refine (callsIn_wide.2 (NALL.out _)).mono ?_;rintro e w' ⟨rfl,rfl⟩)
 obtain ⟨B0,hB0e⟩ : ∃ B0,w.heap.size = B0 := ⟨_,rfl⟩
 have hB0 : Below w.heap.size w ((w.alloc (.cells #[.slice none 0 0] 22)).alloc (.cells #[.pointer q0] 81)) := q0b (q0b (Below.refl _ _) _) _
 have hbx0 : ((w.alloc (.cells #[.slice none 0 0] 22)).alloc (.cells #[.pointer q0] 81)).heap[w.heap.size]? = some (.cells #[.slice none 0 0] 22 (0,0)) := q0h (blk_new w _) _
 have hbn : ((w.alloc (.cells #[.slice none 0 0] 22)).alloc (.cells #[.pointer q0] 81)).cell? ⟨w.heap.size + 1,0,none⟩ = some (.pointer q0) := by
  have := blk_new (w.alloc (.cells #[.slice none 0 0] 22)) (.cells #[.pointer q0] 81)
  rw [World.size_alloc] at this
  exact (q0d this 0).trans rfl
 have hT : InB w.heap.size ((w.alloc (.cells #[.slice none 0 0] 22)).alloc (.cells #[.pointer q0] 81)) D t := ⟨(HA.out.below hB0).tree.inn,HA.out.lt.2.1,HA.out.lt.2.2⟩
 clear hB0e
 refine wpIn_rangeFunc_ownG (F := Fence.wide) (n := 3) rfl (by omega) (gf := 97) (lb := #[.pointer (some ⟨w.heap.size + 1,0,none⟩)]) rfl trivial (enters_of Try.func97 (by kernel_rfl) rfl) (STOPS.out (w.heap.size + 1) _ (by simp) (by simp;omega) hbn hT) belowK_t (belowK_b (by simp;omega)) (Below.refl _ _) (fun _ => rfl)
  (fun pre W => RowsI w (pre.map (fun y => docI y.1)) W ∧ Below w.heap.size w W) (fun _ _ _ => False)
  (OwnFrom.and (own_rows w (fun pre : List { x : Nat × Ent // x ∈ t.items } => pre.map (fun y => docI y.1)) _) (ownFrom_below (Nat.le_refl _) (by simp;omega))) (fun _ _ _ _ _ hs _ _ => hs)
  ⟨⟨.slice none 0 0,hbx0,Kd.R_nil _ _ _ _ _⟩,hB0⟩
  (fun x => { tmps := #[.pointer (some ⟨b,0,none⟩),undef,.slice none 0 0,.pointer (some ⟨w.heap.size,0,none⟩),.pointer (some ⟨x.1.1,0,none⟩),.pointer (some ⟨b,0,none⟩),.bool false,.pointer (some ⟨b,0,none⟩),.pointer (some ⟨b,0,none⟩),.pointer (some ⟨b,0,none⟩),.pointer q0,.func (.func 97) #[] #[.pointer (some ⟨w.heap.size + 1,0,none⟩)],.pointer (some ⟨x.1.1,0,none⟩),undef,undef,undef,undef,undef,undef,undef,undef,undef,undef,undef,undef,undef,undef,undef,undef],defers := [] }) ?assign ?body ?done ?stop
 case assign =>
  intro l x W K hK
  simp only [ptrOf]
  gi_wp2
  exact hK
 case body =>
  rintro l pre ⟨x,hx⟩ W ⟨⟨v,hbx,hR⟩,hB⟩ hlt
  obtain ⟨bx,ex⟩ := x
  obtain ⟨tl,tr,k,hnx,hex⟩ := (HA.out.below hB).tree.inn.node_of _ hx
  obtain ⟨L,hL⟩ : ∃ L,pre.map (fun y => docI y.1) = L := ⟨_,rfl⟩
  have HL := Aside0.mk hL
  have LPR := Aside0.mk (show L.length < 1000000 by have h1 := HS.out;unfold Tr.size at h1;rw [← hL,List.length_map];omega)
  change Kd.R _ _ _ _ _ _ (pre.map (fun y => docI y.1)) at hR
  rw [hL] at hR
  clear hL
  have BX1 := Aside0.mk (show W.drew.heap[w.heap.size]? = some (.cells #[v] 22 (0,0)) from hbx)
  have NX1 := Aside0.mk (show W.drew.heap[bx]? = some (.cells (ncells ex tl tr k) 90 (0,0)) from hnx)
  have HRW := Aside0.mk (Kd.R_drew hR)
  have HBW := Aside0.mk (q0c hB)
  have RL := right_len (HA.out.ok.item hx).1
  have CLN := Aside0.mk (clone_at ex.A ex.c ex.row W.drew (hex.c.below (q0c (Below.refl _ _))) (by have : ex.row.length ≤ 40 := RL;omega))
  obtain ⟨Av,cv,ev⟩ := Kd.R_slice hR
  have KO := Aside0.mk (KeepsOthers.drew W)
  have HD := Aside0.mk (show Below w.heap.size W W.drew from q0c (Below.refl _ _))
  have LTB := Aside0.mk (blk_lt BX1.out)
  clear hbx hnx hR hB hex RL
  subst ev
  gi_wp2
  refine startR_ (m := 16) (S := RowsS w.heap.size bx (.slice Av L.length cv) ex) (ds := [15]) #[false,false,false,false,false,false,false,false,false,false,false,false,false,false,false,false] (by kernel_rfl) (noDefer_at (by kernel_rfl)) (fun ⟨_,_,h⟩ => h) rfl rfl (heldS BX1.out NX1.out) (fun hHeld => ?_)
  generalize W.drew = W1 at *
  refine pure_ (i := 1) (N := some 14) (v := ?_) (a' := ?_) #[false,true,false,false,false,false,false,false,false,false,false,false,false,false,false,false] rfl rfl (by kernel_rfl) (fun _ _ _ h => h) (Or.inl ⟨by rfl,?_⟩) ?_ ?_
  rotate_left
  ·intro w'
   go_simp
   with_reducible rfl
  rotate_left
  ·simp only [Act.put,zA,zB,zC,i64_w,i32_w]
   rfl
  refine pure_ (i := 2) (N := some 15) (v := ?_) (a' := ?_) #[false,true,true,false,false,false,false,false,false,false,false,false,false,false,false,false] rfl rfl (by kernel_rfl) (fun _ _ _ h => h) (Or.inl ⟨by rfl,?_⟩) ?_ ?_
  rotate_left
  ·intro w'
   go_simp
   with_reducible rfl
  rotate_left
  ·simp only [Act.put,zA,zB,zC,i64_w,i32_w]
   rfl
  refine pure_ (i := 3) (N := some 16) (v := ?_) (a' := ?_) #[false,true,true,true,false,false,false,false,false,false,false,false,false,false,false,false] rfl rfl (by kernel_rfl) (fun _ _ _ h => h) (Or.inl ⟨by rfl,?_⟩) ?_ ?_
  rotate_left
  ·intro w'
   go_simp
   with_reducible rfl
  rotate_left
  ·simp only [Act.put,zA,zB,zC,i64_w,i32_w]
   rfl
  refine pure_ (i := 4) (N := some 17) (v := ?_) (a' := ?_) #[false,true,true,true,true,false,false,false,false,false,false,false,false,false,false,false] rfl rfl (by kernel_rfl) (fun _ _ _ h => h) (Or.inl ⟨by rfl,?_⟩) ?_ ?_
  rotate_left
  ·intro w'
   go_simp
   with_reducible rfl
  rotate_left
  ·simp only [Act.put,zA,zB,zC,i64_w,i32_w]
   rfl
  refine pure_ (i := 7) (N := some 20) (v := ?_) (a' := ?_) #[false,true,true,true,true,false,false,true,false,false,false,false,false,false,false,false] rfl rfl (by kernel_rfl) (fun _ _ _ h => h) (Or.inl ⟨by rfl,?_⟩) ?_ ?_
  rotate_left
  ·intro w'
   go_simp
   with_reducible rfl
  rotate_left
  ·simp only [Act.put,zA,zB,zC,i64_w,i32_w]
   rfl
  refine pure_ (i := 8) (N := some 21) (v := ?_) (a' := ?_) #[false,true,true,true,true,false,false,true,true,false,false,false,false,false,false,false] rfl rfl (by kernel_rfl) (fun _ _ _ h => h) (Or.inl ⟨by rfl,?_⟩) ?_ ?_
  rotate_left
  ·intro w'
   go_simp
   with_reducible rfl
  rotate_left
  ·simp only [Act.put,zA,zB,zC,i64_w,i32_w]
   rfl
  refine pure_ (i := 9) (N := some 22) (v := ?_) (a' := ?_) #[false,true,true,true,true,false,false,true,true,true,false,false,false,false,false,false] rfl rfl (by kernel_rfl) (fun _ _ _ h => h) (Or.inl ⟨by rfl,?_⟩) ?_ ?_
  rotate_left
  ·intro w'
   go_simp
   with_reducible rfl
  rotate_left
  ·simp only [Act.put,zA,zB,zC,i64_w,i32_w]
   rfl
  refine pure_ (i := 10) (N := some 23) (v := ?_) (a' := ?_) #[false,true,true,true,true,false,false,true,true,true,true,false,false,false,false,false] rfl rfl (by kernel_rfl) (fun _ _ _ h => h) (Or.inl ⟨by rfl,?_⟩) ?_ ?_
  rotate_left
  ·intro w'
   go_simp
   with_reducible rfl
  rotate_left
  ·simp only [Act.put,zA,zB,zC,i64_w,i32_w]
   rfl
  refine take_ (i := 0) (N := some 13) (v := ?_) (a' := ?_) #[true,true,true,true,true,false,false,true,true,true,true,false,false,false,false,false] rfl rfl (by kernel_rfl) (fun _ _ _ h => h) (Or.inl ⟨by rfl,?_⟩) hHeld ?_ ?_
  rotate_left
  ·rintro w' ⟨s0,s1,s2⟩
   go_simp
   with_reducible rfl
  rotate_left
  ·simp only [Act.put,zA,zB,zC,i64_w,i32_w]
   rfl
  refine take_ (i := 5) (N := some 18) (v := ?_) (a' := ?_) #[true,true,true,true,true,true,false,true,true,true,true,false,false,false,false,false] rfl rfl (by kernel_rfl) (fun _ _ _ h => h) (Or.inl ⟨by rfl,?_⟩) hHeld ?_ ?_
  rotate_left
  ·rintro w' ⟨s0,s1,s2⟩
   go_simp
   with_reducible rfl
  rotate_left
  ·simp only [Act.put,zA,zB,zC,i64_w,i32_w]
   rfl
  refine take_ (i := 11) (N := some 24) (v := ?_) (a' := ?_) #[true,true,true,true,true,true,false,true,true,true,true,true,false,false,false,false] rfl rfl (by kernel_rfl) (fun _ _ _ h => h) (Or.inl ⟨by rfl,?_⟩) hHeld ?_ ?_
  rotate_left
  ·rintro w' ⟨s0,s1,s2⟩
   go_simp
   with_reducible rfl
  rotate_left
  ·simp only [Act.put,zA,zB,zC,i64_w,i32_w]
   rfl
  refine one_ (i := 6) (N := some 19) #[true,true,true,true,true,true,true,true,true,true,true,true,false,false,false,false] rfl rfl (by kernel_rfl) (by decide) (fun K hK => ?_)
  refine goes_ Try.func63 (by kernel_rfl) rfl #[.slice ex.A ex.row.length ex.c] (by rfl) rfl rfl (by (try simp only [List.map_toArray,List.map_cons,List.map_nil]);first | done | rfl) ?_
  refine (CLN.out.mono ?_)
  rintro e w2 ⟨v1,rfl,hv,hb⟩
  refine ⟨_,rfl,?_⟩
  have HV := Aside0.mk hv
  have B2 := Aside0.mk hb
  have BX2 := Aside0.mk (q0s BX1.out hb)
  have NX2 := Aside0.mk (q0s NX1.out hb)
  obtain ⟨A1,c1,e1⟩ := Kd.R_slice hv
  clear hv hb CLN BX1 NX1
  subst e1
  refine hK.out _ _ (heldS BX2.out NX2.out) (fun hHeld => ?_)
  clear hK K
  refine norm_ (a' := ?_) ?_ ?_
  rotate_left
  ·show Act.put _ (some 19) _ = _
   simp only [Act.put,zA,zB,zC,i64_w,i32_w]
   rfl
  refine pure_ (i := 12) (N := some 25) (v := ?_) (a' := ?_) #[true,true,true,true,true,true,true,true,true,true,true,true,true,false,false,false] rfl rfl (by kernel_rfl) (fun _ _ _ h => h) (Or.inl ⟨by rfl,?_⟩) ?_ ?_
  rotate_left
  ·intro w'
   go_simp
   with_reducible rfl
  rotate_left
  ·simp only [Act.put,zA,zB,zC,i64_w,i32_w]
   rfl
  refine one_ (i := 13) (N := some 26) #[true,true,true,true,true,true,true,true,true,true,true,true,true,true,false,false] rfl rfl (by kernel_rfl) (by decide) (fun K hK => ?_)
  refine value_ (w1 := ?_) (v := ?_) (by rfl) rfl ?_ ?_
  rotate_left 2
  ·go_simp
   constructor
   ·rfl
   ·rfl
  refine hK.out _ _ (heldS (q0h BX2.out _) (q0h NX2.out _)) (fun hHeld => ?_)
  clear hK K
  refine norm_ (a' := ?_) ?_ ?_
  rotate_left
  ·show Act.put _ (some 26) _ = _
   simp only [Act.put,zA,zB,zC,i64_w,i32_w]
   rfl
  refine one_ (i := 14) (N := some 27) #[true,true,true,true,true,true,true,true,true,true,true,true,true,true,true,false] rfl rfl (by kernel_rfl) (by decide) (fun K hK => ?_)
  have HRW2 := Aside0.mk (Kd.R_below HRW.out B2.out)
  have APM := Aside0.mk (show Kd.R k66 66 w2 w.heap.size (fun k => W1.heap.size ≤ k) (.slice A1 ex.row.length c1) ex.row from Kd.R_lower (Kd.R_mono (Kd.R_bound HV.out) (fun k hk => hk.2.1)) (Nat.le_of_lt LTB.out))
  have APK := Aside0.mk (fun k (hk : W1.heap.size ≤ k) => show k ≠ w.heap.size ∧ some k ≠ ((.slice Av L.length cv) : Value).ownBlock from ⟨by have := LTB.out;omega,fun e => by have := Kd.R_lt HRW.out k e.symm;omega⟩)
  refine Kd.R_append_step k34 (w0 := w) w.heap.size (by rfl) (.tmp 13) (.tmp 26) 22 34 (.agg #[(.slice none 0 0),(.int .i64 0)]) 32 rfl Try.underlying22 info34 rfl (by decide) (by omega) (.slice Av L.length cv) L (⟨ex.row,ex.many⟩ : En) [.slice A1 ex.row.length c1,.int .i64 ex.many] (fun k => k ≠ w.heap.size) (fun k => W1.heap.size ≤ k) rfl rfl (k34_mkM _ _ _ (⟨ex.row,ex.many⟩ : En) APM.out) APK.out (fun k hk => by have := LTB.out;have := B2.out.size;omega) HRW2.out (HBW.out.trans (B2.out.mono HBW.out.size)) (by have := LTB.out;have := B2.out.size;omega) (by have := LPR.out;omega) ?_
  intro v3 w3 ho hb3 hg hat
  have BX3 := Aside0.mk (blk_grown BX2.out hg (fun e => (HRW2.out.1 _ e.symm) rfl))
  have NX3 := Aside0.mk (blk_grown NX2.out hg (fun e => by have h1 := (Kd.R_typed HRW2.out) _ e.symm;obtain ⟨cs,hcs⟩ := h1;rw [NX2.out] at hcs;cases hcs))
  have HO := Aside0.mk ho
  have HB3 := Aside0.mk hb3
  have KO3 := Aside0.mk ((KO.out.trans (keepsO_below B2.out)).trans (KeepsOthers.of_grownBy hg (fun j o e ho2 => by obtain ⟨cs,hcs⟩ := Kd.R_typed HRW2.out j e;rw [hcs] at ho2;cases ho2;rfl)))
  have HD3 := Aside0.mk ((HD.out.trans (B2.out.mono (by have := HBW.out.size;omega))).grown hg (by have := HBW.out.size;have := B2.out.size;omega) (fun k e => Kd.R_base HRW2.out k e))
  obtain ⟨A3,c3,e3⟩ := Kd.R_slice ho
  clear ho hb3 hg hat
  subst e3
  refine hK.out _ _ (heldS BX3.out NX3.out) (fun hHeld => ?_)
  clear hK K
  refine norm_ (a' := ?_) ?_ ?_
  rotate_left
  ·show Act.put _ (some 27) _ = _
   simp only [Act.put,zA,zB,zC,i64_w,i32_w]
   rfl
  refine last_ (i := 15) (N := none) #[true,true,true,true,true,true,true,true,true,true,true,true,true,true,true,true] rfl rfl (by kernel_rfl) (by decide) (fun K hK => ?_)
  have z0 := q0e BX3.out 0
  have y0 := (q0d BX3.out 0).trans rfl
  refine skip_ (w1 := w3.setCell ⟨w.heap.size,0,none⟩ (.slice A3 (L ++ [(⟨ex.row,ex.many⟩ : En)]).length c3)) (by rfl) rfl ?_ ?_
  ·go_simp
   try with_reducible rfl
  refine hK.out _ _ ?_
  clear hK K
  refine done_ (by kernel_rfl) ?_
  show KeepsFrom _ _ _ ∧ Below _ _ _ ∧ RowsI _ _ _ ∧ Below _ _ _
  refine ⟨(KO3.out.trans (KeepsOthers.setCell _ _ _)).from _,HD3.out.setCell (Nat.le_refl _) _,⟨_,q0r BX3.out 0 _ rfl,?_⟩,HB3.out.setCell (Nat.le_refl _) _⟩
  rw [List.map_append,HL.out]
  exact Kd.R_far (p := ⟨w.heap.size,0,none⟩) HO.out (fun k hk => hk) _
 case done =>
  rintro D2 ys W hD2 hys ⟨⟨v,hbx,hR⟩,hB⟩ hK
  have hd : ys.map (fun y => docI y.1) = docT t := by
   have h1 := congrArg (List.map docI) hys
   rw [List.map_map] at h1
   exact h1.trans (docT_items t).symm
  change Kd.R _ _ _ _ _ _ (ys.map (fun y => docI y.1)) at hR
  rw [hd] at hR
  clear hd
  obtain ⟨A9,c9,e9⟩ := Kd.R_slice hR
  have HR9 := Aside0.mk hR
  have HB9 := Aside0.mk hB
  have LK := Aside0.mk (show D2 ≠ w.heap.size by simp at hD2;omega)
  have y0 := (q0d hbx 0).trans rfl
  have HK := Aside0.mk hK
  have HYS := Aside0.mk hys
  have HD2 := Aside0.mk hD2
  clear hR hB hbx hK hys hD2
  subst e9
  gi_wp2
  refine ⟨by simp,.inl ⟨_,_,rfl,run_takeDeferred HK.out,?_⟩⟩
  have hg := grownBy_putObj' W D2 (.deferred none)
  have hR' := Kd.R_mono (ok' := fun _ => True) (Kd.R_grown (Kd.R_bound HR9.out) hg (fun k hk e => by
   obtain ⟨q,_,cs,hc⟩ := hk.2.2.2
   injection e with e
   subst e
   rw [HK.out] at hc
   cases hc)) (fun _ _ => trivial)
  exact ⟨_,results_tmp rfl _ _ _,.slice A9 (docT t).length c9,rfl,hR',HB9.out.trans (belowK_b (w := w) (Nat.le_refl _) W D2 _ _ (by have := HD2.out;simp at this;omega) HK.out rfl rfl)⟩
 case stop =>
  rintro D2 c pre W _ _ h _
  exact h.elim
end Go.Proofs.Ythmbfcfomcaaaaa.Z
end
section
namespace Go.Proofs.Ythmbfcfomcaaaaa.Z
open Go.RowKit Go.Proofs.YthmbfcfomcaaaaaW.PrintWords Go.Proofs.YthmbfcfomcaaaaaW.PrintLast Go.Proofs.YthmbfcfomcaaaaaW.PrintMore
attribute [local go_sem] max2_int min2_int max_two min_two max_three min_three max_four min_four
set_option linter.unusedVariables false
set_option linter.unusedSimpArgs false
def verdererref05_Alike.l0 : Nat → List (S34) → List (S34) → Int → Option (Bool)
 | 0,_,_,_ => none
 | k + 1,x0,x1,x5 => if x5 < (x0.length : Int) then (if 0 ≤ x5 then (if x5 < (x1.length : Int) then (if ((rd_T34 x0 x5).f1) = ((rd_T34 x1 x5).f1) then ((verdererref02_Equal.f k ((rd_T34 x0 x5).f0) ((rd_T34 x1 x5).f0)).bind fun t173 => (if t173 = true then (verdererref05_Alike.l0 k x0 x1 (wrap64 (x5 + 1))) else (some false))) else (some false)) else (none)) else (none)) else (some true)
def verdererref05_Alike.f (k : Nat) (l0 : List (S34)) (l1 : List (S34)) : Option (Bool) := if (l0.length : Int) = (l1.length : Int) then (verdererref05_Alike.l0 k l0 l1 0) else (some false)
theorem verdererref05_Alike.mono_l : ∀ k,(∀ y0 y1 y2,LeO (verdererref05_Alike.l0 k y0 y1 y2) (verdererref05_Alike.l0 (k + 1) y0 y1 y2))
 | 0 => fun _ _ _ r h => by simp [verdererref05_Alike.l0] at h
 | k + 1 => by
  have ih0 := verdererref05_Alike.mono_l k
  ·intro y0 y1 y2
   unfold verdererref05_Alike.l0
   repeat' first
   | (with_reducible exact ih0 _ _ _)
   | (with_reducible exact verdererref02_Equal.mono _ _ _)
   | (with_reducible exact LeO.refl _)
   | (with_reducible exact LeO.none _)
   | (with_reducible refine LeO.ite ?_ ?_)
   | (with_reducible refine LeO.bind ?_ (fun _ => ?_))
   | exact ih0 _ _ _
   | exact verdererref02_Equal.mono _ _ _
   | exact LeO.none _
   | refine LeO.ite ?_ ?_
   | refine LeO.bind ?_ (fun _ => ?_)
theorem verdererref05_Alike.mono : ∀ a0 a1 k,LeO (verdererref05_Alike.f k a0 a1) (verdererref05_Alike.f (k + 1) a0 a1) := by
 intro a0 a1 k
 have ih0 := verdererref05_Alike.mono_l k
 unfold verdererref05_Alike.f
 repeat' first
   | (with_reducible exact ih0 _ _ _)
   | (with_reducible exact verdererref02_Equal.mono _ _ _)
   | (with_reducible exact LeO.refl _)
   | (with_reducible exact LeO.none _)
   | (with_reducible refine LeO.ite ?_ ?_)
   | (with_reducible refine LeO.bind ?_ (fun _ => ?_))
   | exact ih0 _ _ _
   | exact verdererref02_Equal.mono _ _ _
   | exact LeO.none _
   | refine LeO.ite ?_ ?_
   | refine LeO.bind ?_ (fun _ => ?_)
set_option maxHeartbeats 8000000 in
set_option maxRecDepth 100000 in
theorem verdererref05_Alike.calls (k : Nat) (A0 : Option Addr) (c0 : Nat) (l0 : List (S34)) (A1 : Option Addr) (c1 : Nat) (l1 : List (S34)) (r : Bool) (w : World) (hr0 : Kd.C k34 w A0 l0.length l0) (hc0 : l0.length ≤ c0) (hr1 : Kd.C k34 w A1 l1.length l1) (hc1 : l1.length ≤ c1) (h : verdererref05_Alike.f k l0 l1 = some r) :
  Calls Try.prog 31 #[.slice A0 l0.length c0,.slice A1 l1.length c1] w fun e w' => e = .returned (.bool r) ∧ Drawn0 w w' := by
 have HR0 := Aside0.mk hr0
 have HC0 := Aside0.mk hc0
 clear hr0 hc0
 have HR1 := Aside0.mk hr1
 have HC1 := Aside0.mk hc1
 clear hr1 hc1
 have H : (if (l0.length : Int) = (l1.length : Int) then (verdererref05_Alike.l0 k l0 l1 0) else (some false)) = some r := h
 clear h
 by_cases c3 : (l0.length : Int) = (l1.length : Int)
 ·rw [if_pos c3] at H
  have c3b0 : ((l0.length : Int) == (l1.length : Int)) = true := beq_iff_eq.mpr c3
  have c3b1 : ((l0.length : Int) != (l1.length : Int)) = false := bne_eq_false_iff_eq.mpr c3
  have c3b2 : (l0.length == l1.length) = true := by first | simpa using c3 | (simp at c3 ⊢;omega)
  clear c3
  have H' := Aside0.mk H
  clear H
  go_enter Try.func31,Try.ntmps31
  go_wp2
  repeat (go_quiet (fail);try go_wp2)
  go_loopg [5] k (fun kq v5 w' => ∃ (x5_1 : Int),v5 = .int .i64 x5_1 ∧ Aside0 (verdererref05_Alike.l0 kq l0 l1 x5_1 = some r) ∧ Aside0 (kq ≤ k) ∧ Drawn0 w w')
  case atStart => exact ⟨(0),(by first | rfl | (simp;done) | (simp [*];done)),H',⟨Nat.le_refl _⟩,by repeat (first | exact Drawn0.refl _ | apply Drawn0.step)⟩
  case round =>
   clear H'
   try clear c1
   try clear p2
   try clear c3
   try clear c3b0
   try clear c3b1
   try clear c3b2
   obtain ⟨x5_1,rfl,HA,HK1,⟨m1,rfl⟩⟩ := hrel
   cases gk with
   | zero => exact absurd HA.out (by simp [verdererref05_Alike.l0])
   | succ k1 =>
    have H := HA.out
    clear HA
    simp only [verdererref05_Alike.l0] at H
    by_cases c4 : x5_1 < (l0.length : Int)
    ·rw [if_pos c4] at H
     have c4b0 : decide (x5_1 < (l0.length : Int)) = true := decide_eq_true c4
     clear c4
     by_cases c5 : 0 ≤ x5_1
     ·rw [if_pos c5] at H
      have c5b0 : decide (0 ≤ x5_1) = true := decide_eq_true c5
      clear c5
      by_cases c6 : x5_1 < (l1.length : Int)
      ·rw [if_pos c6] at H
       have c6b0 : decide (x5_1 < (l1.length : Int)) = true := decide_eq_true c6
       clear c6
       by_cases c7 : ((rd_T34 l0 x5_1).f1) = ((rd_T34 l1 x5_1).f1)
       ·rw [if_pos c7] at H
        have c7b0 : (((rd_T34 l0 x5_1).f1) == ((rd_T34 l1 x5_1).f1)) = true := beq_iff_eq.mpr c7
        have c7b1 : (((rd_T34 l0 x5_1).f1) != ((rd_T34 l1 x5_1).f1)) = false := bne_eq_false_iff_eq.mpr c7
        clear c7
        replace H := Option.bind_eq_some_iff.mp H
        obtain ⟨t173,A80,H⟩ := H
        replace H : (if t173 = true then (verdererref05_Alike.l0 k1 l0 l1 (wrap64 (x5_1 + 1))) else (some false)) = some r := H
        have A8 := Aside0.mk A80
        clear A80
        by_cases c9 : t173 = true
        ·subst c9
         have H1 : (verdererref05_Alike.l0 k1 l0 l1 (wrap64 (x5_1 + 1))) = some r := by rw [if_pos rfl] at H;exact H
         clear H
         have H := H1
         clear H1
         have H' := Aside0.mk H
         clear H
         have p169 : 0 ≤ (x5_1 : Int) := of_decide_eq_true (by first | (with_reducible assumption) | assumption)
         have q169 : x5_1 < (l0.length : Int) := of_decide_eq_true (by first | (with_reducible assumption) | assumption)
         obtain ⟨ad169,A169_0,c169_0,e169,hx169_0,hx169_1,hl169_0,hi169_0⟩ := at_T34 HR0.out x5_1 p169 q169
         cases e169
         have HR169_0 := Aside0.mk hi169_0
         have HC169_0 := Aside0.mk hl169_0
         clear hi169_0 hl169_0
         replace p169 := eq_true p169
         replace q169 := eq_true q169
         have p170 : 0 ≤ (x5_1 : Int) := of_decide_eq_true (by first | (with_reducible assumption) | assumption)
         have q170 : x5_1 < (l1.length : Int) := of_decide_eq_true (by first | (with_reducible assumption) | assumption)
         obtain ⟨ad170,A170_0,c170_0,e170,hx170_0,hx170_1,hl170_0,hi170_0⟩ := at_T34 HR1.out x5_1 p170 q170
         cases e170
         have HR170_0 := Aside0.mk hi170_0
         have HC170_0 := Aside0.mk hl170_0
         clear hi170_0 hl170_0
         replace p170 := eq_true p170
         replace q170 := eq_true q170
         have p171 : 0 ≤ (x5_1 : Int) := of_decide_eq_true (by first | (with_reducible assumption) | assumption)
         have q171 : x5_1 < (l0.length : Int) := of_decide_eq_true (by first | (with_reducible assumption) | assumption)
         obtain ⟨ad171,A171_0,c171_0,e171,hx171_0,hx171_1,hl171_0,hi171_0⟩ := at_T34 HR0.out x5_1 p171 q171
         obtain rfl : ad169 = ad171 := (by injection e171)
         have HR171_0 := Aside0.mk hi171_0
         have HC171_0 := Aside0.mk hl171_0
         clear hi171_0 hl171_0
         replace p171 := eq_true p171
         replace q171 := eq_true q171
         have ea_ := Option.some.inj (hx169_0.symm.trans hx171_0)
         injection ea_ with ea_ en_ ec_
         subst ea_
         subst ec_
         clear en_
         have p172 : 0 ≤ (x5_1 : Int) := of_decide_eq_true (by first | (with_reducible assumption) | assumption)
         have q172 : x5_1 < (l1.length : Int) := of_decide_eq_true (by first | (with_reducible assumption) | assumption)
         obtain ⟨ad172,A172_0,c172_0,e172,hx172_0,hx172_1,hl172_0,hi172_0⟩ := at_T34 HR1.out x5_1 p172 q172
         obtain rfl : ad170 = ad172 := (by injection e172)
         have HR172_0 := Aside0.mk hi172_0
         have HC172_0 := Aside0.mk hl172_0
         clear hi172_0 hl172_0
         replace p172 := eq_true p172
         replace q172 := eq_true q172
         have ea_ := Option.some.inj (hx170_0.symm.trans hx172_0)
         injection ea_ with ea_ en_ ec_
         subst ea_
         subst ec_
         clear en_
         go_wp2_with (first | (go_at_call 22;(with_reducible refine (verdererref02_Equal.calls k1 _ _ ((rd_T34 l0 x5_1).f0) _ _ ((rd_T34 l1 x5_1).f0) true _ ?side1 ?side2 ?side3 ?side4 A8.out).mono ?_);(case side1 => repeat (first | exact HR171_0.out | (with_reducible refine Kd.C_alloc ?_ _) | (with_reducible refine Kd.C_drewN ?_ _) | (with_reducible refine Kd.C_drew ?_)));(case side2 => exact HC171_0.out);(case side3 => repeat (first | exact HR172_0.out | (with_reducible refine Kd.C_alloc ?_ _) | (with_reducible refine Kd.C_drewN ?_ _) | (with_reducible refine Kd.C_drew ?_)));(case side4 => exact HC172_0.out);rintro e w' ⟨rfl,⟨nd,rfl⟩⟩;(try first | exact ⟨rfl,_,World.drewN_drewN _ _ _⟩ | exact ⟨rfl,_,Eq.trans (World.drewN_drewN _ _ _) (congrArg (World.drewN _) (Nat.add_assoc _ _ _))⟩)))
         repeat (go_quiet (first | (go_at_call 22;(with_reducible refine (verdererref02_Equal.calls k1 _ _ ((rd_T34 l0 x5_1).f0) _ _ ((rd_T34 l1 x5_1).f0) true _ ?side1 ?side2 ?side3 ?side4 A8.out).mono ?_);(case side1 => repeat (first | exact HR171_0.out | (with_reducible refine Kd.C_alloc ?_ _) | (with_reducible refine Kd.C_drewN ?_ _) | (with_reducible refine Kd.C_drew ?_)));(case side2 => exact HC171_0.out);(case side3 => repeat (first | exact HR172_0.out | (with_reducible refine Kd.C_alloc ?_ _) | (with_reducible refine Kd.C_drewN ?_ _) | (with_reducible refine Kd.C_drew ?_)));(case side4 => exact HC172_0.out);rintro e w' ⟨rfl,⟨nd,rfl⟩⟩;(try first | exact ⟨rfl,_,World.drewN_drewN _ _ _⟩ | exact ⟨rfl,_,Eq.trans (World.drewN_drewN _ _ _) (congrArg (World.drewN _) (Nat.add_assoc _ _ _))⟩)));try go_wp2_with (first | (go_at_call 22;(with_reducible refine (verdererref02_Equal.calls k1 _ _ ((rd_T34 l0 x5_1).f0) _ _ ((rd_T34 l1 x5_1).f0) true _ ?side1 ?side2 ?side3 ?side4 A8.out).mono ?_);(case side1 => repeat (first | exact HR171_0.out | (with_reducible refine Kd.C_alloc ?_ _) | (with_reducible refine Kd.C_drewN ?_ _) | (with_reducible refine Kd.C_drew ?_)));(case side2 => exact HC171_0.out);(case side3 => repeat (first | exact HR172_0.out | (with_reducible refine Kd.C_alloc ?_ _) | (with_reducible refine Kd.C_drewN ?_ _) | (with_reducible refine Kd.C_drew ?_)));(case side4 => exact HC172_0.out);rintro e w' ⟨rfl,⟨nd,rfl⟩⟩;(try first | exact ⟨rfl,_,World.drewN_drewN _ _ _⟩ | exact ⟨rfl,_,Eq.trans (World.drewN_drewN _ _ _) (congrArg (World.drewN _) (Nat.add_assoc _ _ _))⟩))))
         go_roundg k1
         case measure => have := HK1.out;omega
         case rel => exact ⟨(wrap64 (x5_1 + 1)),(by first | rfl | (simp;done) | (simp [*];done)),H',⟨by have := HK1.out;omega⟩,by repeat (first | exact Drawn0.refl _ | apply Drawn0.step)⟩
        ·replace c9 := Bool.eq_false_iff.mpr c9
         subst c9
         have H1 : (some false) = some r := by rw [if_neg (show ¬ (false = true) by decide)] at H;exact H
         clear H
         have H := H1
         clear H1
         obtain rfl := Option.some.inj H
         have p169 : 0 ≤ (x5_1 : Int) := of_decide_eq_true (by first | (with_reducible assumption) | assumption)
         have q169 : x5_1 < (l0.length : Int) := of_decide_eq_true (by first | (with_reducible assumption) | assumption)
         obtain ⟨ad169,A169_0,c169_0,e169,hx169_0,hx169_1,hl169_0,hi169_0⟩ := at_T34 HR0.out x5_1 p169 q169
         cases e169
         have HR169_0 := Aside0.mk hi169_0
         have HC169_0 := Aside0.mk hl169_0
         clear hi169_0 hl169_0
         replace p169 := eq_true p169
         replace q169 := eq_true q169
         have p170 : 0 ≤ (x5_1 : Int) := of_decide_eq_true (by first | (with_reducible assumption) | assumption)
         have q170 : x5_1 < (l1.length : Int) := of_decide_eq_true (by first | (with_reducible assumption) | assumption)
         obtain ⟨ad170,A170_0,c170_0,e170,hx170_0,hx170_1,hl170_0,hi170_0⟩ := at_T34 HR1.out x5_1 p170 q170
         cases e170
         have HR170_0 := Aside0.mk hi170_0
         have HC170_0 := Aside0.mk hl170_0
         clear hi170_0 hl170_0
         replace p170 := eq_true p170
         replace q170 := eq_true q170
         have p171 : 0 ≤ (x5_1 : Int) := of_decide_eq_true (by first | (with_reducible assumption) | assumption)
         have q171 : x5_1 < (l0.length : Int) := of_decide_eq_true (by first | (with_reducible assumption) | assumption)
         obtain ⟨ad171,A171_0,c171_0,e171,hx171_0,hx171_1,hl171_0,hi171_0⟩ := at_T34 HR0.out x5_1 p171 q171
         obtain rfl : ad169 = ad171 := (by injection e171)
         have HR171_0 := Aside0.mk hi171_0
         have HC171_0 := Aside0.mk hl171_0
         clear hi171_0 hl171_0
         replace p171 := eq_true p171
         replace q171 := eq_true q171
         have ea_ := Option.some.inj (hx169_0.symm.trans hx171_0)
         injection ea_ with ea_ en_ ec_
         subst ea_
         subst ec_
         clear en_
         have p172 : 0 ≤ (x5_1 : Int) := of_decide_eq_true (by first | (with_reducible assumption) | assumption)
         have q172 : x5_1 < (l1.length : Int) := of_decide_eq_true (by first | (with_reducible assumption) | assumption)
         obtain ⟨ad172,A172_0,c172_0,e172,hx172_0,hx172_1,hl172_0,hi172_0⟩ := at_T34 HR1.out x5_1 p172 q172
         obtain rfl : ad170 = ad172 := (by injection e172)
         have HR172_0 := Aside0.mk hi172_0
         have HC172_0 := Aside0.mk hl172_0
         clear hi172_0 hl172_0
         replace p172 := eq_true p172
         replace q172 := eq_true q172
         have ea_ := Option.some.inj (hx170_0.symm.trans hx172_0)
         injection ea_ with ea_ en_ ec_
         subst ea_
         subst ec_
         clear en_
         go_wp2_with (first | (go_at_call 22;(with_reducible refine (verdererref02_Equal.calls k1 _ _ ((rd_T34 l0 x5_1).f0) _ _ ((rd_T34 l1 x5_1).f0) false _ ?side1 ?side2 ?side3 ?side4 A8.out).mono ?_);(case side1 => repeat (first | exact HR171_0.out | (with_reducible refine Kd.C_alloc ?_ _) | (with_reducible refine Kd.C_drewN ?_ _) | (with_reducible refine Kd.C_drew ?_)));(case side2 => exact HC171_0.out);(case side3 => repeat (first | exact HR172_0.out | (with_reducible refine Kd.C_alloc ?_ _) | (with_reducible refine Kd.C_drewN ?_ _) | (with_reducible refine Kd.C_drew ?_)));(case side4 => exact HC172_0.out);rintro e w' ⟨rfl,⟨nd,rfl⟩⟩;(try first | exact ⟨rfl,_,World.drewN_drewN _ _ _⟩ | exact ⟨rfl,_,Eq.trans (World.drewN_drewN _ _ _) (congrArg (World.drewN _) (Nat.add_assoc _ _ _))⟩)))
         repeat (go_quiet (first | (go_at_call 22;(with_reducible refine (verdererref02_Equal.calls k1 _ _ ((rd_T34 l0 x5_1).f0) _ _ ((rd_T34 l1 x5_1).f0) false _ ?side1 ?side2 ?side3 ?side4 A8.out).mono ?_);(case side1 => repeat (first | exact HR171_0.out | (with_reducible refine Kd.C_alloc ?_ _) | (with_reducible refine Kd.C_drewN ?_ _) | (with_reducible refine Kd.C_drew ?_)));(case side2 => exact HC171_0.out);(case side3 => repeat (first | exact HR172_0.out | (with_reducible refine Kd.C_alloc ?_ _) | (with_reducible refine Kd.C_drewN ?_ _) | (with_reducible refine Kd.C_drew ?_)));(case side4 => exact HC172_0.out);rintro e w' ⟨rfl,⟨nd,rfl⟩⟩;(try first | exact ⟨rfl,_,World.drewN_drewN _ _ _⟩ | exact ⟨rfl,_,Eq.trans (World.drewN_drewN _ _ _) (congrArg (World.drewN _) (Nat.add_assoc _ _ _))⟩)));try go_wp2_with (first | (go_at_call 22;(with_reducible refine (verdererref02_Equal.calls k1 _ _ ((rd_T34 l0 x5_1).f0) _ _ ((rd_T34 l1 x5_1).f0) false _ ?side1 ?side2 ?side3 ?side4 A8.out).mono ?_);(case side1 => repeat (first | exact HR171_0.out | (with_reducible refine Kd.C_alloc ?_ _) | (with_reducible refine Kd.C_drewN ?_ _) | (with_reducible refine Kd.C_drew ?_)));(case side2 => exact HC171_0.out);(case side3 => repeat (first | exact HR172_0.out | (with_reducible refine Kd.C_alloc ?_ _) | (with_reducible refine Kd.C_drewN ?_ _) | (with_reducible refine Kd.C_drew ?_)));(case side4 => exact HC172_0.out);rintro e w' ⟨rfl,⟨nd,rfl⟩⟩;(try first | exact ⟨rfl,_,World.drewN_drewN _ _ _⟩ | exact ⟨rfl,_,Eq.trans (World.drewN_drewN _ _ _) (congrArg (World.drewN _) (Nat.add_assoc _ _ _))⟩))))
         go_ret
         exact ⟨by first | rfl | (simp;done) | (simp [*];done),by repeat (first | exact Drawn0.refl _ | apply Drawn0.step)⟩
       ·rw [if_neg c7] at H
        have c7b0 : (((rd_T34 l0 x5_1).f1) == ((rd_T34 l1 x5_1).f1)) = false := beq_eq_false_iff_ne.mpr c7
        have c7b1 : (((rd_T34 l0 x5_1).f1) != ((rd_T34 l1 x5_1).f1)) = true := bne_iff_ne.mpr c7
        obtain rfl := Option.some.inj H
        have p169 : 0 ≤ (x5_1 : Int) := of_decide_eq_true (by first | (with_reducible assumption) | assumption)
        have q169 : x5_1 < (l0.length : Int) := of_decide_eq_true (by first | (with_reducible assumption) | assumption)
        obtain ⟨ad169,A169_0,c169_0,e169,hx169_0,hx169_1,hl169_0,hi169_0⟩ := at_T34 HR0.out x5_1 p169 q169
        cases e169
        have HR169_0 := Aside0.mk hi169_0
        have HC169_0 := Aside0.mk hl169_0
        clear hi169_0 hl169_0
        replace p169 := eq_true p169
        replace q169 := eq_true q169
        have p170 : 0 ≤ (x5_1 : Int) := of_decide_eq_true (by first | (with_reducible assumption) | assumption)
        have q170 : x5_1 < (l1.length : Int) := of_decide_eq_true (by first | (with_reducible assumption) | assumption)
        obtain ⟨ad170,A170_0,c170_0,e170,hx170_0,hx170_1,hl170_0,hi170_0⟩ := at_T34 HR1.out x5_1 p170 q170
        cases e170
        have HR170_0 := Aside0.mk hi170_0
        have HC170_0 := Aside0.mk hl170_0
        clear hi170_0 hl170_0
        replace p170 := eq_true p170
        replace q170 := eq_true q170
        go_wp2
        repeat (go_quiet (fail);try go_wp2)
        go_ret
        exact ⟨by first | rfl | (simp;done) | (simp [*];done),by repeat (first | exact Drawn0.refl _ | apply Drawn0.step)⟩
      ·rw [if_neg c6] at H
       exact absurd H (by simp)
     ·rw [if_neg c5] at H
      exact absurd H (by simp)
    ·rw [if_neg c4] at H
     have c4b0 : decide (x5_1 < (l0.length : Int)) = false := decide_eq_false c4
     clear c4
     obtain rfl := Option.some.inj H
     go_wp2
     repeat (go_quiet (fail);try go_wp2)
     go_ret
     exact ⟨by first | rfl | (simp;done) | (simp [*];done),by repeat (first | exact Drawn0.refl _ | apply Drawn0.step)⟩
 ·rw [if_neg c3] at H
  have c3b0 : ((l0.length : Int) == (l1.length : Int)) = false := beq_eq_false_iff_ne.mpr c3
  have c3b1 : ((l0.length : Int) != (l1.length : Int)) = true := bne_iff_ne.mpr c3
  have c3b2 : (l0.length == l1.length) = false := by first | simpa using c3 | (simp at c3 ⊢;omega)
  obtain rfl := Option.some.inj H
  go_enter Try.func31,Try.ntmps31
  go_wp2
  repeat (go_quiet (fail);try go_wp2)
  go_ret
  exact ⟨by first | rfl | (simp;done) | (simp [*];done),by repeat (first | exact Drawn0.refl _ | apply Drawn0.step)⟩
end Go.Proofs.Ythmbfcfomcaaaaa.Z
end
section
namespace Go.Proofs.Ythmbfcfomcaaaaa.Z
set_option linter.unusedVariables false
set_option linter.unusedSimpArgs false
open Go.RowKit Go.Proofs.YthmbfcfomcaaaaaW.PrintWords Go.Proofs.YthmbfcfomcaaaaaW.PrintLast Go.Proofs.YthmbfcfomcaaaaaW.PrintMore Go.Proofs.Ythmbfcfomcaaaaa.Cmp
structure EnsC (w : World) (A : Option Addr) (c : Nat) (L : List En) : Prop where
 cap : L.length ≤ c
 row : Kd.C k34 w A L.length L
theorem EnsC.below {w w1 : World} {A : Option Addr} {c : Nat} {L : List En} (h : EnsC w A c L) (hb : Below w.heap.size w w1) : EnsC w1 A c L := ⟨h.cap,Kd.C_below h.row hb⟩
theorem rd_at (xs : List En) (i : Nat) : rd_T34 xs (i : Int) = xs.getD i z34 := rfl
end Go.Proofs.Ythmbfcfomcaaaaa.Z
end
section
namespace Go.Proofs.Ythmbfcfomcaaaaa.Z
set_option linter.unusedVariables false
set_option linter.unusedSimpArgs false
open Go.RowKit Go.Proofs.YthmbfcfomcaaaaaW.PrintWords Go.Proofs.YthmbfcfomcaaaaaW.PrintLast Go.Proofs.YthmbfcfomcaaaaaW.PrintMore Go.Proofs.Ythmbfcfomcaaaaa.Cmp
structure SameW (w w' : World) : Prop where
 heap : w'.heap = w.heap
 os : w'.os = w.os
 tape : w'.tape = w.tape
 output : w'.output = w.output
structure NextW (N : Nat) (w w' : World) : Prop where
 below : Below N w w'
 le : N ≤ w'.heap.size
theorem NextW.refl (w : World) : NextW w.heap.size w w := ⟨Below.refl _ _,Nat.le_refl _⟩
theorem NextW.next {N : Nat} {w w1 w2 W : World} (h : NextW N w w1) (hb : Below W.heap.size W w2) (e : SameW w1 W := by exact ⟨rfl,rfl,rfl,rfl⟩) : NextW N w w2 := by
 have h1 : Below N w W := ⟨e.os.trans h.below.os,e.tape.trans h.below.tape,e.output.trans h.below.output,by rw [e.heap];exact h.below.size,fun k hk => by rw [e.heap];exact h.below.block k hk⟩
 have hs : N ≤ W.heap.size := by rw [e.heap];exact h.le
 exact ⟨h1.trans (hb.mono hs),Nat.le_trans hs hb.size⟩
theorem NextW.nextN {N : Nat} {w w1 w2 W : World} (h : NextW N w w1) (hb : Below N W w2) (e : SameW w1 W := by exact ⟨rfl,rfl,rfl,rfl⟩) : NextW N w w2 := by
 have h1 : Below N w W := ⟨e.os.trans h.below.os,e.tape.trans h.below.tape,e.output.trans h.below.output,by rw [e.heap];exact h.below.size,fun k hk => by rw [e.heap];exact h.below.block k hk⟩
 have hs : N ≤ W.heap.size := by rw [e.heap];exact h.le
 exact ⟨h1.trans hb,Nat.le_trans hs hb.size⟩
theorem NextW.at_ {N : Nat} {w w1 W : World} (h : NextW N w w1) (e : SameW w1 W := by exact ⟨rfl,rfl,rfl,rfl⟩) : Below N w W :=
 ⟨e.os.trans h.below.os,e.tape.trans h.below.tape,e.output.trans h.below.output,by rw [e.heap];exact h.below.size,fun k hk => by rw [e.heap];exact h.below.block k hk⟩
theorem SameW.below {w W : World} (e : SameW w W) (N : Nat) : Below N w W := ⟨e.os,e.tape,e.output,by rw [e.heap];exact Nat.le_refl _,fun k _ => by rw [e.heap]⟩
theorem SameW.refl (w : World) : SameW w w := ⟨rfl,rfl,rfl,rfl⟩
theorem SameW.drew (w : World) : SameW w w.drew := ⟨rfl,rfl,rfl,rfl⟩
theorem SameW.drewN (w : World) (n : Nat) : SameW w (w.drewN n) := ⟨rfl,rfl,rfl,rfl⟩
theorem alike_l0 (L : List En) (hm : ∀ x ∈ L,x.f0.length ≤ 1000000) (hl : L.length ≤ 1000000) : ∀ d i k,L.length - i = d → i ≤ L.length → d + 1000001 < k → verdererref05_Alike.l0 k L L (i : Int) = some true := by
 intro d
 induction d with
 | zero =>
  intro i k hd hi hk
  obtain ⟨k,rfl⟩ : ∃ m,k = m + 1 := ⟨k - 1,by omega⟩
  simp only [verdererref05_Alike.l0]
  rw [if_neg (by omega)]
 | succ d ih =>
  intro i k hd hi hk
  obtain ⟨k,rfl⟩ : ∃ m,k = m + 1 := ⟨k - 1,by omega⟩
  simp only [verdererref05_Alike.l0]
  have h1 : (rd_T34 L (i : Int)).f0.length ≤ 1000000 := by
   rw [rd_at]
   have e : L.getD i z34 = L[i]'(by omega) := by simp [List.getD,List.getElem?_eq_getElem (show i < L.length by omega)]
   rw [e]
   exact hm _ (List.getElem_mem _)
  rw [if_pos (by omega),if_pos (by omega),if_pos (by omega),if_pos trivial,equal_self _ (by omega) k (by omega),Option.bind_some,if_pos rfl,show wrap64 ((i : Int) + 1) = ((i + 1 : Nat) : Int) by unfold wrap64;omega]
  exact ih (i + 1) k (by omega) (by omega) (by omega)
theorem OkD.len {L : List En} (h : OkD L) : ∀ x ∈ L,x.f0.length ≤ 1000000 := fun x hx => by have := right_len (h x hx).1;omega
theorem alike_at (A0 A1 : Option Addr) (n c0 c1 : Nat) (L : List En) (w : World) (h0 : Kd.C k34 w A0 n L) (h1 : Kd.C k34 w A1 n L) (hc0 : n ≤ c0) (hc1 : n ≤ c1) (hk : OkD L) (hl : n ≤ 1000000) :
  Calls Try.prog 31 #[.slice A0 n c0,.slice A1 n c1] w fun e w' => e = .returned (.bool true) ∧ Below w.heap.size w w' := by
 have e : L.length = n := h0.1
 subst e
 refine (verdererref05_Alike.calls (L.length + 2000000) A0 c0 L A1 c1 L true w h0 hc0 h1 hc1 ?_).mono ?_
 ·unfold verdererref05_Alike.f
  rw [if_pos rfl]
  exact alike_l0 L hk.len hl L.length 0 _ (by omega) (by omega) (by omega)
 ·rintro e w' ⟨rfl,hd⟩
  exact ⟨rfl,hd.below⟩
structure Two (N : Nat) (w : World) (b : Nat) (t : Tr) (D : Nat → Prop) (g : Nat) (A : Option Addr) (c : Nat) (L : List En) (E : Nat → Prop) : Prop where
 bag : BagAt w b t D
 ref : RefV w g A c L E
 own : ∀ k,BagOwn b t D k → N ≤ k ∧ k ≠ g ∧ ¬ E k
 g_le : N ≤ g
 e_le : ∀ k,E k → N ≤ k
theorem BagAt.own_lt {w : World} {b : Nat} {t : Tr} {D : Nat → Prop} (h : BagAt w b t D) : ∀ k,BagOwn b t D k → k < w.heap.size := fun k hk => by
 rcases hk with rfl | q | q
 ·exact h.lt.1
 ·exact h.lt.2.1 k q
 ·exact h.lt.2.2 k q
theorem Two.below {N : Nat} {w w1 : World} {b : Nat} {t : Tr} {D : Nat → Prop} {g : Nat} {A : Option Addr} {c : Nat} {L : List En} {E : Nat → Prop} (h : Two N w b t D g A c L E) (hb : Below w.heap.size w w1) : Two N w1 b t D g A c L E :=
 ⟨h.bag.below hb,h.ref.below hb,h.own,h.g_le,h.e_le⟩
theorem Two.heap {N : Nat} {w w1 : World} {b : Nat} {t : Tr} {D : Nat → Prop} {g : Nat} {A : Option Addr} {c : Nat} {L : List En} {E : Nat → Prop} (h : Two N w b t D g A c L E) (e : SameW w w1 := by exact ⟨rfl,rfl,rfl,rfl⟩) : Two N w1 b t D g A c L E :=
 h.below ⟨e.os,e.tape,e.output,by rw [e.heap];exact Nat.le_refl _,fun k _ => by rw [e.heap]⟩
end Go.Proofs.Ythmbfcfomcaaaaa.Z
end
section
namespace Go.Proofs.Ythmbfcfomcaaaaa.Z
set_option linter.unusedVariables false
set_option linter.unusedSimpArgs false
open Go.RowKit Go.Proofs.YthmbfcfomcaaaaaW.PrintWords Go.Proofs.YthmbfcfomcaaaaaW.PrintLast Go.Proofs.YthmbfcfomcaaaaaW.PrintMore Go.Proofs.Ythmbfcfomcaaaaa.Cmp
theorem row_one {w : World} {g q : Nat} {x : S66} (h : w.heap[g]? = some (.cells #[.int .i64 x.f0,.bool x.f1,.int .i64 x.f2,.string x.f3] q (0,0))) : RowC w (some ⟨g,0,none⟩) 1 [x] :=
 ⟨Nat.le_refl 1,rfl,by simp,fun _ => ⟨_,rfl,fun j p hj => by
  cases j with
  | succ j => simp at hj
  | zero =>
   simp only [List.getElem?_cons_zero,Option.some.injEq] at hj
   subst hj
   refine ⟨_,rfl,k66_mk w x,fun i u hi => ?_⟩
   rw [Nat.zero_mul,Nat.zero_add,add_plain]
   have h1 := q0d h i
   rw [h1,← hi]
   simp⟩⟩
structure One (N : Nat) (w : World) (b : Nat) (t : Tr) (D : Nat → Prop) : Prop where
 bag : BagAt w b t D
 own : ∀ k,BagOwn b t D k → N ≤ k
theorem One.below {N : Nat} {w w1 : World} {b : Nat} {t : Tr} {D : Nat → Prop} (h : One N w b t D) (hb : Below w.heap.size w w1) : One N w1 b t D := ⟨h.bag.below hb,h.own⟩
def Off (w w' : World) (o o' : Nat → Prop) : Prop := ∀ k,k < w.heap.size → ¬ o k → w'.heap[k]? = w.heap[k]? ∧ ¬ o' k
theorem BagCh.off {w w' : World} {b : Nat} {t t' : Tr} {D D' : Nat → Prop} (h : BagCh w w' b t t' D D') : Off w w' (BagOwn b t D) (BagOwn b t' D') := fun k hk hn =>
 ⟨h.ch.block k hk (fun s => hn (s.elim .inl (fun q => .inr (.inl q)))),fun ho => (h.own k ho).elim hn (fun q => by omega)⟩
structure Lit (w : World) (o : Nat → Prop) (g : Nat) (x : S66) : Prop where
 blk : w.heap[g]? = some (.cells #[.int .i64 x.f0,.bool x.f1,.int .i64 x.f2,.string x.f3] 66 (0,0))
 off : ¬ o g
theorem Lit.step {w w' : World} {o o' : Nat → Prop} {g : Nat} {x : S66} (h : Lit w o g x) (k : Off w w' o o') : Lit w' o' g x := ⟨(k g (blk_lt h.blk) h.off).1.trans h.blk,(k g (blk_lt h.blk) h.off).2⟩
theorem Lit.below {w w' : World} {o : Nat → Prop} {g : Nat} {x : S66} (h : Lit w o g x) (k : Below w.heap.size w w') : Lit w' o g x := ⟨(k.block g (blk_lt h.blk)).trans h.blk,h.off⟩
theorem Lit.row {w : World} {o : Nat → Prop} {g : Nat} {x : S66} (h : Lit w o g x) : RowC w (some ⟨g,0,none⟩) 1 [x] := row_one h.blk
end Go.Proofs.Ythmbfcfomcaaaaa.Z
end
section
namespace Go.Proofs.Ythmbfcfomcaaaaa.Z
open Go.RowKit Go.Proofs.YthmbfcfomcaaaaaW.PrintWords Go.Proofs.YthmbfcfomcaaaaaW.PrintLast Go.Proofs.YthmbfcfomcaaaaaW.PrintMore
attribute [local go_sem] max2_int min2_int max_two min_two max_three min_three max_four min_four
set_option linter.unusedVariables false
set_option linter.unusedSimpArgs false
def row_Same.f (k : Nat) (l0 : List (S66)) (l1 : List (S66)) : Option (Bool) := (row_Compare.f k l0 l1).bind fun t146 => (some (t146 == 0))
theorem row_Same.mono : ∀ a0 a1 k,LeO (row_Same.f k a0 a1) (row_Same.f (k + 1) a0 a1) := by
 intro a0 a1 k
 unfold row_Same.f
 repeat' first
   | (with_reducible exact row_Compare.mono _ _ _)
   | (with_reducible exact LeO.refl _)
   | (with_reducible exact LeO.none _)
   | (with_reducible refine LeO.ite ?_ ?_)
   | (with_reducible refine LeO.bind ?_ (fun _ => ?_))
   | exact row_Compare.mono _ _ _
   | exact LeO.none _
   | refine LeO.ite ?_ ?_
   | refine LeO.bind ?_ (fun _ => ?_)
end Go.Proofs.Ythmbfcfomcaaaaa.Z
end
section
namespace Go.Proofs.Ythmbfcfomcaaaaa.Z
open Go.RowKit Go.Proofs.YthmbfcfomcaaaaaW.PrintWords Go.Proofs.YthmbfcfomcaaaaaW.PrintLast Go.Proofs.YthmbfcfomcaaaaaW.PrintMore
attribute [local go_sem] max2_int min2_int max_two min_two max_three min_three max_four min_four
set_option linter.unusedVariables false
set_option linter.unusedSimpArgs false
def bag_Same_1.f (k : Nat) (l0_0 : List (S66)) (a0_1 : Int) (l1_0 : List (S66)) (a1_1 : Int) : Option (Bool) := if a0_1 = a1_1 then ((row_Same.f k l0_0 l1_0).bind fun t229 => (some t229)) else (some false)
theorem bag_Same_1.mono : ∀ a0 a1 a2 a3 k,LeO (bag_Same_1.f k a0 a1 a2 a3) (bag_Same_1.f (k + 1) a0 a1 a2 a3) := by
 intro a0 a1 a2 a3 k
 unfold bag_Same_1.f
 repeat' first
   | (with_reducible exact row_Same.mono _ _ _)
   | (with_reducible exact LeO.refl _)
   | (with_reducible exact LeO.none _)
   | (with_reducible refine LeO.ite ?_ ?_)
   | (with_reducible refine LeO.bind ?_ (fun _ => ?_))
   | exact row_Same.mono _ _ _
   | exact LeO.none _
   | refine LeO.ite ?_ ?_
   | refine LeO.bind ?_ (fun _ => ?_)
end Go.Proofs.Ythmbfcfomcaaaaa.Z
end
section
namespace Go.Proofs.Ythmbfcfomcaaaaa.Z
open Go.RowKit Go.Proofs.YthmbfcfomcaaaaaW.PrintWords Go.Proofs.YthmbfcfomcaaaaaW.PrintLast Go.Proofs.YthmbfcfomcaaaaaW.PrintMore
attribute [local go_sem] max2_int min2_int max_two min_two max_three min_three max_four min_four
set_option linter.unusedVariables false
set_option linter.unusedSimpArgs false
def slices_EqualFunc.l0 : Nat → List (S34) → List (S34) → Int → Int → Option (Bool)
 | 0,_,_,_,_ => none
 | k + 1,x1,x15,x16,x17 => if x17 < x16 then (if 0 ≤ x17 then (if x17 < (x15.length : Int) then (if x17 < (x1.length : Int) then ((bag_Same_1.f k ((rd_T34 x15 x17).f0) ((rd_T34 x15 x17).f1) ((rd_T34 x1 x17).f0) ((rd_T34 x1 x17).f1)).bind fun t234 => (if t234 = true then (slices_EqualFunc.l0 k x1 x15 x16 (wrap64 (x17 + 1))) else (some false))) else (none)) else (none)) else (none)) else (some true)
def slices_EqualFunc.f (k : Nat) (l0 : List (S34)) (l1 : List (S34)) (a2 : Int) : Option (Bool) := if (l0.length : Int) = (l1.length : Int) then (slices_EqualFunc.l0 k l1 l0 (l0.length : Int) 0) else (some false)
theorem slices_EqualFunc.mono_l : ∀ k,(∀ y0 y1 y2 y3,LeO (slices_EqualFunc.l0 k y0 y1 y2 y3) (slices_EqualFunc.l0 (k + 1) y0 y1 y2 y3))
 | 0 => fun _ _ _ _ r h => by simp [slices_EqualFunc.l0] at h
 | k + 1 => by
  have ih0 := slices_EqualFunc.mono_l k
  ·intro y0 y1 y2 y3
   unfold slices_EqualFunc.l0
   repeat' first
   | (with_reducible exact ih0 _ _ _ _)
   | (with_reducible exact bag_Same_1.mono _ _ _ _ _)
   | (with_reducible exact LeO.refl _)
   | (with_reducible exact LeO.none _)
   | (with_reducible refine LeO.ite ?_ ?_)
   | (with_reducible refine LeO.bind ?_ (fun _ => ?_))
   | exact ih0 _ _ _ _
   | exact bag_Same_1.mono _ _ _ _ _
   | exact LeO.none _
   | refine LeO.ite ?_ ?_
   | refine LeO.bind ?_ (fun _ => ?_)
theorem slices_EqualFunc.mono : ∀ a0 a1 a2 k,LeO (slices_EqualFunc.f k a0 a1 a2) (slices_EqualFunc.f (k + 1) a0 a1 a2) := by
 intro a0 a1 a2 k
 have ih0 := slices_EqualFunc.mono_l k
 unfold slices_EqualFunc.f
 repeat' first
   | (with_reducible exact ih0 _ _ _ _)
   | (with_reducible exact bag_Same_1.mono _ _ _ _ _)
   | (with_reducible exact LeO.refl _)
   | (with_reducible exact LeO.none _)
   | (with_reducible refine LeO.ite ?_ ?_)
   | (with_reducible refine LeO.bind ?_ (fun _ => ?_))
   | exact ih0 _ _ _ _
   | exact bag_Same_1.mono _ _ _ _ _
   | exact LeO.none _
   | refine LeO.ite ?_ ?_
   | refine LeO.bind ?_ (fun _ => ?_)
end Go.Proofs.Ythmbfcfomcaaaaa.Z
end
section
namespace Go.Proofs.Ythmbfcfomcaaaaa.Z
set_option linter.unusedVariables false
set_option linter.unusedSimpArgs false
open Go.RowKit Go.Proofs.YthmbfcfomcaaaaaW.PrintWords Go.Proofs.YthmbfcfomcaaaaaW.PrintLast Go.Proofs.YthmbfcfomcaaaaaW.PrintMore Go.Proofs.Ythmbfcfomcaaaaa.Cmp
theorem rows_nil (w : World) : Calls Try.prog 34 #[.pointer none] w fun e w' => e = .returned (.slice none 0 0) ∧ w = w' := by
 go_enter Try.func34,Try.ntmps34
 go_wp2
 go_ret
 exact ⟨rfl,rfl⟩
end Go.Proofs.Ythmbfcfomcaaaaa.Z
end
section
namespace Go.Proofs.Ythmbfcfomcaaaaa.Z
set_option linter.unusedVariables false
set_option linter.unusedSimpArgs false
open Go.RowKit Go.Proofs.YthmbfcfomcaaaaaW.PrintWords Go.Proofs.YthmbfcfomcaaaaaW.PrintLast Go.Proofs.YthmbfcfomcaaaaaW.PrintMore Go.Proofs.Ythmbfcfomcaaaaa.Cmp
end Go.Proofs.Ythmbfcfomcaaaaa.Z
end
section
namespace Go.Proofs.Ythmbfcfomcaaaaa.Z
set_option linter.unusedVariables false
set_option linter.unusedSimpArgs false
open Go.RowKit Go.Proofs.YthmbfcfomcaaaaaW.PrintWords Go.Proofs.YthmbfcfomcaaaaaW.PrintLast Go.Proofs.YthmbfcfomcaaaaaW.PrintMore Go.Proofs.Ythmbfcfomcaaaaa.Cmp
theorem rdV_get {L : Rw} {i : Nat} (hi : i < L.length) : q0f L (i : Int) = L[i] := by
 show L.getD i z66 = _
 simp [List.getD,List.getElem?_eq_getElem hi]
end Go.Proofs.Ythmbfcfomcaaaaa.Z
end
section
namespace Go.Proofs.Ythmbfcfomcaaaaa.Z
open Go.RowKit Go.Proofs.YthmbfcfomcaaaaaW.PrintWords Go.Proofs.YthmbfcfomcaaaaaW.PrintLast Go.Proofs.YthmbfcfomcaaaaaW.PrintMore
attribute [local go_sem] max2_int min2_int max_two min_two max_three min_three max_four min_four
set_option linter.unusedVariables false
set_option linter.unusedSimpArgs false
mutual
def pack_Value.l0 : Nat → List Int → Int → Int → Bool → Int → ByteArray → Option (List Int)
 | 0,_,_,_,_,_,_ => none
 | k + 1,x3,x4,x242000,x242001,x242002,x242003 => if x4 ≥ 0 then (if 0 ≤ (wrap64 (8 * x4)) then (if x3.length < 140737488355328 then (pack_Value.l0 k (x3 ++ [(shr .u64 (Go.bits .xor .u64 (IntKind.u64.wrap (x242002)) 9223372036854775808) (wrap64 (8 * x4))) % 256]) (wrap64 (x4 - 1)) x242000 x242001 x242002 x242003) else (none)) else (none)) else (some x3)
def pack_Value.l1 : Nat → List Int → Int → Int → Int → Bool → Int → ByteArray → Option (List Int)
 | 0,_,_,_,_,_,_,_ => none
 | k + 1,x5,x42,x43,x242000,x242001,x242002,x242003 => if x43 < x42 then (if 0 ≤ x43 then (if x43 < (x242003.size : Int) then (if x5.length < 140737488355328 then ((some (x5 ++ [bt x242003 x43] : List Int)).bind fun y258 => (if (bt x242003 x43) = 0 then (if y258.length < 140737488355328 then (pack_Value.l1 k (y258 ++ [255]) x42 (wrap64 (x43 + 1)) x242000 x242001 x242002 x242003) else (none)) else (pack_Value.l1 k y258 x42 (wrap64 (x43 + 1)) x242000 x242001 x242002 x242003))) else (none)) else (none)) else (none)) else ((some (([0,1] : List Int) : List Int)).bind fun y264 => (if x5.length + y264.length < 140737488355328 then (some (x5 ++ y264)) else (none)))
end
def pack_Value.f (k : Nat) (a0_0 : Int) (a0_1 : Bool) (a0_2 : Int) (a0_3 : ByteArray) : Option (List Int) := (value_Right.f a0_0 a0_1 a0_2 a0_3).bind fun t242 => (if t242 = true then (if a0_0 = 1 then (if a0_1 = true then (some (([2,1] : List Int))) else (some (([2,0] : List Int)))) else (if a0_0 = 2 then (pack_Value.l0 k (([3] : List Int)) 7 a0_0 a0_1 a0_2 a0_3) else (if a0_0 = 3 then (pack_Value.l1 k (([4] : List Int)) (a0_3.size : Int) 0 a0_0 a0_1 a0_2 a0_3) else (some (([1] : List Int)))))) else (some ([] : List Int)))
set_option maxHeartbeats 8000000 in
set_option maxRecDepth 100000 in
theorem pack_Value.calls (k : Nat) (a0_0 : Int) (a0_1 : Bool) (a0_2 : Int) (a0_3 : ByteArray) (r : List Int) (w : World) (h : pack_Value.f k a0_0 a0_1 a0_2 a0_3 = some r) :
  Calls Try.prog 100 #[.agg #[.int .i64 a0_0,.bool a0_1,.int .i64 a0_2,.string a0_3]] w fun e w' => ∃ v0_ : Value,e = .returned (v0_) ∧ Kd.R (Kd.int .u8) 5 w' w.heap.size (fun _ => True) v0_ r ∧ Below w.heap.size w w' := by
 have hu66 := Try.underlying66
 have HB := Aside0.mk (Below.refl w.heap.size w)
 have H : ((value_Right.f a0_0 a0_1 a0_2 a0_3).bind fun t242 => (if t242 = true then (if a0_0 = 1 then (if a0_1 = true then (some (([2,1] : List Int))) else (some (([2,0] : List Int)))) else (if a0_0 = 2 then (pack_Value.l0 k (([3] : List Int)) 7 a0_0 a0_1 a0_2 a0_3) else (if a0_0 = 3 then (pack_Value.l1 k (([4] : List Int)) (a0_3.size : Int) 0 a0_0 a0_1 a0_2 a0_3) else (some (([1] : List Int)))))) else (some ([] : List Int)))) = some r := h
 clear h
 replace H := Option.bind_eq_some_iff.mp H
 obtain ⟨t242,A20,H⟩ := H
 replace H : (if t242 = true then (if a0_0 = 1 then (if a0_1 = true then (some (([2,1] : List Int))) else (some (([2,0] : List Int)))) else (if a0_0 = 2 then (pack_Value.l0 k (([3] : List Int)) 7 a0_0 a0_1 a0_2 a0_3) else (if a0_0 = 3 then (pack_Value.l1 k (([4] : List Int)) (a0_3.size : Int) 0 a0_0 a0_1 a0_2 a0_3) else (some (([1] : List Int)))))) else (some ([] : List Int))) = some r := H
 have A2 := Aside0.mk A20
 clear A20
 by_cases c3 : t242 = true
 ·subst c3
  have H1 : (if a0_0 = 1 then (if a0_1 = true then (some (([2,1] : List Int))) else (some (([2,0] : List Int)))) else (if a0_0 = 2 then (pack_Value.l0 k (([3] : List Int)) 7 a0_0 a0_1 a0_2 a0_3) else (if a0_0 = 3 then (pack_Value.l1 k (([4] : List Int)) (a0_3.size : Int) 0 a0_0 a0_1 a0_2 a0_3) else (some (([1] : List Int)))))) = some r := by rw [if_pos rfl] at H;exact H
  clear H
  have H := H1
  clear H1
  by_cases c4 : a0_0 = 1
  ·rw [if_pos c4] at H
   have c4b0 : (a0_0 == 1) = true := beq_iff_eq.mpr c4
   have c4b1 : (a0_0 != 1) = false := bne_eq_false_iff_eq.mpr c4
   clear c4
   by_cases c5 : a0_1 = true
   ·subst c5
    have H1 : (some (([2,1] : List Int))) = some r := by rw [if_pos rfl] at H;exact H
    clear H
    have H := H1
    clear H1
    obtain ⟨y243,hy243⟩ : ∃ y_ : List Int,y_ = (([2,1] : List Int)) := ⟨_,rfl⟩
    replace H : (some y243) = some r := by first | (rw [hy243];with_reducible exact H) | (have H2_ := (Option.bind_some _ _).symm.trans H;rw [hy243];with_reducible exact H2_) | (have H2_ := (Option.bind_some _ _).symm.trans H;with_reducible exact H2_) | with_reducible exact H | (rw [hy243];exact H) | exact H
    have Ny243 := Aside0.mk hy243
    clear hy243
    obtain rfl := Option.some.inj H
    go_enter Try.func100,Try.ntmps100
    go_wp2_with (first | ((with_reducible refine q0p (N := 1) rfl ?_);refine q0o ?hg (N := 1) ?hd (cs := #[.int .i64 a0_0,.bool true,.int .i64 a0_2,.string a0_3]) (t := 66) ?hr ?_;(case hd => rfl);(case hg => rfl);(case hr => first | (go_simp;done) | (go_simp;rfl));intro gb241 hg w6 hbox hb;have n0_ := Aside0.mk (q0n (by repeat (first | (with_reducible first | exact HB.out | apply q0b | apply q0a | apply q0c) | exact HB.out)) hb);have n1_ := Aside0.mk (hbox);have n2_ := Aside0.mk ((by rw [hg];exact (q0g (by repeat (first | (with_reducible first | exact HB.out | apply q0b | apply q0a | apply q0c) | exact HB.out))) : w.heap.size ≤ gb241));have n3_ := Aside0.mk ((by rw [hg];exact (q0g (by repeat (first | (with_reducible first | exact HB.out | apply q0b | apply q0a | apply q0c) | exact HB.out))) : w.heap.size ≤ gb241));clear HB;have HB := n0_;have BK241 := n1_;have GW241 := n2_;have GE241 := n3_;clear n0_ n1_ n2_ n3_;clear hb hbox hg;have hcz7_0 : w6.cell? ⟨gb241,0,none⟩ = some (.int .i64 a0_0) := (q0d BK241.out 0).trans rfl;have hcz7_1 : w6.cell? ⟨gb241,1,none⟩ = some (.bool true) := (q0d BK241.out 1).trans rfl;have hcz7_2 : w6.cell? ⟨gb241,2,none⟩ = some (.int .i64 a0_2) := (q0d BK241.out 2).trans rfl;have hcz7_3 : w6.cell? ⟨gb241,3,none⟩ = some (.string a0_3) := (q0d BK241.out 3).trans rfl;have hfz7_0 := q0e BK241.out 0;have hfz7_1 := q0e BK241.out 1;have hfz7_2 := q0e BK241.out 2;have hfz7_3 := q0e BK241.out 3) | ((with_reducible refine q0u (f := 92) rfl ?_);refine goesL_ (some 8) rfl rfl Try.func92 (by kernel_rfl) rfl #[.agg #[.int .i64 a0_0,.bool true,.int .i64 a0_2,.string a0_3]] rfl (by (try simp only [List.map_toArray,List.map_cons,List.map_nil]);first | done | rfl | (simp only [List.length_drop,List.length_take];rfl)) ?_;(with_reducible refine (value_Right.calls a0_0 true a0_2 a0_3 true _ A2.out).mono ?_);rintro e w8 ⟨rfl,hb⟩;refine ⟨_,rfl,?_⟩;have n0_ := Aside0.mk (q0s (g := gb241) (o := .cells #[.int .i64 a0_0,.bool true,.int .i64 a0_2,.string a0_3] 66 (0,0)) (by (with_reducible repeat (first | refine q0j ?_ _ | refine q0k ?_ | refine q0h ?_ _));exact BK241.out) hb);have n1_ := Aside0.mk (q0n (by repeat (first | (with_reducible first | exact HB.out | apply q0b | apply q0a | apply q0c | refine q0i ?_ GE241.out) | exact HB.out)) hb);clear BK241;clear HB;have BK241 := n0_;have HB := n1_;clear n0_ n1_;(try clear hb);(try clear hb2);(try clear hk);(try clear hi);have hcz9_0 : w8.cell? ⟨gb241,0,none⟩ = some (.int .i64 a0_0) := (q0d BK241.out 0).trans rfl;have hcz9_1 : w8.cell? ⟨gb241,1,none⟩ = some (.bool true) := (q0d BK241.out 1).trans rfl;have hcz9_2 : w8.cell? ⟨gb241,2,none⟩ = some (.int .i64 a0_2) := (q0d BK241.out 2).trans rfl;have hcz9_3 : w8.cell? ⟨gb241,3,none⟩ = some (.string a0_3) := (q0d BK241.out 3).trans rfl;have hfz9_0 := q0e BK241.out 0;have hfz9_1 := q0e BK241.out 1;have hfz9_2 := q0e BK241.out 2;have hfz9_3 := q0e BK241.out 3) | ((with_reducible refine q0p (N := 16) rfl ?_);refine Kd.R_lit (Kd.int .u8) _ 5 ?hg (N := 16) ?hd (xs := ([2,1] : List Int)) (inner := [.int .u8 2,.int .u8 1]) (ok := fun _ => True) (okp := fun _ => True) ?hr ?hp (fun _ hk => hk) trivial (Below.refl _ _) (Nat.le_refl _) (by simp) ?_;(case hd => rfl);(case hg => rfl);(case hr => first | (go_simp;done) | (go_simp;rfl));(case hp => exact (Reps.one (show Kd.M (Kd.int .u8) _ _ _ 2 [.int .u8 2] from rfl) (Reps.one (show Kd.M (Kd.int .u8) _ _ _ 1 [.int .u8 1] from rfl) (Reps.none _ _))));intro v244 w10 ho11 hb hg_ hnew_;clear hg_ hnew_;(first | rw [← Ny243.out] at ho11 | (simp only [Int.reduceToNat] at ho11;rw [← Ny243.out] at ho11));have n0_ := Aside0.mk (Kd.R_lower ho11 (q0g (by repeat (first | (with_reducible first | exact HB.out | apply q0b | apply q0a | apply q0c | refine q0i ?_ GE241.out) | exact HB.out))));have n1_ := Aside0.mk (q0s (g := gb241) (o := .cells #[.int .i64 a0_0,.bool true,.int .i64 a0_2,.string a0_3] 66 (0,0)) (by (with_reducible repeat (first | refine q0j ?_ _ | refine q0k ?_ | refine q0h ?_ _));exact BK241.out) hb);have n2_ := Aside0.mk (q0n (by repeat (first | (with_reducible first | exact HB.out | apply q0b | apply q0a | apply q0c | refine q0i ?_ GE241.out) | exact HB.out)) hb);clear BK241;clear HB;have HO245 := n0_;have BK241 := n1_;have HB := n2_;clear n0_ n1_ n2_;clear hb ho11))
    go_ret
    exact ⟨_,by first | rfl | (simp [q0m,q0l] <;> rfl) | (simp [*,q0m,q0l] <;> rfl),by (with_reducible repeat (first | apply Kd.R_alloc | apply Kd.R_drewN | apply Kd.R_drew));exact HO245.out,by repeat (first | (with_reducible first | exact HB.out | apply q0b | apply q0a | apply q0c | refine q0i ?_ GE241.out) | exact HB.out)⟩
   ·replace c5 := Bool.eq_false_iff.mpr c5
    subst c5
    have H1 : (some (([2,0] : List Int))) = some r := by rw [if_neg (show ¬ (false = true) by decide)] at H;exact H
    clear H
    have H := H1
    clear H1
    obtain ⟨y246,hy246⟩ : ∃ y_ : List Int,y_ = (([2,0] : List Int)) := ⟨_,rfl⟩
    replace H : (some y246) = some r := by first | (rw [hy246];with_reducible exact H) | (have H2_ := (Option.bind_some _ _).symm.trans H;rw [hy246];with_reducible exact H2_) | (have H2_ := (Option.bind_some _ _).symm.trans H;with_reducible exact H2_) | with_reducible exact H | (rw [hy246];exact H) | exact H
    have Ny246 := Aside0.mk hy246
    clear hy246
    obtain rfl := Option.some.inj H
    go_enter Try.func100,Try.ntmps100
    go_wp2_with (first | ((with_reducible refine q0p (N := 1) rfl ?_);refine q0o ?hg (N := 1) ?hd (cs := #[.int .i64 a0_0,.bool false,.int .i64 a0_2,.string a0_3]) (t := 66) ?hr ?_;(case hd => rfl);(case hg => rfl);(case hr => first | (go_simp;done) | (go_simp;rfl));intro gb241 hg w12 hbox hb;have n0_ := Aside0.mk (q0n (by repeat (first | (with_reducible first | exact HB.out | apply q0b | apply q0a | apply q0c) | exact HB.out)) hb);have n1_ := Aside0.mk (hbox);have n2_ := Aside0.mk ((by rw [hg];exact (q0g (by repeat (first | (with_reducible first | exact HB.out | apply q0b | apply q0a | apply q0c) | exact HB.out))) : w.heap.size ≤ gb241));have n3_ := Aside0.mk ((by rw [hg];exact (q0g (by repeat (first | (with_reducible first | exact HB.out | apply q0b | apply q0a | apply q0c) | exact HB.out))) : w.heap.size ≤ gb241));clear HB;have HB := n0_;have BK241 := n1_;have GW241 := n2_;have GE241 := n3_;clear n0_ n1_ n2_ n3_;clear hb hbox hg;have hcz13_0 : w12.cell? ⟨gb241,0,none⟩ = some (.int .i64 a0_0) := (q0d BK241.out 0).trans rfl;have hcz13_1 : w12.cell? ⟨gb241,1,none⟩ = some (.bool false) := (q0d BK241.out 1).trans rfl;have hcz13_2 : w12.cell? ⟨gb241,2,none⟩ = some (.int .i64 a0_2) := (q0d BK241.out 2).trans rfl;have hcz13_3 : w12.cell? ⟨gb241,3,none⟩ = some (.string a0_3) := (q0d BK241.out 3).trans rfl;have hfz13_0 := q0e BK241.out 0;have hfz13_1 := q0e BK241.out 1;have hfz13_2 := q0e BK241.out 2;have hfz13_3 := q0e BK241.out 3) | ((with_reducible refine q0u (f := 92) rfl ?_);refine goesL_ (some 8) rfl rfl Try.func92 (by kernel_rfl) rfl #[.agg #[.int .i64 a0_0,.bool false,.int .i64 a0_2,.string a0_3]] rfl (by (try simp only [List.map_toArray,List.map_cons,List.map_nil]);first | done | rfl | (simp only [List.length_drop,List.length_take];rfl)) ?_;(with_reducible refine (value_Right.calls a0_0 false a0_2 a0_3 true _ A2.out).mono ?_);rintro e w14 ⟨rfl,hb⟩;refine ⟨_,rfl,?_⟩;have n0_ := Aside0.mk (q0s (g := gb241) (o := .cells #[.int .i64 a0_0,.bool false,.int .i64 a0_2,.string a0_3] 66 (0,0)) (by (with_reducible repeat (first | refine q0j ?_ _ | refine q0k ?_ | refine q0h ?_ _));exact BK241.out) hb);have n1_ := Aside0.mk (q0n (by repeat (first | (with_reducible first | exact HB.out | apply q0b | apply q0a | apply q0c | refine q0i ?_ GE241.out) | exact HB.out)) hb);clear BK241;clear HB;have BK241 := n0_;have HB := n1_;clear n0_ n1_;(try clear hb);(try clear hb2);(try clear hk);(try clear hi);have hcz15_0 : w14.cell? ⟨gb241,0,none⟩ = some (.int .i64 a0_0) := (q0d BK241.out 0).trans rfl;have hcz15_1 : w14.cell? ⟨gb241,1,none⟩ = some (.bool false) := (q0d BK241.out 1).trans rfl;have hcz15_2 : w14.cell? ⟨gb241,2,none⟩ = some (.int .i64 a0_2) := (q0d BK241.out 2).trans rfl;have hcz15_3 : w14.cell? ⟨gb241,3,none⟩ = some (.string a0_3) := (q0d BK241.out 3).trans rfl;have hfz15_0 := q0e BK241.out 0;have hfz15_1 := q0e BK241.out 1;have hfz15_2 := q0e BK241.out 2;have hfz15_3 := q0e BK241.out 3) | ((with_reducible refine q0p (N := 17) rfl ?_);refine Kd.R_lit (Kd.int .u8) _ 5 ?hg (N := 17) ?hd (xs := ([2,0] : List Int)) (inner := [.int .u8 2,.int .u8 0]) (ok := fun _ => True) (okp := fun _ => True) ?hr ?hp (fun _ hk => hk) trivial (Below.refl _ _) (Nat.le_refl _) (by simp) ?_;(case hd => rfl);(case hg => rfl);(case hr => first | (go_simp;done) | (go_simp;rfl));(case hp => exact (Reps.one (show Kd.M (Kd.int .u8) _ _ _ 2 [.int .u8 2] from rfl) (Reps.one (show Kd.M (Kd.int .u8) _ _ _ 0 [.int .u8 0] from rfl) (Reps.none _ _))));intro v247 w16 ho17 hb hg_ hnew_;clear hg_ hnew_;(first | rw [← Ny246.out] at ho17 | (simp only [Int.reduceToNat] at ho17;rw [← Ny246.out] at ho17));have n0_ := Aside0.mk (Kd.R_lower ho17 (q0g (by repeat (first | (with_reducible first | exact HB.out | apply q0b | apply q0a | apply q0c | refine q0i ?_ GE241.out) | exact HB.out))));have n1_ := Aside0.mk (q0s (g := gb241) (o := .cells #[.int .i64 a0_0,.bool false,.int .i64 a0_2,.string a0_3] 66 (0,0)) (by (with_reducible repeat (first | refine q0j ?_ _ | refine q0k ?_ | refine q0h ?_ _));exact BK241.out) hb);have n2_ := Aside0.mk (q0n (by repeat (first | (with_reducible first | exact HB.out | apply q0b | apply q0a | apply q0c | refine q0i ?_ GE241.out) | exact HB.out)) hb);clear BK241;clear HB;have HO248 := n0_;have BK241 := n1_;have HB := n2_;clear n0_ n1_ n2_;clear hb ho17))
    go_ret
    exact ⟨_,by first | rfl | (simp [q0m,q0l] <;> rfl) | (simp [*,q0m,q0l] <;> rfl),by (with_reducible repeat (first | apply Kd.R_alloc | apply Kd.R_drewN | apply Kd.R_drew));exact HO248.out,by repeat (first | (with_reducible first | exact HB.out | apply q0b | apply q0a | apply q0c | refine q0i ?_ GE241.out) | exact HB.out)⟩
  ·rw [if_neg c4] at H
   have c4b0 : (a0_0 == 1) = false := beq_eq_false_iff_ne.mpr c4
   have c4b1 : (a0_0 != 1) = true := bne_iff_ne.mpr c4
   by_cases c18 : a0_0 = 2
   ·rw [if_pos c18] at H
    have c18b0 : (a0_0 == 2) = true := beq_iff_eq.mpr c18
    have c18b1 : (a0_0 != 2) = false := bne_eq_false_iff_eq.mpr c18
    clear c18
    obtain ⟨y249,hy249⟩ : ∃ y_ : List Int,y_ = (([3] : List Int)) := ⟨_,rfl⟩
    replace H : (pack_Value.l0 k y249 7 a0_0 a0_1 a0_2 a0_3) = some r := by first | (rw [hy249];with_reducible exact H) | (have H2_ := (Option.bind_some _ _).symm.trans H;rw [hy249];with_reducible exact H2_) | (have H2_ := (Option.bind_some _ _).symm.trans H;with_reducible exact H2_) | with_reducible exact H | (rw [hy249];exact H) | exact H
    have Ny249 := Aside0.mk hy249
    clear hy249
    have H' := Aside0.mk H
    clear H
    go_enter Try.func100,Try.ntmps100
    go_wp2_with (first | ((with_reducible refine q0p (N := 1) rfl ?_);refine q0o ?hg (N := 1) ?hd (cs := #[.int .i64 a0_0,.bool a0_1,.int .i64 a0_2,.string a0_3]) (t := 66) ?hr ?_;(case hd => rfl);(case hg => rfl);(case hr => first | (go_simp;done) | (go_simp;rfl));intro gb241 hg w19 hbox hb;have n0_ := Aside0.mk (q0n (by repeat (first | (with_reducible first | exact HB.out | apply q0b | apply q0a | apply q0c) | exact HB.out)) hb);have n1_ := Aside0.mk (hbox);have n2_ := Aside0.mk ((by rw [hg];exact (q0g (by repeat (first | (with_reducible first | exact HB.out | apply q0b | apply q0a | apply q0c) | exact HB.out))) : w.heap.size ≤ gb241));have n3_ := Aside0.mk ((by rw [hg];exact (q0g (by repeat (first | (with_reducible first | exact HB.out | apply q0b | apply q0a | apply q0c) | exact HB.out))) : w.heap.size ≤ gb241));clear HB;have HB := n0_;have BK241 := n1_;have GW241 := n2_;have GE241 := n3_;clear n0_ n1_ n2_ n3_;clear hb hbox hg;have hcz20_0 : w19.cell? ⟨gb241,0,none⟩ = some (.int .i64 a0_0) := (q0d BK241.out 0).trans rfl;have hcz20_1 : w19.cell? ⟨gb241,1,none⟩ = some (.bool a0_1) := (q0d BK241.out 1).trans rfl;have hcz20_2 : w19.cell? ⟨gb241,2,none⟩ = some (.int .i64 a0_2) := (q0d BK241.out 2).trans rfl;have hcz20_3 : w19.cell? ⟨gb241,3,none⟩ = some (.string a0_3) := (q0d BK241.out 3).trans rfl;have hfz20_0 := q0e BK241.out 0;have hfz20_1 := q0e BK241.out 1;have hfz20_2 := q0e BK241.out 2;have hfz20_3 := q0e BK241.out 3) | ((with_reducible refine q0u (f := 92) rfl ?_);refine goesL_ (some 8) rfl rfl Try.func92 (by kernel_rfl) rfl #[.agg #[.int .i64 a0_0,.bool a0_1,.int .i64 a0_2,.string a0_3]] rfl (by (try simp only [List.map_toArray,List.map_cons,List.map_nil]);first | done | rfl | (simp only [List.length_drop,List.length_take];rfl)) ?_;(with_reducible refine (value_Right.calls a0_0 a0_1 a0_2 a0_3 true _ A2.out).mono ?_);rintro e w21 ⟨rfl,hb⟩;refine ⟨_,rfl,?_⟩;have n0_ := Aside0.mk (q0s (g := gb241) (o := .cells #[.int .i64 a0_0,.bool a0_1,.int .i64 a0_2,.string a0_3] 66 (0,0)) (by (with_reducible repeat (first | refine q0j ?_ _ | refine q0k ?_ | refine q0h ?_ _));exact BK241.out) hb);have n1_ := Aside0.mk (q0n (by repeat (first | (with_reducible first | exact HB.out | apply q0b | apply q0a | apply q0c | refine q0i ?_ GE241.out) | exact HB.out)) hb);clear BK241;clear HB;have BK241 := n0_;have HB := n1_;clear n0_ n1_;(try clear hb);(try clear hb2);(try clear hk);(try clear hi);have hcz22_0 : w21.cell? ⟨gb241,0,none⟩ = some (.int .i64 a0_0) := (q0d BK241.out 0).trans rfl;have hcz22_1 : w21.cell? ⟨gb241,1,none⟩ = some (.bool a0_1) := (q0d BK241.out 1).trans rfl;have hcz22_2 : w21.cell? ⟨gb241,2,none⟩ = some (.int .i64 a0_2) := (q0d BK241.out 2).trans rfl;have hcz22_3 : w21.cell? ⟨gb241,3,none⟩ = some (.string a0_3) := (q0d BK241.out 3).trans rfl;have hfz22_0 := q0e BK241.out 0;have hfz22_1 := q0e BK241.out 1;have hfz22_2 := q0e BK241.out 2;have hfz22_3 := q0e BK241.out 3) | ((with_reducible refine q0p (N := 20) rfl ?_);refine Kd.R_lit (Kd.int .u8) _ 5 ?hg (N := 20) ?hd (xs := ([3] : List Int)) (inner := [.int .u8 3]) (ok := fun _ => True) (okp := fun _ => True) ?hr ?hp (fun _ hk => hk) trivial (Below.refl _ _) (Nat.le_refl _) (by simp) ?_;(case hd => rfl);(case hg => rfl);(case hr => first | (go_simp;done) | (go_simp;rfl));(case hp => exact (Reps.one (show Kd.M (Kd.int .u8) _ _ _ 3 [.int .u8 3] from rfl) (Reps.none _ _)));intro v250 w23 ho24 hb hg_ hnew_;clear hg_ hnew_;(first | rw [← Ny249.out] at ho24 | (simp only [Int.reduceToNat] at ho24;rw [← Ny249.out] at ho24));have n0_ := Aside0.mk (Kd.R_lower ho24 (q0g (by repeat (first | (with_reducible first | exact HB.out | apply q0b | apply q0a | apply q0c | refine q0i ?_ GE241.out) | exact HB.out))));have n1_ := Aside0.mk (q0s (g := gb241) (o := .cells #[.int .i64 a0_0,.bool a0_1,.int .i64 a0_2,.string a0_3] 66 (0,0)) (by (with_reducible repeat (first | refine q0j ?_ _ | refine q0k ?_ | refine q0h ?_ _));exact BK241.out) hb);have n2_ := Aside0.mk (q0n (by repeat (first | (with_reducible first | exact HB.out | apply q0b | apply q0a | apply q0c | refine q0i ?_ GE241.out) | exact HB.out)) hb);clear BK241;clear HB;have HO251 := n0_;have BK241 := n1_;have HB := n2_;clear n0_ n1_ n2_;clear hb ho24))
    go_loopg [3,4] k (fun kq v3 v4 w' => ∃ (x3_1 : List Int) (x4_1 : Int),v4 = .int .i64 x4_1 ∧ Aside0 (pack_Value.l0 kq x3_1 x4_1 a0_0 a0_1 a0_2 a0_3 = some r) ∧ Aside0 (kq ≤ k) ∧ Aside0 (Kd.R (Kd.int .u8) 5 w' w.heap.size (fun _ => True) v3 x3_1) ∧ Aside0 (w'.heap[gb241]? = some (.cells #[.int .i64 a0_0,.bool a0_1,.int .i64 a0_2,.string a0_3] 66 (0,0))) ∧ Aside0 (Below w.heap.size w w'))
    case atStart => exact ⟨(y249),(7),(by first | rfl | (simp;done) | (simp [*];done)),H',⟨Nat.le_refl _⟩,⟨by (with_reducible repeat (first | apply Kd.R_alloc | apply Kd.R_drewN | apply Kd.R_drew));exact HO251.out⟩,⟨by (with_reducible repeat (first | refine q0j ?_ _ | refine q0k ?_ | refine q0h ?_ _));exact BK241.out⟩,⟨by repeat (first | (with_reducible first | exact HB.out | apply q0b | apply q0a | apply q0c | refine q0i ?_ GE241.out) | exact HB.out)⟩⟩
    case round =>
     clear H'
     try clear c1
     try clear p2
     try clear c3
     try clear c4
     try clear c4b0
     try clear c4b1
     try clear c5
     try clear c9
     try clear c10
     try clear c18
     try clear c18b0
     try clear c18b1
     try clear hcz13_0
     try clear hcz13_1
     try clear hcz13_2
     try clear hcz13_3
     try clear hcz15_0
     try clear hcz15_1
     try clear hcz15_2
     try clear hcz15_3
     try clear hcz20_0
     try clear hcz20_1
     try clear hcz20_2
     try clear hcz20_3
     try clear hcz22_0
     try clear hcz22_1
     try clear hcz22_2
     try clear hcz22_3
     try clear hcz7_0
     try clear hcz7_1
     try clear hcz7_2
     try clear hcz7_3
     try clear hcz9_0
     try clear hcz9_1
     try clear hcz9_2
     try clear hcz9_3
     try clear hfz13_0
     try clear hfz13_1
     try clear hfz13_2
     try clear hfz13_3
     try clear hfz15_0
     try clear hfz15_1
     try clear hfz15_2
     try clear hfz15_3
     try clear hfz20_0
     try clear hfz20_1
     try clear hfz20_2
     try clear hfz20_3
     try clear hfz22_0
     try clear hfz22_1
     try clear hfz22_2
     try clear hfz22_3
     try clear hfz7_0
     try clear hfz7_1
     try clear hfz7_2
     try clear hfz7_3
     try clear hfz9_0
     try clear hfz9_1
     try clear hfz9_2
     try clear hfz9_3
     obtain ⟨x3_1,x4_1,rfl,HA,HK1,HO_3,BK241,HB⟩ := hrel
     cases gk with
     | zero => exact absurd HA.out (by simp [pack_Value.l0])
     | succ k1 =>
      have H := HA.out
      clear HA
      simp only [pack_Value.l0] at H
      by_cases c25 : x4_1 ≥ 0
      ·rw [if_pos c25] at H
       have c25b0 : decide (0 ≤ x4_1) = true := decide_eq_true c25
       clear c25
       obtain ⟨ji26,hji26⟩ : ∃ j_ : Int,(wrap64 (8 * x4_1)) = j_ := ⟨_,rfl⟩
       replace H : (if 0 ≤ (ji26) then (if x3_1.length < 140737488355328 then (pack_Value.l0 k1 (x3_1 ++ [(shr .u64 (Go.bits .xor .u64 (IntKind.u64.wrap (a0_2)) 9223372036854775808) (ji26)) % 256]) (wrap64 (x4_1 - 1)) a0_0 a0_1 a0_2 a0_3) else (none)) else (none)) = some r := by first | (rw [hji26] at H;exact H) | (simp only [hji26] at H ⊢;exact H)
       have hji26w : (IntKind.i64.wrap (8 * x4_1)) = ji26 := (i64_w _).trans hji26
       by_cases c27 : 0 ≤ (ji26)
       ·rw [if_pos c27] at H
        have c27b0 := eq_true c27
        have c27b1 : decide (0 ≤ (ji26)) = true := decide_eq_true c27
        clear c27
        obtain ⟨ji28,hji28⟩ : ∃ j_ : Int,(shr .u64 (Go.bits .xor .u64 (IntKind.u64.wrap (a0_2)) 9223372036854775808) (ji26)) = j_ := ⟨_,rfl⟩
        replace H : (if x3_1.length < 140737488355328 then (pack_Value.l0 k1 (x3_1 ++ [(ji28) % 256]) (wrap64 (x4_1 - 1)) a0_0 a0_1 a0_2 a0_3) else (none)) = some r := by first | (rw [hji28] at H;exact H) | (simp only [hji28] at H ⊢;exact H)
        have hji28_ : ((Go.bits .xor .u64 (IntKind.u64.wrap (a0_2)) 9223372036854775808) / 2 ^ min (ji26).toNat 64) = ji28 := hji28
        have hji28z : (ji26) ≤ 64 → ((Go.bits .xor .u64 (IntKind.u64.wrap (a0_2)) 9223372036854775808) / 2 ^ (ji26).toNat) = ji28 := shr_small hji28
        by_cases c29 : x3_1.length < 140737488355328
        ·rw [if_pos c29] at H
         have LMc29 := Aside0.mk c29
         clear c29
         obtain ⟨y252,hy252⟩ : ∃ y_ : List Int,y_ = (x3_1 ++ [(ji28) % 256]) := ⟨_,rfl⟩
         replace H : (pack_Value.l0 k1 y252 (wrap64 (x4_1 - 1)) a0_0 a0_1 a0_2 a0_3) = some r := by first | (rw [hy252];with_reducible exact H) | (have H2_ := (Option.bind_some _ _).symm.trans H;rw [hy252];with_reducible exact H2_) | (have H2_ := (Option.bind_some _ _).symm.trans H;with_reducible exact H2_) | with_reducible exact H | (rw [hy252];exact H) | exact H
         have Ny252 := Aside0.mk hy252
         clear hy252
         have H' := Aside0.mk H
         clear H
         have hcz30_0 : wr.cell? ⟨gb241,0,none⟩ = some (.int .i64 a0_0) := (q0d BK241.out 0).trans rfl
         have hcz30_1 : wr.cell? ⟨gb241,1,none⟩ = some (.bool a0_1) := (q0d BK241.out 1).trans rfl
         have hcz30_2 : wr.cell? ⟨gb241,2,none⟩ = some (.int .i64 a0_2) := (q0d BK241.out 2).trans rfl
         have hcz30_3 : wr.cell? ⟨gb241,3,none⟩ = some (.string a0_3) := (q0d BK241.out 3).trans rfl
         have hfz30_0 := q0e BK241.out 0
         have hfz30_1 := q0e BK241.out 1
         have hfz30_2 := q0e BK241.out 2
         have hfz30_3 := q0e BK241.out 3
         go_wp2_with (first | ((with_reducible refine q0v (b := .append) (xs := #[.tmp 25,.tmp 34]) rfl ?_);at_builtin;refine Kd.R_append (Kd.int .u8) (w0 := w) w.heap.size rfl (.tmp 25) (.tmp 34) 108 5 (.int .u8 0) 1 rfl Try.underlying108 info5 rfl (by decide) (by omega) u3 x3_1 ((ji28) % 256) [.int .u8 ((ji28) % 256)] (fun _ => True) (fun _ => False) rfl rfl ?aP (fun _ hk => hk.elim) ?aF ?aO ?aB ?aS ?aL ?_;(case aP => exact rfl);(case aB => exact (by repeat (first | (with_reducible first | exact HB.out | apply q0b | apply q0a | apply q0c | refine q0i ?_ GE241.out) | exact HB.out)));(case aF => exact (fun _ _ => trivial));(case aO => exact (by (with_reducible repeat (first | apply Kd.R_alloc | apply Kd.R_drewN | apply Kd.R_drew));exact HO_3.out));(case aS => exact (q0g (by repeat (first | (with_reducible first | exact HB.out | apply q0b | apply q0a | apply q0c | refine q0i ?_ GE241.out) | exact HB.out))));(case aL => have := LMc29.out;omega);intro v253 w31 ho hb hg hat;rw [← Ny252.out] at ho;have n0_ := Aside0.mk (blk_grown (g := gb241) (o := .cells #[.int .i64 a0_0,.bool a0_1,.int .i64 a0_2,.string a0_3] 66 (0,0)) (by (with_reducible repeat (first | refine q0j ?_ _ | refine q0k ?_ | refine q0h ?_ _));exact BK241.out) hg (Kd.R_ne HO_3.out BK241.out (by decide)));have n1_ := Aside0.mk (hb);have n2_ := Aside0.mk (ho);clear BK241;clear HB;clear HO_3;have BK241 := n0_;have HB := n1_;have HO254 := n2_;clear n0_ n1_ n2_;clear ho hb hg hat))
         go_roundg k1
         case measure => have := HK1.out;omega
         case rel => exact ⟨(y252),(wrap64 (x4_1 - 1)),(by first | rfl | (simp;done) | (simp [*];done)),H',⟨by have := HK1.out;omega⟩,⟨by (with_reducible repeat (first | apply Kd.R_alloc | apply Kd.R_drewN | apply Kd.R_drew));exact HO254.out⟩,⟨by (with_reducible repeat (first | refine q0j ?_ _ | refine q0k ?_ | refine q0h ?_ _));exact BK241.out⟩,⟨by repeat (first | (with_reducible first | exact HB.out | apply q0b | apply q0a | apply q0c | refine q0i ?_ GE241.out) | exact HB.out)⟩⟩
        ·rw [if_neg c29] at H
         exact absurd H (by simp)
       ·rw [if_neg c27] at H
        exact absurd H (by simp)
      ·rw [if_neg c25] at H
       have c25b0 : decide (0 ≤ x4_1) = false := decide_eq_false c25
       clear c25
       obtain rfl := Option.some.inj H
       go_wp2
       go_ret
       exact ⟨_,by first | rfl | (simp [q0m,q0l] <;> rfl) | (simp [*,q0m,q0l] <;> rfl),by (with_reducible repeat (first | apply Kd.R_alloc | apply Kd.R_drewN | apply Kd.R_drew));exact HO_3.out,by repeat (first | (with_reducible first | exact HB.out | apply q0b | apply q0a | apply q0c | refine q0i ?_ GE241.out) | exact HB.out)⟩
   ·rw [if_neg c18] at H
    have c18b0 : (a0_0 == 2) = false := beq_eq_false_iff_ne.mpr c18
    have c18b1 : (a0_0 != 2) = true := bne_iff_ne.mpr c18
    by_cases c32 : a0_0 = 3
    ·rw [if_pos c32] at H
     have c32b0 : (a0_0 == 3) = true := beq_iff_eq.mpr c32
     have c32b1 : (a0_0 != 3) = false := bne_eq_false_iff_eq.mpr c32
     clear c32
     obtain ⟨y255,hy255⟩ : ∃ y_ : List Int,y_ = (([4] : List Int)) := ⟨_,rfl⟩
     replace H : (pack_Value.l1 k y255 (a0_3.size : Int) 0 a0_0 a0_1 a0_2 a0_3) = some r := by first | (rw [hy255];with_reducible exact H) | (have H2_ := (Option.bind_some _ _).symm.trans H;rw [hy255];with_reducible exact H2_) | (have H2_ := (Option.bind_some _ _).symm.trans H;with_reducible exact H2_) | with_reducible exact H | (rw [hy255];exact H) | exact H
     have Ny255 := Aside0.mk hy255
     clear hy255
     have H' := Aside0.mk H
     clear H
     go_enter Try.func100,Try.ntmps100
     go_wp2_with (first | ((with_reducible refine q0p (N := 1) rfl ?_);refine q0o ?hg (N := 1) ?hd (cs := #[.int .i64 a0_0,.bool a0_1,.int .i64 a0_2,.string a0_3]) (t := 66) ?hr ?_;(case hd => rfl);(case hg => rfl);(case hr => first | (go_simp;done) | (go_simp;rfl));intro gb241 hg w33 hbox hb;have n0_ := Aside0.mk (q0n (by repeat (first | (with_reducible first | exact HB.out | apply q0b | apply q0a | apply q0c) | exact HB.out)) hb);have n1_ := Aside0.mk (hbox);have n2_ := Aside0.mk ((by rw [hg];exact (q0g (by repeat (first | (with_reducible first | exact HB.out | apply q0b | apply q0a | apply q0c) | exact HB.out))) : w.heap.size ≤ gb241));have n3_ := Aside0.mk ((by rw [hg];exact (q0g (by repeat (first | (with_reducible first | exact HB.out | apply q0b | apply q0a | apply q0c) | exact HB.out))) : w.heap.size ≤ gb241));clear HB;have HB := n0_;have BK241 := n1_;have GW241 := n2_;have GE241 := n3_;clear n0_ n1_ n2_ n3_;clear hb hbox hg;have hcz34_0 : w33.cell? ⟨gb241,0,none⟩ = some (.int .i64 a0_0) := (q0d BK241.out 0).trans rfl;have hcz34_1 : w33.cell? ⟨gb241,1,none⟩ = some (.bool a0_1) := (q0d BK241.out 1).trans rfl;have hcz34_2 : w33.cell? ⟨gb241,2,none⟩ = some (.int .i64 a0_2) := (q0d BK241.out 2).trans rfl;have hcz34_3 : w33.cell? ⟨gb241,3,none⟩ = some (.string a0_3) := (q0d BK241.out 3).trans rfl;have hfz34_0 := q0e BK241.out 0;have hfz34_1 := q0e BK241.out 1;have hfz34_2 := q0e BK241.out 2;have hfz34_3 := q0e BK241.out 3) | ((with_reducible refine q0u (f := 92) rfl ?_);refine goesL_ (some 8) rfl rfl Try.func92 (by kernel_rfl) rfl #[.agg #[.int .i64 a0_0,.bool a0_1,.int .i64 a0_2,.string a0_3]] rfl (by (try simp only [List.map_toArray,List.map_cons,List.map_nil]);first | done | rfl | (simp only [List.length_drop,List.length_take];rfl)) ?_;(with_reducible refine (value_Right.calls a0_0 a0_1 a0_2 a0_3 true _ A2.out).mono ?_);rintro e w35 ⟨rfl,hb⟩;refine ⟨_,rfl,?_⟩;have n0_ := Aside0.mk (q0s (g := gb241) (o := .cells #[.int .i64 a0_0,.bool a0_1,.int .i64 a0_2,.string a0_3] 66 (0,0)) (by (with_reducible repeat (first | refine q0j ?_ _ | refine q0k ?_ | refine q0h ?_ _));exact BK241.out) hb);have n1_ := Aside0.mk (q0n (by repeat (first | (with_reducible first | exact HB.out | apply q0b | apply q0a | apply q0c | refine q0i ?_ GE241.out) | exact HB.out)) hb);clear BK241;clear HB;have BK241 := n0_;have HB := n1_;clear n0_ n1_;(try clear hb);(try clear hb2);(try clear hk);(try clear hi);have hcz36_0 : w35.cell? ⟨gb241,0,none⟩ = some (.int .i64 a0_0) := (q0d BK241.out 0).trans rfl;have hcz36_1 : w35.cell? ⟨gb241,1,none⟩ = some (.bool a0_1) := (q0d BK241.out 1).trans rfl;have hcz36_2 : w35.cell? ⟨gb241,2,none⟩ = some (.int .i64 a0_2) := (q0d BK241.out 2).trans rfl;have hcz36_3 : w35.cell? ⟨gb241,3,none⟩ = some (.string a0_3) := (q0d BK241.out 3).trans rfl;have hfz36_0 := q0e BK241.out 0;have hfz36_1 := q0e BK241.out 1;have hfz36_2 := q0e BK241.out 2;have hfz36_3 := q0e BK241.out 3) | ((with_reducible refine q0p (N := 39) rfl ?_);refine Kd.R_lit (Kd.int .u8) _ 5 ?hg (N := 39) ?hd (xs := ([4] : List Int)) (inner := [.int .u8 4]) (ok := fun _ => True) (okp := fun _ => True) ?hr ?hp (fun _ hk => hk) trivial (Below.refl _ _) (Nat.le_refl _) (by simp) ?_;(case hd => rfl);(case hg => rfl);(case hr => first | (go_simp;done) | (go_simp;rfl));(case hp => exact (Reps.one (show Kd.M (Kd.int .u8) _ _ _ 4 [.int .u8 4] from rfl) (Reps.none _ _)));intro v256 w37 ho38 hb hg_ hnew_;clear hg_ hnew_;(first | rw [← Ny255.out] at ho38 | (simp only [Int.reduceToNat] at ho38;rw [← Ny255.out] at ho38));have n0_ := Aside0.mk (Kd.R_lower ho38 (q0g (by repeat (first | (with_reducible first | exact HB.out | apply q0b | apply q0a | apply q0c | refine q0i ?_ GE241.out) | exact HB.out))));have n1_ := Aside0.mk (q0s (g := gb241) (o := .cells #[.int .i64 a0_0,.bool a0_1,.int .i64 a0_2,.string a0_3] 66 (0,0)) (by (with_reducible repeat (first | refine q0j ?_ _ | refine q0k ?_ | refine q0h ?_ _));exact BK241.out) hb);have n2_ := Aside0.mk (q0n (by repeat (first | (with_reducible first | exact HB.out | apply q0b | apply q0a | apply q0c | refine q0i ?_ GE241.out) | exact HB.out)) hb);clear BK241;clear HB;have HO257 := n0_;have BK241 := n1_;have HB := n2_;clear n0_ n1_ n2_;clear hb ho38;have hcz39_0 : w37.cell? ⟨gb241,0,none⟩ = some (.int .i64 a0_0) := (q0d BK241.out 0).trans rfl;have hcz39_1 : w37.cell? ⟨gb241,1,none⟩ = some (.bool a0_1) := (q0d BK241.out 1).trans rfl;have hcz39_2 : w37.cell? ⟨gb241,2,none⟩ = some (.int .i64 a0_2) := (q0d BK241.out 2).trans rfl;have hcz39_3 : w37.cell? ⟨gb241,3,none⟩ = some (.string a0_3) := (q0d BK241.out 3).trans rfl;have hfz39_0 := q0e BK241.out 0;have hfz39_1 := q0e BK241.out 1;have hfz39_2 := q0e BK241.out 2;have hfz39_3 := q0e BK241.out 3))
     go_loopg [5,43] k (fun kq v5 v43 w' => ∃ (x5_1 : List Int) (x43_1 : Int),v43 = .int .i64 x43_1 ∧ Aside0 (pack_Value.l1 kq x5_1 (a0_3.size : Int) x43_1 a0_0 a0_1 a0_2 a0_3 = some r) ∧ Aside0 (kq ≤ k) ∧ Aside0 (Kd.R (Kd.int .u8) 5 w' w.heap.size (fun _ => True) v5 x5_1) ∧ Aside0 (w'.heap[gb241]? = some (.cells #[.int .i64 a0_0,.bool a0_1,.int .i64 a0_2,.string a0_3] 66 (0,0))) ∧ Aside0 (Below w.heap.size w w'))
     case atStart => exact ⟨(y255),(0),(by first | rfl | (simp;done) | (simp [*];done)),H',⟨Nat.le_refl _⟩,⟨by (with_reducible repeat (first | apply Kd.R_alloc | apply Kd.R_drewN | apply Kd.R_drew));exact HO257.out⟩,⟨by (with_reducible repeat (first | refine q0j ?_ _ | refine q0k ?_ | refine q0h ?_ _));exact BK241.out⟩,⟨by repeat (first | (with_reducible first | exact HB.out | apply q0b | apply q0a | apply q0c | refine q0i ?_ GE241.out) | exact HB.out)⟩⟩
     case round =>
      clear H'
      try clear c1
      try clear c2
      try clear p2
      try clear c3
      try clear c4
      try clear c4b0
      try clear c4b1
      try clear c5
      try clear p6
      try clear c9
      try clear c10
      try clear c18
      try clear c18b0
      try clear c18b1
      try clear c25
      try clear c25b0
      try clear c27
      try clear c27b0
      try clear c27b1
      try clear c29
      try clear c32
      try clear c32b0
      try clear c32b1
      try clear hcz13_0
      try clear hcz13_1
      try clear hcz13_2
      try clear hcz13_3
      try clear hcz15_0
      try clear hcz15_1
      try clear hcz15_2
      try clear hcz15_3
      try clear hcz20_0
      try clear hcz20_1
      try clear hcz20_2
      try clear hcz20_3
      try clear hcz22_0
      try clear hcz22_1
      try clear hcz22_2
      try clear hcz22_3
      try clear hcz30_0
      try clear hcz30_1
      try clear hcz30_2
      try clear hcz30_3
      try clear hcz34_0
      try clear hcz34_1
      try clear hcz34_2
      try clear hcz34_3
      try clear hcz36_0
      try clear hcz36_1
      try clear hcz36_2
      try clear hcz36_3
      try clear hcz39_0
      try clear hcz39_1
      try clear hcz39_2
      try clear hcz39_3
      try clear hcz7_0
      try clear hcz7_1
      try clear hcz7_2
      try clear hcz7_3
      try clear hcz9_0
      try clear hcz9_1
      try clear hcz9_2
      try clear hcz9_3
      try clear hfz13_0
      try clear hfz13_1
      try clear hfz13_2
      try clear hfz13_3
      try clear hfz15_0
      try clear hfz15_1
      try clear hfz15_2
      try clear hfz15_3
      try clear hfz20_0
      try clear hfz20_1
      try clear hfz20_2
      try clear hfz20_3
      try clear hfz22_0
      try clear hfz22_1
      try clear hfz22_2
      try clear hfz22_3
      try clear hfz30_0
      try clear hfz30_1
      try clear hfz30_2
      try clear hfz30_3
      try clear hfz34_0
      try clear hfz34_1
      try clear hfz34_2
      try clear hfz34_3
      try clear hfz36_0
      try clear hfz36_1
      try clear hfz36_2
      try clear hfz36_3
      try clear hfz39_0
      try clear hfz39_1
      try clear hfz39_2
      try clear hfz39_3
      try clear hfz7_0
      try clear hfz7_1
      try clear hfz7_2
      try clear hfz7_3
      try clear hfz9_0
      try clear hfz9_1
      try clear hfz9_2
      try clear hfz9_3
      try clear p2
      obtain ⟨x5_1,x43_1,rfl,HA,HK1,HO_5,BK241,HB⟩ := hrel
      cases gk with
      | zero => exact absurd HA.out (by simp [pack_Value.l1])
      | succ k1 =>
       have H := HA.out
       clear HA
       simp only [pack_Value.l1] at H
       by_cases c40 : x43_1 < (a0_3.size : Int)
       ·rw [if_pos c40] at H
        have c40b0 : decide (x43_1 < (a0_3.size : Int)) = true := decide_eq_true c40
        clear c40
        by_cases c41 : 0 ≤ x43_1
        ·rw [if_pos c41] at H
         have c41b0 : decide (0 ≤ x43_1) = true := decide_eq_true c41
         clear c41
         by_cases c42 : x43_1 < (a0_3.size : Int)
         ·rw [if_pos c42] at H
          have c42b0 : decide (x43_1 < (a0_3.size : Int)) = true := decide_eq_true c42
          clear c42
          by_cases c44 : x5_1.length < 140737488355328
          ·rw [if_pos c44] at H
           have LMc44 := Aside0.mk c44
           clear c44
           obtain ⟨y258,hy258⟩ : ∃ y_ : List Int,y_ = (x5_1 ++ [bt a0_3 x43_1]) := ⟨_,rfl⟩
           replace H : (if (bt a0_3 x43_1) = 0 then (if y258.length < 140737488355328 then (pack_Value.l1 k1 (y258 ++ [255]) (a0_3.size : Int) (wrap64 (x43_1 + 1)) a0_0 a0_1 a0_2 a0_3) else (none)) else (pack_Value.l1 k1 y258 (a0_3.size : Int) (wrap64 (x43_1 + 1)) a0_0 a0_1 a0_2 a0_3)) = some r := by first | (rw [hy258];with_reducible exact H) | (have H2_ := (Option.bind_some _ _).symm.trans H;rw [hy258];with_reducible exact H2_) | (have H2_ := (Option.bind_some _ _).symm.trans H;with_reducible exact H2_) | with_reducible exact H | (rw [hy258];exact H) | exact H
           have Ny258 := Aside0.mk hy258
           clear hy258
           by_cases c46 : (bt a0_3 x43_1) = 0
           ·rw [if_pos c46] at H
            have c46b0 : ((bt a0_3 x43_1) == 0) = true := beq_iff_eq.mpr c46
            have c46b1 : ((bt a0_3 x43_1) != 0) = false := bne_eq_false_iff_eq.mpr c46
            clear c46
            by_cases c47 : y258.length < 140737488355328
            ·rw [if_pos c47] at H
             have LMc47 := Aside0.mk c47
             clear c47
             obtain ⟨y261,hy261⟩ : ∃ y_ : List Int,y_ = (y258 ++ [255]) := ⟨_,rfl⟩
             replace H : (pack_Value.l1 k1 y261 (a0_3.size : Int) (wrap64 (x43_1 + 1)) a0_0 a0_1 a0_2 a0_3) = some r := by first | (rw [hy261];with_reducible exact H) | (have H2_ := (Option.bind_some _ _).symm.trans H;rw [hy261];with_reducible exact H2_) | (have H2_ := (Option.bind_some _ _).symm.trans H;with_reducible exact H2_) | with_reducible exact H | (rw [hy261];exact H) | exact H
             have Ny261 := Aside0.mk hy261
             clear hy261
             have H' := Aside0.mk H
             clear H
             have hcz48_0 : wr.cell? ⟨gb241,0,none⟩ = some (.int .i64 a0_0) := (q0d BK241.out 0).trans rfl
             have hcz48_1 : wr.cell? ⟨gb241,1,none⟩ = some (.bool a0_1) := (q0d BK241.out 1).trans rfl
             have hcz48_2 : wr.cell? ⟨gb241,2,none⟩ = some (.int .i64 a0_2) := (q0d BK241.out 2).trans rfl
             have hcz48_3 : wr.cell? ⟨gb241,3,none⟩ = some (.string a0_3) := (q0d BK241.out 3).trans rfl
             have hfz48_0 := q0e BK241.out 0
             have hfz48_1 := q0e BK241.out 1
             have hfz48_2 := q0e BK241.out 2
             have hfz48_3 := q0e BK241.out 3
             have p43 : 0 ≤ (x43_1 : Int) := of_decide_eq_true (by first | (with_reducible assumption) | assumption)
             have q43 : x43_1 < (a0_3.size : Int) := of_decide_eq_true (by first | (with_reducible assumption) | assumption)
             have hx43 := bt_at a0_3 x43_1
             replace p43 := eq_true p43
             replace q43 := eq_true q43
             go_wp2_with (first | ((with_reducible refine q0v (b := .append) (xs := #[.tmp 46,.tmp 51]) rfl ?_);at_builtin;refine Kd.R_append (Kd.int .u8) (w0 := w) w.heap.size rfl (.tmp 46) (.tmp 51) 108 5 (.int .u8 0) 1 rfl Try.underlying108 info5 rfl (by decide) (by omega) u5 x5_1 (bt a0_3 x43_1) [.int .u8 (bt a0_3 x43_1)] (fun _ => True) (fun _ => False) rfl rfl ?aP (fun _ hk => hk.elim) ?aF ?aO ?aB ?aS ?aL ?_;(case aP => exact rfl);(case aB => exact (by repeat (first | (with_reducible first | exact HB.out | apply q0b | apply q0a | apply q0c | refine q0i ?_ GE241.out) | exact HB.out)));(case aF => exact (fun _ _ => trivial));(case aO => exact (by (with_reducible repeat (first | apply Kd.R_alloc | apply Kd.R_drewN | apply Kd.R_drew));exact HO_5.out));(case aS => exact (q0g (by repeat (first | (with_reducible first | exact HB.out | apply q0b | apply q0a | apply q0c | refine q0i ?_ GE241.out) | exact HB.out))));(case aL => have := LMc44.out;omega);intro v259 w49 ho hb hg hat;rw [← Ny258.out] at ho;have n0_ := Aside0.mk (blk_grown (g := gb241) (o := .cells #[.int .i64 a0_0,.bool a0_1,.int .i64 a0_2,.string a0_3] 66 (0,0)) (by (with_reducible repeat (first | refine q0j ?_ _ | refine q0k ?_ | refine q0h ?_ _));exact BK241.out) hg (Kd.R_ne HO_5.out BK241.out (by decide)));have n1_ := Aside0.mk (hb);have n2_ := Aside0.mk (ho);clear BK241;clear HB;clear HO_5;have BK241 := n0_;have HB := n1_;have HO260 := n2_;clear n0_ n1_ n2_;clear ho hb hg hat;have hcz50_0 : w49.cell? ⟨gb241,0,none⟩ = some (.int .i64 a0_0) := (q0d BK241.out 0).trans rfl;have hcz50_1 : w49.cell? ⟨gb241,1,none⟩ = some (.bool a0_1) := (q0d BK241.out 1).trans rfl;have hcz50_2 : w49.cell? ⟨gb241,2,none⟩ = some (.int .i64 a0_2) := (q0d BK241.out 2).trans rfl;have hcz50_3 : w49.cell? ⟨gb241,3,none⟩ = some (.string a0_3) := (q0d BK241.out 3).trans rfl;have hfz50_0 := q0e BK241.out 0;have hfz50_1 := q0e BK241.out 1;have hfz50_2 := q0e BK241.out 2;have hfz50_3 := q0e BK241.out 3;have p45 : 0 ≤ (x43_1 : Int) := of_decide_eq_true (by first | (with_reducible assumption) | assumption);have q45 : x43_1 < (a0_3.size : Int) := of_decide_eq_true (by first | (with_reducible assumption) | assumption);have hx45 := bt_at a0_3 x43_1;replace p45 := eq_true p45;replace q45 := eq_true q45) | ((with_reducible refine q0v (b := .append) (xs := #[.tmp 58,.tmp 59]) rfl ?_);at_builtin;refine Kd.R_append (Kd.int .u8) (w0 := w) w.heap.size rfl (.tmp 58) (.tmp 59) 108 5 (.int .u8 0) 1 rfl Try.underlying108 info5 rfl (by decide) (by omega) v259 y258 255 [.int .u8 255] (fun _ => True) (fun _ => False) rfl rfl ?aP (fun _ hk => hk.elim) ?aF ?aO ?aB ?aS ?aL ?_;(case aP => exact rfl);(case aB => exact (by repeat (first | (with_reducible first | exact HB.out | apply q0b | apply q0a | apply q0c | refine q0i ?_ GE241.out) | exact HB.out)));(case aF => exact (fun _ _ => trivial));(case aO => exact (by (with_reducible repeat (first | apply Kd.R_alloc | apply Kd.R_drewN | apply Kd.R_drew));exact HO260.out));(case aS => exact (q0g (by repeat (first | (with_reducible first | exact HB.out | apply q0b | apply q0a | apply q0c | refine q0i ?_ GE241.out) | exact HB.out))));(case aL => have := LMc47.out;omega);intro v262 w51 ho hb hg hat;rw [← Ny261.out] at ho;have n0_ := Aside0.mk (blk_grown (g := gb241) (o := .cells #[.int .i64 a0_0,.bool a0_1,.int .i64 a0_2,.string a0_3] 66 (0,0)) (by (with_reducible repeat (first | refine q0j ?_ _ | refine q0k ?_ | refine q0h ?_ _));exact BK241.out) hg (Kd.R_ne HO260.out BK241.out (by decide)));have n1_ := Aside0.mk (hb);have n2_ := Aside0.mk (ho);clear BK241;clear HB;clear HO260;have BK241 := n0_;have HB := n1_;have HO263 := n2_;clear n0_ n1_ n2_;clear ho hb hg hat))
             go_roundg k1
             case measure => have := HK1.out;omega
             case rel => exact ⟨(y261),(wrap64 (x43_1 + 1)),(by first | rfl | (simp;done) | (simp [*];done)),H',⟨by have := HK1.out;omega⟩,⟨by (with_reducible repeat (first | apply Kd.R_alloc | apply Kd.R_drewN | apply Kd.R_drew));exact HO263.out⟩,⟨by (with_reducible repeat (first | refine q0j ?_ _ | refine q0k ?_ | refine q0h ?_ _));exact BK241.out⟩,⟨by repeat (first | (with_reducible first | exact HB.out | apply q0b | apply q0a | apply q0c | refine q0i ?_ GE241.out) | exact HB.out)⟩⟩
            ·rw [if_neg c47] at H
             exact absurd H (by simp)
           ·rw [if_neg c46] at H
            have c46b0 : ((bt a0_3 x43_1) == 0) = false := beq_eq_false_iff_ne.mpr c46
            have c46b1 : ((bt a0_3 x43_1) != 0) = true := bne_iff_ne.mpr c46
            have H' := Aside0.mk H
            clear H
            have hcz52_0 : wr.cell? ⟨gb241,0,none⟩ = some (.int .i64 a0_0) := (q0d BK241.out 0).trans rfl
            have hcz52_1 : wr.cell? ⟨gb241,1,none⟩ = some (.bool a0_1) := (q0d BK241.out 1).trans rfl
            have hcz52_2 : wr.cell? ⟨gb241,2,none⟩ = some (.int .i64 a0_2) := (q0d BK241.out 2).trans rfl
            have hcz52_3 : wr.cell? ⟨gb241,3,none⟩ = some (.string a0_3) := (q0d BK241.out 3).trans rfl
            have hfz52_0 := q0e BK241.out 0
            have hfz52_1 := q0e BK241.out 1
            have hfz52_2 := q0e BK241.out 2
            have hfz52_3 := q0e BK241.out 3
            have p43 : 0 ≤ (x43_1 : Int) := of_decide_eq_true (by first | (with_reducible assumption) | assumption)
            have q43 : x43_1 < (a0_3.size : Int) := of_decide_eq_true (by first | (with_reducible assumption) | assumption)
            have hx43 := bt_at a0_3 x43_1
            replace p43 := eq_true p43
            replace q43 := eq_true q43
            go_wp2_with (first | ((with_reducible refine q0v (b := .append) (xs := #[.tmp 46,.tmp 51]) rfl ?_);at_builtin;refine Kd.R_append (Kd.int .u8) (w0 := w) w.heap.size rfl (.tmp 46) (.tmp 51) 108 5 (.int .u8 0) 1 rfl Try.underlying108 info5 rfl (by decide) (by omega) u5 x5_1 (bt a0_3 x43_1) [.int .u8 (bt a0_3 x43_1)] (fun _ => True) (fun _ => False) rfl rfl ?aP (fun _ hk => hk.elim) ?aF ?aO ?aB ?aS ?aL ?_;(case aP => exact rfl);(case aB => exact (by repeat (first | (with_reducible first | exact HB.out | apply q0b | apply q0a | apply q0c | refine q0i ?_ GE241.out) | exact HB.out)));(case aF => exact (fun _ _ => trivial));(case aO => exact (by (with_reducible repeat (first | apply Kd.R_alloc | apply Kd.R_drewN | apply Kd.R_drew));exact HO_5.out));(case aS => exact (q0g (by repeat (first | (with_reducible first | exact HB.out | apply q0b | apply q0a | apply q0c | refine q0i ?_ GE241.out) | exact HB.out))));(case aL => have := LMc44.out;omega);intro v259 w53 ho hb hg hat;rw [← Ny258.out] at ho;have n0_ := Aside0.mk (blk_grown (g := gb241) (o := .cells #[.int .i64 a0_0,.bool a0_1,.int .i64 a0_2,.string a0_3] 66 (0,0)) (by (with_reducible repeat (first | refine q0j ?_ _ | refine q0k ?_ | refine q0h ?_ _));exact BK241.out) hg (Kd.R_ne HO_5.out BK241.out (by decide)));have n1_ := Aside0.mk (hb);have n2_ := Aside0.mk (ho);clear BK241;clear HB;clear HO_5;have BK241 := n0_;have HB := n1_;have HO260 := n2_;clear n0_ n1_ n2_;clear ho hb hg hat;have hcz54_0 : w53.cell? ⟨gb241,0,none⟩ = some (.int .i64 a0_0) := (q0d BK241.out 0).trans rfl;have hcz54_1 : w53.cell? ⟨gb241,1,none⟩ = some (.bool a0_1) := (q0d BK241.out 1).trans rfl;have hcz54_2 : w53.cell? ⟨gb241,2,none⟩ = some (.int .i64 a0_2) := (q0d BK241.out 2).trans rfl;have hcz54_3 : w53.cell? ⟨gb241,3,none⟩ = some (.string a0_3) := (q0d BK241.out 3).trans rfl;have hfz54_0 := q0e BK241.out 0;have hfz54_1 := q0e BK241.out 1;have hfz54_2 := q0e BK241.out 2;have hfz54_3 := q0e BK241.out 3;have p45 : 0 ≤ (x43_1 : Int) := of_decide_eq_true (by first | (with_reducible assumption) | assumption);have q45 : x43_1 < (a0_3.size : Int) := of_decide_eq_true (by first | (with_reducible assumption) | assumption);have hx45 := bt_at a0_3 x43_1;replace p45 := eq_true p45;replace q45 := eq_true q45))
            go_roundg k1
            case measure => have := HK1.out;omega
            case rel => exact ⟨(y258),(wrap64 (x43_1 + 1)),(by first | rfl | (simp;done) | (simp [*];done)),H',⟨by have := HK1.out;omega⟩,⟨by (with_reducible repeat (first | apply Kd.R_alloc | apply Kd.R_drewN | apply Kd.R_drew));exact HO260.out⟩,⟨by (with_reducible repeat (first | refine q0j ?_ _ | refine q0k ?_ | refine q0h ?_ _));exact BK241.out⟩,⟨by repeat (first | (with_reducible first | exact HB.out | apply q0b | apply q0a | apply q0c | refine q0i ?_ GE241.out) | exact HB.out)⟩⟩
          ·rw [if_neg c44] at H
           exact absurd H (by simp)
         ·rw [if_neg c42] at H
          exact absurd H (by simp)
        ·rw [if_neg c41] at H
         exact absurd H (by simp)
       ·rw [if_neg c40] at H
        have c40b0 : decide (x43_1 < (a0_3.size : Int)) = false := decide_eq_false c40
        clear c40
        obtain ⟨y264,hy264⟩ : ∃ y_ : List Int,y_ = (([0,1] : List Int)) := ⟨_,rfl⟩
        replace H : (if x5_1.length + y264.length < 140737488355328 then (some (x5_1 ++ y264)) else (none)) = some r := by first | (rw [hy264];with_reducible exact H) | (have H2_ := (Option.bind_some _ _).symm.trans H;rw [hy264];with_reducible exact H2_) | (have H2_ := (Option.bind_some _ _).symm.trans H;with_reducible exact H2_) | with_reducible exact H | (rw [hy264];exact H) | exact H
        have Ny264 := Aside0.mk hy264
        clear hy264
        by_cases c55 : x5_1.length + y264.length < 140737488355328
        ·rw [if_pos c55] at H
         have LMc55 := Aside0.mk c55
         clear c55
         obtain ⟨y267,hy267⟩ : ∃ y_ : List Int,y_ = (x5_1 ++ y264) := ⟨_,rfl⟩
         replace H : (some y267) = some r := by first | (rw [hy267];with_reducible exact H) | (have H2_ := (Option.bind_some _ _).symm.trans H;rw [hy267];with_reducible exact H2_) | (have H2_ := (Option.bind_some _ _).symm.trans H;with_reducible exact H2_) | with_reducible exact H | (rw [hy267];exact H) | exact H
         have Ny267 := Aside0.mk hy267
         clear hy267
         obtain rfl := Option.some.inj H
         go_wp2_with (first | ((with_reducible refine q0p (N := 63) rfl ?_);refine Kd.R_lit (Kd.int .u8) _ 5 ?hg (N := 63) ?hd (xs := ([0,1] : List Int)) (inner := [.int .u8 0,.int .u8 1]) (ok := fun _ => True) (okp := fun _ => True) ?hr ?hp (fun _ hk => hk) trivial (Below.refl _ _) (Nat.le_refl _) (by simp) ?_;(case hd => rfl);(case hg => rfl);(case hr => first | (go_simp;done) | (go_simp;rfl));(case hp => exact (Reps.one (show Kd.M (Kd.int .u8) _ _ _ 0 [.int .u8 0] from rfl) (Reps.one (show Kd.M (Kd.int .u8) _ _ _ 1 [.int .u8 1] from rfl) (Reps.none _ _))));intro v265 w56 ho57 hb hg_ hnew_;clear hg_ hnew_;(first | rw [← Ny264.out] at ho57 | (simp only [Int.reduceToNat] at ho57;rw [← Ny264.out] at ho57));have n0_ := Aside0.mk (Kd.R_elder' (by (with_reducible repeat (first | apply Kd.R_alloc | apply Kd.R_drewN | apply Kd.R_drew));exact HO_5.out) (Kd.R_base ho57) hb);have n1_ := Aside0.mk (Kd.R_lower (Kd.R_new' ho57 (Kd.R_lt (by (with_reducible repeat (first | apply Kd.R_alloc | apply Kd.R_drewN | apply Kd.R_drew));exact HO_5.out))) (q0g (by repeat (first | (with_reducible first | exact HB.out | apply q0b | apply q0a | apply q0c | refine q0i ?_ GE241.out) | exact HB.out))));have n2_ := Aside0.mk (q0s (g := gb241) (o := .cells #[.int .i64 a0_0,.bool a0_1,.int .i64 a0_2,.string a0_3] 66 (0,0)) (by (with_reducible repeat (first | refine q0j ?_ _ | refine q0k ?_ | refine q0h ?_ _));exact BK241.out) hb);have n3_ := Aside0.mk (q0n (by repeat (first | (with_reducible first | exact HB.out | apply q0b | apply q0a | apply q0c | refine q0i ?_ GE241.out) | exact HB.out)) hb);clear HO_5;clear BK241;clear HB;have HO_5 := n0_;have HO266 := n1_;have BK241 := n2_;have HB := n3_;clear n0_ n1_ n2_ n3_;clear hb ho57;obtain ⟨Ao59,co59,eo59⟩ := Kd.R_slice HO266.out;subst eo59) | ((with_reducible refine q0v (b := .append) (xs := #[.tmp 62,.tmp 63]) rfl ?_);at_builtin;refine Kd.R_append_rows (Kd.int .u8) (w0 := w) w.heap.size rfl (.tmp 62) (.tmp 63) 108 5 (.int .u8 0) 1 rfl Try.underlying108 info5 rfl (by decide) (by omega) u5 x5_1 y264 _ _ _ (fun k_ => some k_ ≠ (.slice Ao59 y264.length co59 : Value).ownBlock) (fun _ => False) rfl rfl ?aO ?aR (fun _ _ h => h) (fun _ h => h.elim) ?aF ?aB ?aS ?aL ?_;(case aR => repeat (first | exact (Kd.R_reads' HO266.out).2.2 | (with_reducible refine Kd.C_alloc ?_ _) | (with_reducible refine Kd.C_drewN ?_ _) | (with_reducible refine Kd.C_drew ?_)));(case aB => exact (by repeat (first | (with_reducible first | exact HB.out | apply q0b | apply q0a | apply q0c | refine q0i ?_ GE241.out) | exact HB.out)));(case aF => exact (fun k_ hk => Kd.fresh' (Kd.R_lt (by (with_reducible repeat (first | apply Kd.R_alloc | apply Kd.R_drewN | apply Kd.R_drew));exact HO266.out)) k_ hk));(case aO => exact (by (with_reducible repeat (first | apply Kd.R_alloc | apply Kd.R_drewN | apply Kd.R_drew));exact Kd.R_mono HO_5.out (fun _ hk => hk.2)));(case aS => exact (q0g (by repeat (first | (with_reducible first | exact HB.out | apply q0b | apply q0a | apply q0c | refine q0i ?_ GE241.out) | exact HB.out))));(case aL => have := LMc55.out;omega);intro v268 w58 ho hb hg hat;rw [← Ny267.out] at ho;have n0_ := Aside0.mk (blk_grown (g := gb241) (o := .cells #[.int .i64 a0_0,.bool a0_1,.int .i64 a0_2,.string a0_3] 66 (0,0)) (by (with_reducible repeat (first | refine q0j ?_ _ | refine q0k ?_ | refine q0h ?_ _));exact BK241.out) hg (Kd.R_ne HO_5.out BK241.out (by decide)));have n1_ := Aside0.mk (Kd.R_after (ok := (fun _ => True)) (by (with_reducible repeat (first | apply Kd.R_alloc | apply Kd.R_drewN | apply Kd.R_drew));exact HO266.out) hg hat);have n2_ := Aside0.mk (hb);have n3_ := Aside0.mk (ho);clear BK241;clear HO266;clear HB;clear HO_5;have BK241 := n0_;have HO266 := n1_;have HB := n2_;have HO269 := n3_;clear n0_ n1_ n2_ n3_;clear ho hb hg hat))
         go_ret
         exact ⟨_,by first | rfl | (simp [q0m,q0l] <;> rfl) | (simp [*,q0m,q0l] <;> rfl),by (with_reducible repeat (first | apply Kd.R_alloc | apply Kd.R_drewN | apply Kd.R_drew));exact Kd.R_mono HO269.out (fun _ hk => trivial),by repeat (first | (with_reducible first | exact HB.out | apply q0b | apply q0a | apply q0c | refine q0i ?_ GE241.out) | exact HB.out)⟩
        ·rw [if_neg c55] at H
         exact absurd H (by simp)
    ·rw [if_neg c32] at H
     have c32b0 : (a0_0 == 3) = false := beq_eq_false_iff_ne.mpr c32
     have c32b1 : (a0_0 != 3) = true := bne_iff_ne.mpr c32
     obtain ⟨y270,hy270⟩ : ∃ y_ : List Int,y_ = (([1] : List Int)) := ⟨_,rfl⟩
     replace H : (some y270) = some r := by first | (rw [hy270];with_reducible exact H) | (have H2_ := (Option.bind_some _ _).symm.trans H;rw [hy270];with_reducible exact H2_) | (have H2_ := (Option.bind_some _ _).symm.trans H;with_reducible exact H2_) | with_reducible exact H | (rw [hy270];exact H) | exact H
     have Ny270 := Aside0.mk hy270
     clear hy270
     obtain rfl := Option.some.inj H
     go_enter Try.func100,Try.ntmps100
     go_wp2_with (first | ((with_reducible refine q0p (N := 1) rfl ?_);refine q0o ?hg (N := 1) ?hd (cs := #[.int .i64 a0_0,.bool a0_1,.int .i64 a0_2,.string a0_3]) (t := 66) ?hr ?_;(case hd => rfl);(case hg => rfl);(case hr => first | (go_simp;done) | (go_simp;rfl));intro gb241 hg w60 hbox hb;have n0_ := Aside0.mk (q0n (by repeat (first | (with_reducible first | exact HB.out | apply q0b | apply q0a | apply q0c) | exact HB.out)) hb);have n1_ := Aside0.mk (hbox);have n2_ := Aside0.mk ((by rw [hg];exact (q0g (by repeat (first | (with_reducible first | exact HB.out | apply q0b | apply q0a | apply q0c) | exact HB.out))) : w.heap.size ≤ gb241));have n3_ := Aside0.mk ((by rw [hg];exact (q0g (by repeat (first | (with_reducible first | exact HB.out | apply q0b | apply q0a | apply q0c) | exact HB.out))) : w.heap.size ≤ gb241));clear HB;have HB := n0_;have BK241 := n1_;have GW241 := n2_;have GE241 := n3_;clear n0_ n1_ n2_ n3_;clear hb hbox hg;have hcz61_0 : w60.cell? ⟨gb241,0,none⟩ = some (.int .i64 a0_0) := (q0d BK241.out 0).trans rfl;have hcz61_1 : w60.cell? ⟨gb241,1,none⟩ = some (.bool a0_1) := (q0d BK241.out 1).trans rfl;have hcz61_2 : w60.cell? ⟨gb241,2,none⟩ = some (.int .i64 a0_2) := (q0d BK241.out 2).trans rfl;have hcz61_3 : w60.cell? ⟨gb241,3,none⟩ = some (.string a0_3) := (q0d BK241.out 3).trans rfl;have hfz61_0 := q0e BK241.out 0;have hfz61_1 := q0e BK241.out 1;have hfz61_2 := q0e BK241.out 2;have hfz61_3 := q0e BK241.out 3) | ((with_reducible refine q0u (f := 92) rfl ?_);refine goesL_ (some 8) rfl rfl Try.func92 (by kernel_rfl) rfl #[.agg #[.int .i64 a0_0,.bool a0_1,.int .i64 a0_2,.string a0_3]] rfl (by (try simp only [List.map_toArray,List.map_cons,List.map_nil]);first | done | rfl | (simp only [List.length_drop,List.length_take];rfl)) ?_;(with_reducible refine (value_Right.calls a0_0 a0_1 a0_2 a0_3 true _ A2.out).mono ?_);rintro e w62 ⟨rfl,hb⟩;refine ⟨_,rfl,?_⟩;have n0_ := Aside0.mk (q0s (g := gb241) (o := .cells #[.int .i64 a0_0,.bool a0_1,.int .i64 a0_2,.string a0_3] 66 (0,0)) (by (with_reducible repeat (first | refine q0j ?_ _ | refine q0k ?_ | refine q0h ?_ _));exact BK241.out) hb);have n1_ := Aside0.mk (q0n (by repeat (first | (with_reducible first | exact HB.out | apply q0b | apply q0a | apply q0c | refine q0i ?_ GE241.out) | exact HB.out)) hb);clear BK241;clear HB;have BK241 := n0_;have HB := n1_;clear n0_ n1_;(try clear hb);(try clear hb2);(try clear hk);(try clear hi);have hcz63_0 : w62.cell? ⟨gb241,0,none⟩ = some (.int .i64 a0_0) := (q0d BK241.out 0).trans rfl;have hcz63_1 : w62.cell? ⟨gb241,1,none⟩ = some (.bool a0_1) := (q0d BK241.out 1).trans rfl;have hcz63_2 : w62.cell? ⟨gb241,2,none⟩ = some (.int .i64 a0_2) := (q0d BK241.out 2).trans rfl;have hcz63_3 : w62.cell? ⟨gb241,3,none⟩ = some (.string a0_3) := (q0d BK241.out 3).trans rfl;have hfz63_0 := q0e BK241.out 0;have hfz63_1 := q0e BK241.out 1;have hfz63_2 := q0e BK241.out 2;have hfz63_3 := q0e BK241.out 3) | ((with_reducible refine q0p (N := 65) rfl ?_);refine Kd.R_lit (Kd.int .u8) _ 5 ?hg (N := 65) ?hd (xs := ([1] : List Int)) (inner := [.int .u8 1]) (ok := fun _ => True) (okp := fun _ => True) ?hr ?hp (fun _ hk => hk) trivial (Below.refl _ _) (Nat.le_refl _) (by simp) ?_;(case hd => rfl);(case hg => rfl);(case hr => first | (go_simp;done) | (go_simp;rfl));(case hp => exact (Reps.one (show Kd.M (Kd.int .u8) _ _ _ 1 [.int .u8 1] from rfl) (Reps.none _ _)));intro v271 w64 ho65 hb hg_ hnew_;clear hg_ hnew_;(first | rw [← Ny270.out] at ho65 | (simp only [Int.reduceToNat] at ho65;rw [← Ny270.out] at ho65));have n0_ := Aside0.mk (Kd.R_lower ho65 (q0g (by repeat (first | (with_reducible first | exact HB.out | apply q0b | apply q0a | apply q0c | refine q0i ?_ GE241.out) | exact HB.out))));have n1_ := Aside0.mk (q0s (g := gb241) (o := .cells #[.int .i64 a0_0,.bool a0_1,.int .i64 a0_2,.string a0_3] 66 (0,0)) (by (with_reducible repeat (first | refine q0j ?_ _ | refine q0k ?_ | refine q0h ?_ _));exact BK241.out) hb);have n2_ := Aside0.mk (q0n (by repeat (first | (with_reducible first | exact HB.out | apply q0b | apply q0a | apply q0c | refine q0i ?_ GE241.out) | exact HB.out)) hb);clear BK241;clear HB;have HO272 := n0_;have BK241 := n1_;have HB := n2_;clear n0_ n1_ n2_;clear hb ho65))
     go_ret
     exact ⟨_,by first | rfl | (simp [q0m,q0l] <;> rfl) | (simp [*,q0m,q0l] <;> rfl),by (with_reducible repeat (first | apply Kd.R_alloc | apply Kd.R_drewN | apply Kd.R_drew));exact HO272.out,by repeat (first | (with_reducible first | exact HB.out | apply q0b | apply q0a | apply q0c | refine q0i ?_ GE241.out) | exact HB.out)⟩
 ·replace c3 := Bool.eq_false_iff.mpr c3
  subst c3
  have H1 : (some ([] : List Int)) = some r := by rw [if_neg (show ¬ (false = true) by decide)] at H;exact H
  clear H
  have H := H1
  clear H1
  obtain rfl := Option.some.inj H
  go_enter Try.func100,Try.ntmps100
  go_wp2_with (first | ((with_reducible refine q0p (N := 1) rfl ?_);refine q0o ?hg (N := 1) ?hd (cs := #[.int .i64 a0_0,.bool a0_1,.int .i64 a0_2,.string a0_3]) (t := 66) ?hr ?_;(case hd => rfl);(case hg => rfl);(case hr => first | (go_simp;done) | (go_simp;rfl));intro gb241 hg w66 hbox hb;have n0_ := Aside0.mk (q0n (by repeat (first | (with_reducible first | exact HB.out | apply q0b | apply q0a | apply q0c) | exact HB.out)) hb);have n1_ := Aside0.mk (hbox);have n2_ := Aside0.mk ((by rw [hg];exact (q0g (by repeat (first | (with_reducible first | exact HB.out | apply q0b | apply q0a | apply q0c) | exact HB.out))) : w.heap.size ≤ gb241));have n3_ := Aside0.mk ((by rw [hg];exact (q0g (by repeat (first | (with_reducible first | exact HB.out | apply q0b | apply q0a | apply q0c) | exact HB.out))) : w.heap.size ≤ gb241));clear HB;have HB := n0_;have BK241 := n1_;have GW241 := n2_;have GE241 := n3_;clear n0_ n1_ n2_ n3_;clear hb hbox hg;have hcz67_0 : w66.cell? ⟨gb241,0,none⟩ = some (.int .i64 a0_0) := (q0d BK241.out 0).trans rfl;have hcz67_1 : w66.cell? ⟨gb241,1,none⟩ = some (.bool a0_1) := (q0d BK241.out 1).trans rfl;have hcz67_2 : w66.cell? ⟨gb241,2,none⟩ = some (.int .i64 a0_2) := (q0d BK241.out 2).trans rfl;have hcz67_3 : w66.cell? ⟨gb241,3,none⟩ = some (.string a0_3) := (q0d BK241.out 3).trans rfl;have hfz67_0 := q0e BK241.out 0;have hfz67_1 := q0e BK241.out 1;have hfz67_2 := q0e BK241.out 2;have hfz67_3 := q0e BK241.out 3) | ((with_reducible refine q0u (f := 92) rfl ?_);refine goesL_ (some 8) rfl rfl Try.func92 (by kernel_rfl) rfl #[.agg #[.int .i64 a0_0,.bool a0_1,.int .i64 a0_2,.string a0_3]] rfl (by (try simp only [List.map_toArray,List.map_cons,List.map_nil]);first | done | rfl | (simp only [List.length_drop,List.length_take];rfl)) ?_;(with_reducible refine (value_Right.calls a0_0 a0_1 a0_2 a0_3 false _ A2.out).mono ?_);rintro e w68 ⟨rfl,hb⟩;refine ⟨_,rfl,?_⟩;have n0_ := Aside0.mk (q0s (g := gb241) (o := .cells #[.int .i64 a0_0,.bool a0_1,.int .i64 a0_2,.string a0_3] 66 (0,0)) (by (with_reducible repeat (first | refine q0j ?_ _ | refine q0k ?_ | refine q0h ?_ _));exact BK241.out) hb);have n1_ := Aside0.mk (q0n (by repeat (first | (with_reducible first | exact HB.out | apply q0b | apply q0a | apply q0c | refine q0i ?_ GE241.out) | exact HB.out)) hb);clear BK241;clear HB;have BK241 := n0_;have HB := n1_;clear n0_ n1_;(try clear hb);(try clear hb2);(try clear hk);(try clear hi)))
  go_ret
  exact ⟨_,by first | rfl | (simp [q0m,q0l] <;> rfl) | (simp [*,q0m,q0l] <;> rfl),by first | exact Kd.R_nil _ _ _ _ _ | exact Kd.N_nil _ _ _ _ _ | exact Kd.V_nil _ _ _ _ _ | exact Kd.Q_nil _ _ _ _ _ | exact Kd.S_nil _ _ _ _ _,by repeat (first | (with_reducible first | exact HB.out | apply q0b | apply q0a | apply q0c | refine q0i ?_ GE241.out) | exact HB.out)⟩
end Go.Proofs.Ythmbfcfomcaaaaa.Z
end
section
namespace Go.Proofs.Ythmbfcfomcaaaaa.Z
open Go.RowKit Go.Proofs.YthmbfcfomcaaaaaW.PrintWords Go.Proofs.YthmbfcfomcaaaaaW.PrintLast Go.Proofs.YthmbfcfomcaaaaaW.PrintMore
set_option linter.unusedVariables false
set_option linter.unusedSimpArgs false
set_option maxHeartbeats 8000000 in
set_option maxRecDepth 100000 in
theorem pack_Value_bad (a0_0 : Int) (a0_1 : Bool) (a0_2 : Int) (a0_3 : ByteArray) (w : World) (h : value_Right.f a0_0 a0_1 a0_2 a0_3 = some false) :
  Calls Try.prog 100 #[.agg #[.int .i64 a0_0,.bool a0_1,.int .i64 a0_2,.string a0_3]] w fun e w' => e = .returned (.slice none 0 0) ∧ Below w.heap.size w w' := by
 have hu66 := Try.underlying66
 have HB := Aside0.mk (Below.refl w.heap.size w)
 have A2 := Aside0.mk h
 clear h
 go_enter Try.func100,Try.ntmps100
 go_wp2_with (first | ((with_reducible refine q0p (N := 1) rfl ?_);refine q0o ?hg (N := 1) ?hd (cs := #[.int .i64 a0_0,.bool a0_1,.int .i64 a0_2,.string a0_3]) (t := 66) ?hr ?_;(case hd => rfl);(case hg => rfl);(case hr => first | (go_simp;done) | (go_simp;rfl));intro gb287 hg w66 hbox hb;have n0_ := Aside0.mk (q0n (by repeat (first | (with_reducible first | exact HB.out | apply q0b | apply q0a | apply q0c) | exact HB.out)) hb);have n1_ := Aside0.mk (hbox);have n2_ := Aside0.mk ((by rw [hg];exact (q0g (by repeat (first | (with_reducible first | exact HB.out | apply q0b | apply q0a | apply q0c) | exact HB.out))) : w.heap.size ≤ gb287));have n3_ := Aside0.mk ((by rw [hg];exact (q0g (by repeat (first | (with_reducible first | exact HB.out | apply q0b | apply q0a | apply q0c) | exact HB.out))) : w.heap.size ≤ gb287));clear HB;have HB := n0_;have BK287 := n1_;have GW287 := n2_;have GE287 := n3_;clear n0_ n1_ n2_ n3_;clear hb hbox hg;have hcz67_0 : w66.cell? ⟨gb287,0,none⟩ = some (.int .i64 a0_0) := (q0d BK287.out 0).trans rfl;have hcz67_1 : w66.cell? ⟨gb287,1,none⟩ = some (.bool a0_1) := (q0d BK287.out 1).trans rfl;have hcz67_2 : w66.cell? ⟨gb287,2,none⟩ = some (.int .i64 a0_2) := (q0d BK287.out 2).trans rfl;have hcz67_3 : w66.cell? ⟨gb287,3,none⟩ = some (.string a0_3) := (q0d BK287.out 3).trans rfl;have hfz67_0 := q0e BK287.out 0;have hfz67_1 := q0e BK287.out 1;have hfz67_2 := q0e BK287.out 2;have hfz67_3 := q0e BK287.out 3) | ((with_reducible refine q0u (f := 92) rfl ?_);refine goesL_ (some 8) rfl rfl Try.func92 (by kernel_rfl) rfl #[.agg #[.int .i64 a0_0,.bool a0_1,.int .i64 a0_2,.string a0_3]] rfl (by (try simp only [List.map_toArray,List.map_cons,List.map_nil]);first | done | rfl | (simp only [List.length_drop,List.length_take];rfl)) ?_;(with_reducible refine (value_Right.calls a0_0 a0_1 a0_2 a0_3 false _ A2.out).mono ?_);rintro e w68 ⟨rfl,hb⟩;refine ⟨_,rfl,?_⟩;have n0_ := Aside0.mk (q0s (g := gb287) (o := .cells #[.int .i64 a0_0,.bool a0_1,.int .i64 a0_2,.string a0_3] 66 (0,0)) (by (with_reducible repeat (first | refine q0j ?_ _ | refine q0k ?_ | refine q0h ?_ _));exact BK287.out) hb);have n1_ := Aside0.mk (q0n (by repeat (first | (with_reducible first | exact HB.out | apply q0b | apply q0a | apply q0c | refine q0i ?_ GE287.out) | exact HB.out)) hb);clear BK287;clear HB;have BK287 := n0_;have HB := n1_;clear n0_ n1_;(try clear hb);(try clear hb2);(try clear hk);(try clear hi)))
 go_ret
 exact ⟨by first | rfl | (simp [q0m,q0l] <;> rfl) | (simp [*,q0m,q0l] <;> rfl),by repeat (first | (with_reducible first | exact HB.out | apply q0b | apply q0a | apply q0c | refine q0i ?_ GE287.out) | exact HB.out)⟩
theorem pack_Value_l0_ne : ∀ k x3 x4 a b c d r,x3 ≠ [] → pack_Value.l0 k x3 x4 a b c d = some r → r ≠ [] := by
 intro k
 induction k with
 | zero => intro x3 x4 a b c d r _ h;simp [pack_Value.l0] at h
 | succ k ih =>
  intro x3 x4 a b c d r hx h
  simp only [pack_Value.l0] at h
  repeat' split at h
  all_goals first | (cases h;done) | exact ih _ _ _ _ _ _ _ (by simp) h | (cases h;exact hx)
theorem pack_Value_l1_ne : ∀ k x5 x x43 a b c d r,x5 ≠ [] → pack_Value.l1 k x5 x x43 a b c d = some r → r ≠ [] := by
 intro k
 induction k with
 | zero => intro x5 x x43 a b c d r _ h;simp [pack_Value.l1] at h
 | succ k ih =>
  intro x5 x x43 a b c d r hx h
  simp only [pack_Value.l1,Option.bind_some] at h
  repeat' split at h
  all_goals first | (cases h;done) | exact ih _ _ _ _ _ _ _ _ (by simp) h | (cases h;simp)
theorem pack_Value_ne (k : Nat) (a : Int) (b : Bool) (c : Int) (d : ByteArray) (h : pack_Value.f k a b c d = some []) : value_Right.f a b c d = some false := by
 unfold pack_Value.f at h
 obtain ⟨t,h1,h2⟩ := Option.bind_eq_some_iff.mp h
 cases t with
 | false => exact h1
 | true =>
  exfalso
  simp only [if_true] at h2
  repeat' split at h2
  all_goals first | (simp at h2;done) | exact pack_Value_l0_ne _ _ _ _ _ _ _ _ (by simp) h2 rfl | exact pack_Value_l1_ne _ _ _ _ _ _ _ _ _ (by simp) h2 rfl
theorem pack_Value_calls2 (k : Nat) (a0_0 : Int) (a0_1 : Bool) (a0_2 : Int) (a0_3 : ByteArray) (r : List Int) (w : World) (h : pack_Value.f k a0_0 a0_1 a0_2 a0_3 = some r) :
  Calls Try.prog 100 #[.agg #[.int .i64 a0_0,.bool a0_1,.int .i64 a0_2,.string a0_3]] w fun e w' => ∃ v0_ : Value,e = .returned (v0_) ∧ Kd.R (Kd.int .u8) 5 w' w.heap.size (fun _ => True) v0_ r ∧ Below w.heap.size w w' ∧ (r = [] → v0_ = .slice none 0 0) := by
 by_cases hr : r = []
 ·subst hr
  refine (pack_Value_bad a0_0 a0_1 a0_2 a0_3 w (pack_Value_ne k _ _ _ _ h)).mono ?_
  rintro e w' ⟨rfl,hb⟩
  exact ⟨_,rfl,Kd.R_nil _ _ _ _ _,hb,fun _ => rfl⟩
 ·refine (pack_Value.calls k a0_0 a0_1 a0_2 a0_3 r w h).mono ?_
  rintro e w' ⟨v,rfl,hv,hb⟩
  exact ⟨_,rfl,hv,hb,fun h => absurd h hr⟩
end Go.Proofs.Ythmbfcfomcaaaaa.Z
end
