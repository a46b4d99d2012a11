/-
  verdererlaw29.FeedNil: for every input the law returns true, and each argument reads behind the call as it read before. No condition.
-/
import Derived.Test.YthfaimomcbmniaaMFeedNila
import Derived.Test.YthfaimomcbmniaaMFeedNilb
import Derived.Test.YthfaimomcbmniaaMFeedNilc
import Derived.Test.YthfaimomcbmniaaMFeedNild
import Derived.ArgAppend
import Derived.StillTailTactics
import Derived.Deep.Slices
import Derived.ProofKit
import Derived.Test.YthfaimomcbmniaaRows
import Derived.WalkKit
import Derived.OpenShut
import Derived.ShutString
import Derived.ChangeOld
import Derived.Below
import Derived.Laws.Cover2
section
namespace Go.Proofs.Ythfaimomcbmniaa.Z
set_option linter.unusedVariables false
set_option linter.unusedSimpArgs false
open Go.RowKit Go.Proofs.YthfaimomcbmniaaW.PrintWords Go.Proofs.YthfaimomcbmniaaW.PrintLast Go.Proofs.YthfaimomcbmniaaW.PrintMore Go.Proofs.Ythfaimomcbmniaa.Cmp
abbrev Ev := S28
def setSeq (n : Nat) (e : Ev) : Ev := ⟨(n : Int),e.f1,e.f2,e.f3⟩
def numE (n : Nat) : List Ev → List Ev
  | [] => []
  | e :: r => setSeq (n + 1) e :: numE (n + 1) r
theorem numE_len (n : Nat) : ∀ es,(numE n es).length = es.length
  | [] => rfl
  | e :: r => by simp [numE,numE_len (n + 1) r]
theorem numE_snoc (n : Nat) (x : Ev) : ∀ es,numE n (es ++ [x]) = numE n es ++ [setSeq (n + es.length + 1) x]
  | [] => rfl
  | e :: r => by
    have h := numE_snoc (n + 1) x r
    simp only [List.cons_append,numE,h,List.length_cons]
    rw [show n + 1 + r.length + 1 = n + (r.length + 1) + 1 by omega]
theorem numE_take (n : Nat) (es : List Ev) (i : Nat) (h : i < es.length) : numE n (es.take (i + 1)) = numE n (es.take i) ++ [setSeq (n + i + 1) es[i]] := by
  rw [List.take_add_one,List.getElem?_eq_getElem h,Option.toList_some,numE_snoc,List.length_take,Nat.min_eq_left (by omega)]
end Go.Proofs.Ythfaimomcbmniaa.Z
end
section
namespace Go.Proofs.Ythfaimomcbmniaa.Z
set_option linter.unusedVariables false
set_option linter.unusedSimpArgs false
open Go.RowKit Go.Proofs.YthfaimomcbmniaaW.PrintWords Go.Proofs.YthfaimomcbmniaaW.PrintLast Go.Proofs.YthfaimomcbmniaaW.PrintMore
section
variable {α : Type} {d : Kd α} {e : Nat} {w w1 : World} {base : Nat} {ok ok' : Nat → Prop} {v : Value} {xs : List α}
structure QC (d : Kd α) (e : Nat) (w : World) (base : Nat) (ok : Nat → Prop) (g off cap n : Nat) (xs : List α) : Prop where
  len : n = xs.length
  le : n ≤ cap
  max : cap ≤ maxLen
  ge : base ≤ g
  okg : ok g
  blk : ∃ cur,w.heap[g]? = some (.cells cur e (0,0)) ∧ off + cap * d.sz ≤ cur.size
  at_ : ∀ j x,xs[j]? = some x → ∃ c,d.M w base (fun k => ok k ∧ k ≠ g) x c ∧ ∀ i u,c[i]? = some u → w.cell? ⟨g,off + j * d.sz + i,none⟩ = some u
def QP (d : Kd α) (e : Nat) (w : World) (base : Nat) (ok : Nat → Prop) (v : Value) (xs : List α) : Prop :=
  (v = .slice none 0 0 ∧ xs = []) ∨ ∃ g off cap,v = .slice (some ⟨g,off,none⟩) xs.length cap ∧ QC d e w base ok g off cap xs.length xs
theorem QP.nil : QP d e w base ok (.slice none 0 0) [] := .inl ⟨rfl,rfl⟩
theorem QP.slice (h : QP d e w base ok v xs) : ∃ A c,v = .slice A xs.length c := by
  rcases h with ⟨rfl,rfl⟩ | ⟨g,off,cap,rfl,_⟩
  · exact ⟨none,0,rfl⟩
  · exact ⟨_,cap,rfl⟩
theorem QP.own_ok (h : QP d e w base ok v xs) : ∀ k,v.ownBlock = some k → ok k ∧ base ≤ k ∧ k < w.heap.size ∧ ∃ cells,w.heap[k]? = some (.cells cells e (0,0)) := by
  intro k hk
  rcases h with ⟨rfl,rfl⟩ | ⟨g,off,cap,rfl,hq⟩
  · cases hk
  · obtain rfl : g = k := Option.some.inj hk
    obtain ⟨cur,hb,_⟩ := hq.blk
    exact ⟨hq.okg,hq.ge,blk_lt hb,cur,hb⟩
theorem QP.mono (h : QP d e w base ok v xs) (hok : ∀ k,ok k → ok' k) : QP d e w base ok' v xs := by
  rcases h with h | ⟨g,off,cap,hv,hq⟩
  · exact .inl h
  · exact .inr ⟨g,off,cap,hv,⟨hq.len,hq.le,hq.max,hq.ge,hok _ hq.okg,hq.blk,fun j x hx => by
      obtain ⟨c,h1,h2⟩ := hq.at_ j x hx
      exact ⟨c,d.M_mono (fun k hk => ⟨hok k hk.1,hk.2⟩) h1,h2⟩⟩⟩
theorem QP.bound (h : QP d e w base ok v xs) : QP d e w base (fun k => ok k ∧ base ≤ k ∧ k < w.heap.size ∧ ∃ q,q ∈ e :: d.E ∧ ∃ cells,w.heap[k]? = some (.cells cells q (0,0))) v xs := by
  rcases h with h | ⟨g,off,cap,hv,hq⟩
  · exact .inl h
  · obtain ⟨cur,hb,hs⟩ := hq.blk
    refine .inr ⟨g,off,cap,hv,⟨hq.len,hq.le,hq.max,hq.ge,⟨hq.okg,hq.ge,blk_lt hb,e,List.mem_cons_self,cur,hb⟩,hq.blk,fun j x hx => ?_⟩⟩
    obtain ⟨c,h1,h2⟩ := hq.at_ j x hx
    refine ⟨c,d.M_mono (fun k hk => ?_) (d.M_bound h1),h2⟩
    obtain ⟨⟨h3,h4⟩,h5,h6,q,hq,hc⟩ := hk
    exact ⟨⟨h3,h5,h6,q,List.mem_cons_of_mem _ hq,hc⟩,h4⟩
theorem QP.move (h : QP d e w base ok v xs) (hm : ∀ k,ok k → w1.heap[k]? = w.heap[k]?) : QP d e w1 base ok v xs := by
  rcases h with h | ⟨g,off,cap,hv,hq⟩
  · exact .inl h
  · obtain ⟨cur,hb,hs⟩ := hq.blk
    have hg := hm g hq.okg
    refine .inr ⟨g,off,cap,hv,⟨hq.len,hq.le,hq.max,hq.ge,hq.okg,⟨cur,hg.trans hb,hs⟩,fun j x hx => ?_⟩⟩
    obtain ⟨c,h1,h2⟩ := hq.at_ j x hx
    refine ⟨c,d.M_move (fun k hk => hm k hk.1) h1,fun i u hu => ?_⟩
    rw [show w1.cell? ⟨g,off + j * d.sz + i,none⟩ = w.cell? ⟨g,off + j * d.sz + i,none⟩ by simp [World.cell?,hg]]
    exact h2 i u hu
theorem QP.step (h : QP d e w base ok v xs) (hm : ∀ k,ok k → k < w.heap.size → w1.heap[k]? = w.heap[k]?) : QP d e w1 base ok v xs := (h.bound.move (fun k hk => hm k hk.1 hk.2.2.1)).mono (fun _ hk => hk.1)
theorem QP.below (h : QP d e w base ok v xs) (hb : Below w.heap.size w w1) : QP d e w1 base ok v xs := h.step (fun k _ hk => hb.block k hk)
theorem QP.alloc (h : QP d e w base ok v xs) (o : Obj) : QP d e (w.alloc o) base ok v xs := h.below (below_alloc (Below.refl _ _) o)
theorem QP.drew (h : QP d e w base ok v xs) : QP d e w.drew base ok v xs := h.below (below_drew (Below.refl _ _))
theorem QP.far (h : QP d e w base ok v xs) {p : Addr} (hok : ∀ k,ok k → k ≠ p.block) (u : Value) : QP d e (w.setCell p u) base ok v xs := h.step (fun k ho _ => Below.heap_setCell w p u k (hok k ho))
theorem QP.types (h : QP d e w base ok v xs) {g t : Nat} {cells : Array Value} (hb : w.heap[g]? = some (.cells cells t (0,0))) (ht : ∀ q,q ∈ e :: d.E → q ≠ t) : QP d e w base (fun k => ok k ∧ k ≠ g) v xs :=
  h.bound.mono (fun k hk => ⟨hk.1,by
    obtain ⟨_,_,_,q,hq,cells',hc⟩ := hk
    rintro rfl
    rw [hc] at hb
    injection hb with hb
    injection hb with _ hb
    exact ht q hq hb⟩)
theorem QP.set (h : QP d e w base ok v xs) {g t : Nat} {cells : Array Value} (hb : w.heap[g]? = some (.cells cells t (0,0))) (ht : ∀ q,q ∈ e :: d.E → q ≠ t) (j : Nat) (u : Value) : QP d e (w.setCell ⟨g,j,none⟩ u) base ok v xs :=
  ((h.types hb ht).far (p := ⟨g,j,none⟩) (fun _ hk => hk.2) u).mono (fun _ hk => hk.1)
theorem QP.cut {A : Option Addr} {g off n c : Nat} (h : QP d e w base ok (.slice (some ⟨g,off,none⟩) n c) xs) (k : Nat) (hk : k < n) : QP d e w base ok (.slice (some ⟨g,off + k * d.sz,none⟩) (n - k) (n - k)) (xs.drop k) := by
  rcases h with ⟨h,_⟩ | ⟨g',off',cap',hv,hq⟩
  · cases h
  · obtain ⟨rfl,rfl,rfl,rfl⟩ : g = g' ∧ off = off' ∧ n = xs.length ∧ c = cap' := by
      injection hv with h1 h2 h3
      injection h1 with h1
      injection h1 with h4 h5
      exact ⟨h4,h5,h2,h3⟩
    obtain ⟨cur,hb,hs⟩ := hq.blk
    have hle := hq.le
    have hmul : (k + (xs.length - k)) * d.sz ≤ c * d.sz := Nat.mul_le_mul_right _ (by omega)
    rw [Nat.add_mul] at hmul
    refine .inr ⟨g,off + k * d.sz,xs.length - k,by rw [List.length_drop],⟨rfl,by rw [List.length_drop];exact Nat.le_refl _,by have := hq.max;omega,hq.ge,hq.okg,⟨cur,hb,by omega⟩,fun j x hx => ?_⟩⟩
    rw [List.getElem?_drop] at hx
    obtain ⟨cs,h1,h2⟩ := hq.at_ _ x hx
    refine ⟨cs,h1,fun i u hu => ?_⟩
    have := h2 i u hu
    rw [Nat.add_mul] at this
    rw [← this]
    congr 2
    omega
end
end Go.Proofs.Ythfaimomcbmniaa.Z
end
section
namespace Go.Proofs.Ythfaimomcbmniaa.Z
set_option linter.unusedVariables false
set_option linter.unusedSimpArgs false
open Go.RowKit Go.Proofs.YthfaimomcbmniaaW.PrintWords Go.Proofs.YthfaimomcbmniaaW.PrintLast Go.Proofs.YthfaimomcbmniaaW.PrintMore
section
variable {P : Program} {α : Type} {d : Kd α} {e : Nat} {w w1 : World} {base : Nat} {ok ok' : Nat → Prop} {v : Value} {xs : List α}
theorem Q_QP (h : Kd.Q d e w base ok v xs) (hp : 0 < xs.length) : QP d e w base ok v xs := by
  obtain ⟨h0,inner,⟨hl,ho⟩,hr⟩ := h
  rcases ho with ⟨h1,_⟩ | ⟨g,off,cap,cur,rfl,hb,hh,hle,hmx,hsz,ht⟩
  · omega
  · refine .inr ⟨g,off * d.sz,cap,rfl,⟨rfl,hle,by omega,hb,h0 g rfl,⟨cur,hh,by rw [hsz,Nat.add_mul];exact Nat.le_refl _⟩,fun j x hx => ?_⟩⟩
    have hj : j < xs.length := (List.getElem?_eq_some_iff.1 hx).1
    refine ⟨(inner.drop (j * d.sz)).take d.sz,d.M_mono (fun k hk => ⟨hk.1,fun e => hk.2 (by rw [e];rfl)⟩) (hr.2 j x hx),fun i u hu => ?_⟩
    have hi : i < d.sz := by
      have := (List.getElem?_eq_some_iff.1 hu).1
      rw [List.length_take] at this
      omega
    have hm : (j + 1) * d.sz ≤ xs.length * d.sz := Nat.mul_le_mul_right _ hj
    rw [Nat.add_mul] at hm
    rw [List.getElem?_take_of_lt hi,List.getElem?_drop,← ht,List.getElem?_take_of_lt (by omega),List.getElem?_drop,Array.getElem?_toList] at hu
    refine (blk_cell hh _).trans ?_
    rw [Nat.add_assoc]
    exact hu
theorem setCells_size {g t : Nat} : ∀ (vs : List Value) (o : Nat) (w : World) (cur : Array Value),w.heap[g]? = some (.cells cur t (0,0)) → ∃ cur',(w.setCells g o vs).heap[g]? = some (.cells cur' t (0,0)) ∧ cur'.size = cur.size
  | [],_,_,cur,h => ⟨cur,h,rfl⟩
  | v :: r,o,w,cur,h => by
    obtain ⟨cur',h1,h2⟩ := setCells_size r (o + 1) (w.setCell ⟨g,o,none⟩ v) _ (blk_put h o v rfl)
    exact ⟨cur',h1,by rw [h2];simp⟩
theorem QP.run {w0 W : World} (d : Kd α) (base : Nat) (t ty e : TypeId) (z : Value) (bytes : Nat)
    (ht : P.underlying t = some (.slice e)) (hinfo : (P.info? e).map (fun i => (i.zero,i.size,i.bytes)) = some (some z,d.sz,bytes)) (hz : z.cells.size = d.sz) (hs0 : 0 < d.sz) (hb0 : 0 < bytes)
    (v : Value) (xs : List α) (p : α) (cs : List Value) (ok okp : Nat → Prop) (hp : d.M W base okp p cs) (hokp : ∀ k,okp k → ok k ∧ some k ≠ v.ownBlock) (hfresh : ∀ k,W.heap.size ≤ k → ok k)
    (HO : QP d e W base ok v xs) (HB : Below base w0 W) (hbase : base ≤ W.heap.size) (hl : (xs.length + 1) * bytes ≤ 140737488355328) :
    ∃ v1 w1,(Builtin.append_ #[t,t] ty #[v,.slice (some ⟨W.heap.size,0,none⟩) 1 1]).run P (W.alloc (.cells cs.toArray e)) = .ok v1 w1 ∧ QP d e w1 base ok v1 (xs ++ [p]) ∧ Below base w0 w1 ∧ W.grownBy w1 v.ownBlock ∧ (v1.ownBlock = v.ownBlock ∨ ∃ b,v1.ownBlock = some b ∧ W.heap.size ≤ b) := by
  have HO' := HO
  rcases HO with ⟨rfl,rfl⟩ | ⟨g,off,cap,rfl,hq⟩
  · obtain ⟨v1,w1,h1,h2,h3,h4,h5⟩ := Kd.Q_run (P := P) d base t ty e z bytes ht hinfo hz hs0 hb0 (.slice none 0 0) [] p cs ok okp hp hokp hfresh (Kd.Q_nil _ _ _ _ _) HB hbase hl
    exact ⟨v1,w1,h1,Q_QP h2 (by simp),h3,h4,h5⟩
  · obtain ⟨i0,hi,hzz⟩ := Option.map_eq_some_iff.1 hinfo
    simp only [Prod.mk.injEq] at hzz
    obtain ⟨hz0,hz1,hz2⟩ := hzz
    have hlen : xs.length + 1 ≤ 140737488355328 := Nat.le_trans (Nat.le_mul_of_pos_right _ hb0) hl
    have hcl := d.K_len (d.K_of_M hp)
    obtain ⟨cur,hb,hs⟩ := hq.blk
    have hglt := blk_lt hb
    have hgn : g ≠ W.heap.size := by omega
    obtain ⟨W1,hW1⟩ : ∃ W1,W1 = W.alloc (.cells cs.toArray e) := ⟨_,rfl⟩
    have hA : Below W.heap.size W W1 := by rw [hW1];exact below_alloc (Below.refl _ _) _
    have hb1 : W1.heap[g]? = some (.cells cur e (0,0)) := (hA.block g hglt).trans hb
    have hsz1 : W1.heap.size = W.heap.size + 1 := by rw [hW1,World.size_alloc]
    have hnews : ∀ j u,cs[j]? = some u → W1.cell? ((⟨W.heap.size,0,none⟩ : Addr).add j) = some u := by
      rw [hW1]
      simpa using World.news_of_block (cs := cs.toArray) (t := e) (fr := (0,0)) (heap_alloc_new W (.cells cs.toArray e))
    rw [← hW1]
    have hone := d.K_one (d.K_of_M hp)
    have hM : ∀ j x,(xs ++ [p])[j]? = some x → (j < xs.length ∧ xs[j]? = some x) ∨ (j = xs.length ∧ x = p) := by
      intro j x hx
      rcases Nat.lt_trichotomy j xs.length with q | q | q
      · rw [List.getElem?_append_left q] at hx;exact .inl ⟨q,hx⟩
      · subst q
        rw [List.getElem?_append_right (Nat.le_refl _)] at hx
        simp at hx
        exact .inr ⟨rfl,hx.symm⟩
      · rw [List.getElem?_eq_none (by simp;omega)] at hx;cases hx
    by_cases hroom : xs.length + 1 ≤ cap
    · have hme : (xs.length + 1) * d.sz ≤ cap * d.sz := Nat.mul_le_mul_right _ hroom
      rw [Nat.add_mul,Nat.one_mul] at hme
      have hcell : ∀ j,j < cs.length → (W1.cell? ⟨g,off + xs.length * i0.size + j,none⟩).isSome = true := fun j hj => by
        rw [blk_cell hb1,hz1,Array.getElem?_eq_getElem (by omega)]
        rfl
      have hr := run_append_room_cells (P := P) W1 t ty e i0 ht hi g off xs.length cap ⟨W.heap.size,0,none⟩ 1 1 cs (by rw [hcl,hz1,Nat.one_mul]) hnews hone hroom hcell (fun j _ => blk_frozen hb1 _)
      obtain ⟨s1,s2,s3,s4⟩ := setCells_same g cs (off + xs.length * i0.size) W1
      have far : ∀ k,k < W.heap.size → k ≠ g → (W1.setCells g (off + xs.length * i0.size) cs).heap[k]? = W.heap[k]? := fun k hk hn => (setCells_far cs _ k hn).trans (hA.block k hk)
      have hg : W.grownBy (W1.setCells g (off + xs.length * i0.size) cs) (some g) := ⟨s1.trans hA.os,s2.trans hA.tape,s3.trans hA.output,by omega,fun k hk hne => far k hk (fun q => hne (by rw [q]))⟩
      refine ⟨_,_,hr,?_,HB.grown hg hbase (fun k hk => by obtain rfl := Option.some.inj hk;exact hq.ge),hg,.inl rfl⟩
      obtain ⟨cur',hb2,hs2⟩ := setCells_size cs (off + xs.length * i0.size) W1 cur hb1
      refine .inr ⟨g,off,cap,by rw [List.length_append];rfl,⟨rfl,by rw [List.length_append];exact hroom,hq.max,hq.ge,hq.okg,⟨cur',hb2,by omega⟩,fun j x hx => ?_⟩⟩
      rcases hM j x hx with ⟨hj,hx⟩ | ⟨rfl,rfl⟩
      · obtain ⟨c,h1,h2⟩ := hq.at_ j x hx
        refine ⟨c,d.M_mono (fun k hk => hk.1) (d.M_move (fun k hk => far k hk.2.2.1 hk.1.2) (d.M_bound h1)),fun i u hu => ?_⟩
        have hil : i < d.sz := by have := (List.getElem?_eq_some_iff.1 hu).1;have := d.K_len (d.K_of_M h1);omega
        have hm : (j + 1) * d.sz ≤ xs.length * d.sz := Nat.mul_le_mul_right _ hj
        rw [Nat.add_mul] at hm
        rw [World.cell?_setCells_out g cs _ W1 ⟨g,off + j * d.sz + i,none⟩ (fun _ _ => .inl (by show off + j * d.sz + i < off + xs.length * i0.size;rw [hz1];omega))]
        exact (blk_cell hb1 _).trans ((blk_cell hb _).symm.trans (h2 i u hu))
      · refine ⟨cs,d.M_mono (fun k hk => ⟨(hokp k hk.1).1,fun q => (hokp k hk.1).2 (by rw [q];rfl)⟩) (d.M_move (fun k hk => far k hk.2.2.1 (fun q => (hokp k hk.1).2 (by rw [q];rfl))) (d.M_bound hp)),fun i u hu => ?_⟩
        obtain ⟨hil,hiu⟩ := List.getElem?_eq_some_iff.1 hu
        have := World.cell?_setCells_in g cs (off + xs.length * i0.size) W1 hcell i hil
        rw [hiu,hz1] at this
        rw [hz1]
        exact this
    · have hlo : ((cur.toList.drop off).take (xs.length * d.sz)).length = xs.length * d.sz := by
        have hme : xs.length * d.sz ≤ cap * d.sz := Nat.mul_le_mul_right _ hq.le
        rw [List.length_take,List.length_drop,Array.length_toList]
        exact Nat.min_eq_left (Nat.le_sub_of_add_le (by rw [Nat.add_comm];exact Nat.le_trans (Nat.add_le_add_left hme off) hs))
      have holds : ∀ j u,((cur.toList.drop off).take (xs.length * d.sz))[j]? = some u → W1.cell? ((⟨g,off,none⟩ : Addr).add j) = some u := by
        intro j u hu
        have hj : j < xs.length * d.sz := by have := (List.getElem?_eq_some_iff.1 hu).1;omega
        rw [List.getElem?_take_of_lt hj,List.getElem?_drop,Array.getElem?_toList] at hu
        rw [Addr.add_lit]
        exact (blk_cell hb1 _).trans hu
      obtain ⟨v',w',hr,⟨hl1,ho⟩,hg1⟩ := run_append_arg_grows (P := P) W1 t ty e i0 z d.sz bytes ht hi hz0 hz1 hz2 hz hs0 ⟨g,off,none⟩ xs.length cap ((cur.toList.drop off).take (xs.length * d.sz)) hlo holds ⟨W.heap.size,0,none⟩ 1 1 cs (by rw [hcl,Nat.one_mul]) hnews (by omega) (by simp only [maxLen];omega) hl
      rcases ho with ⟨_,h0⟩ | ⟨g',cap',cur',rfl,hge,hh,hle,hmx,hsz,htk⟩
      · omega
      have far : ∀ k,k < W.heap.size → w'.heap[k]? = W.heap[k]? := fun k hk => (hg1.block k (by omega) (by simp)).trans (hA.block k hk)
      have hg : W.grownBy w' (Value.slice (some ⟨g,off,none⟩) xs.length cap).ownBlock := ⟨hg1.os.trans hA.os,hg1.tape.trans hA.tape,hg1.output.trans hA.output,by have := hg1.size;omega,fun k hk _ => far k hk⟩
      refine ⟨_,_,hr,?_,HB.grown hg hbase (fun k hk => by obtain rfl := Option.some.inj hk;exact hq.ge),hg,.inr ⟨g',rfl,by omega⟩⟩
      refine .inr ⟨g',0,cap',by rw [List.length_append];rfl,⟨rfl,by rw [List.length_append];exact hle,hmx,by omega,hfresh g' (by omega),⟨cur',hh,by rw [hsz];omega⟩,fun j x hx => ?_⟩⟩
      have get : ∀ q,q < (xs.length + 1) * d.sz → cur'[q]? = ((cur.toList.drop off).take (xs.length * d.sz) ++ cs)[q]? := fun q hq => by
        rw [← htk,List.getElem?_take_of_lt hq,Array.getElem?_toList]
      have hmul : (xs.length + 1) * d.sz = xs.length * d.sz + d.sz := by rw [Nat.add_mul,Nat.one_mul]
      rcases hM j x hx with ⟨hj,hx⟩ | ⟨rfl,rfl⟩
      · obtain ⟨c,h1,h2⟩ := hq.at_ j x hx
        refine ⟨c,d.M_mono (fun k hk => ⟨hk.1.1,fun q => by have := hk.2.2.1;omega⟩) (d.M_move (fun k hk => far k hk.2.2.1) (d.M_bound h1)),fun i u hu => ?_⟩
        have hil : i < d.sz := by have := (List.getElem?_eq_some_iff.1 hu).1;have := d.K_len (d.K_of_M h1);omega
        have hm : (j + 1) * d.sz ≤ xs.length * d.sz := Nat.mul_le_mul_right _ hj
        rw [Nat.add_mul] at hm
        have h3 := h2 i u hu
        refine (blk_cell hh _).trans ?_
        rw [Nat.zero_add,get _ (by omega),List.getElem?_append_left (by omega),List.getElem?_take_of_lt (by omega),List.getElem?_drop,Array.getElem?_toList,← Nat.add_assoc]
        exact (blk_cell hb _).symm.trans h3
      · refine ⟨cs,d.M_mono (fun k hk => ⟨(hokp k hk.1).1,fun q => by have := hk.2.2.1;omega⟩) (d.M_move (fun k hk => far k hk.2.2.1) (d.M_bound hp)),fun i u hu => ?_⟩
        have hil := (List.getElem?_eq_some_iff.1 hu).1
        refine (blk_cell hh _).trans ?_
        rw [Nat.zero_add,get _ (by omega),List.getElem?_append_right (by omega),hlo,show xs.length * d.sz + i - xs.length * d.sz = i by omega]
        exact hu
theorem QP.append_step {ops : Array Oper} {o : Oper} {a : Act} {Q' : Exit → Act → World → Prop} {Kc : Act → World → Prop} (d : Kd α) {w0 W : World} (base : Nat) (hw : Region.wanted o (yielded ops a.tmps) = true) (s x : Operand) (t e : TypeId) (z : Value) (bytes : Nat)
    (ho : o.op = .call { callee := .builtin .append,args := #[s,x],argTypes := #[t,t] })
    (ht : P.underlying t = some (.slice e)) (hinfo : (P.info? e).map (fun i => (i.zero,i.size,i.bytes)) = some (some z,d.sz,bytes)) (hz : z.cells.size = d.sz) (hs0 : 0 < d.sz) (hb0 : 0 < bytes)
    (v : Value) (xs : List α) (p : α) (cs : List Value) (ok okp : Nat → Prop) (hs : a.eval s = v) (hx : a.eval x = .slice (some ⟨W.heap.size,0,none⟩) 1 1) (hp : d.M W base okp p cs) (hokp : ∀ k,okp k → ok k ∧ some k ≠ v.ownBlock) (hfresh : ∀ k,W.heap.size ≤ k → ok k)
    (HO : QP d e W base ok v xs) (HB : Below base w0 W) (hbase : base ≤ W.heap.size) (hl : (xs.length + 1) * bytes ≤ 140737488355328)
    (h : ∀ v1 w1,QP d e w1 base ok v1 (xs ++ [p]) → Below base w0 w1 → W.grownBy w1 v.ownBlock → (v1.ownBlock = v.ownBlock ∨ ∃ b,v1.ownBlock = some b ∧ W.heap.size ≤ b) → Kc (a.put o.dst v1) w1) :
    if Region.wanted o (yielded ops a.tmps) = true then Oper.wp P o a (W.alloc (.cells cs.toArray e)) Kc Q' else Kc (a.put o.dst undef) (W.alloc (.cells cs.toArray e)) := by
  obtain ⟨v1,w1,hr,h1,h2,h3,h4⟩ := QP.run (P := P) d base t o.type e z bytes ht hinfo hz hs0 hb0 v xs p cs ok okp hp hokp hfresh HO HB hbase hl
  rw [if_pos hw]
  unfold Oper.wp execOp
  simp only [ho,resolve,invoke,builtin,Sem.run_bind,Sem.run_pure,Result.andThen_ok,List.map_toArray,List.map_cons,List.map_nil,hs,hx,hr]
  exact h v1 w1 h1 h2 h3 h4
theorem QP.ne (h : QP d e w base ok v xs) {g t : Nat} {cells : Array Value} (hb : w.heap[g]? = some (.cells cells t (0,0))) (ht : e ≠ t) : some g ≠ v.ownBlock := fun q => by
  obtain ⟨_,_,_,c,hc⟩ := h.own_ok g q.symm
  rw [hc] at hb
  injection hb with hb
  injection hb with _ hb
  exact ht hb
end
end Go.Proofs.Ythfaimomcbmniaa.Z
end
section
namespace Go.Proofs.Ythfaimomcbmniaa.Z
open Go.RowKit Go.Proofs.YthfaimomcbmniaaW.PrintWords Go.Proofs.YthfaimomcbmniaaW.PrintLast Go.Proofs.YthfaimomcbmniaaW.PrintMore
attribute [local go_sem] max2_int min2_int max_two min_two max_three min_three max_four min_four
set_option linter.unusedVariables false
set_option linter.unusedSimpArgs false
def slices_Clone.f (l0 : List (S149)) : Option ((List (S149))) := (some (([] : List (S149)) : List (S149))).bind fun y119 => (if y119.length + l0.length < 3518437208883 then (some (y119 ++ l0)) else (none))
set_option maxHeartbeats 8000000 in
set_option maxRecDepth 100000 in
theorem slices_Clone.calls (A0 : Option Addr) (c0 : Nat) (l0 : List (S149)) (r : List (S149)) (w : World) (hr0 : Kd.C k149 w A0 l0.length l0) (hc0 : l0.length ≤ c0) (h : slices_Clone.f l0 = some r) :
    Calls Try.prog 113 #[.slice A0 l0.length c0] w fun e w' => ∃ v0_ : Value,e = .returned (v0_) ∧ Kd.R k149 149 w' w.heap.size (fun _ => True) v0_ r ∧ Below w.heap.size w w' := by
  have hq22 : ∀ (W : World) a n c,Sem.run Try.prog (binOp .eql 26 (.slice a n c) (.slice none 0 0)) W = .ok (.bool a.isNone) W := fun W a n c => Lib.run_eql_slice_nil W _ _ a n c 0 0 Try.underlying26
  cases A0 with
  | none =>
    obtain rfl : l0 = [] := C_none hr0
    obtain rfl : r = [] := by simpa [slices_Clone.f] using h.symm
    go_enter Try.func113,Try.ntmps113
    go_wp2
    go_ret
    exact ⟨_,rfl,Kd.R_nil _ _ _ _ _,Below.refl _ _⟩
  | some ad0 =>
  have HR0 := Aside0.mk hr0
  have HC0 := Aside0.mk hc0
  clear hr0 hc0
  have HB := Aside0.mk (Below.refl w.heap.size w)
  have H : ((some (([] : List (S149)) : List (S149))).bind fun y119 => (if y119.length + l0.length < 3518437208883 then (some (y119 ++ l0)) else (none))) = some r := h
  clear h
  obtain ⟨y119,hy119⟩ : ∃ y_ : List (S149),y_ = (([] : List (S149))) := ⟨_,rfl⟩
  replace H : (if y119.length + l0.length < 3518437208883 then (some (y119 ++ l0)) else (none)) = some r := by first | (rw [hy119];with_reducible exact H) | (have H2_ := (Option.bind_some _ _).symm.trans H;rw [hy119];with_reducible exact H2_) | (have H2_ := (Option.bind_some _ _).symm.trans H;with_reducible exact H2_) | with_reducible exact H | (rw [hy119];exact H) | exact H
  have Ny119 := Aside0.mk hy119
  clear hy119
  by_cases c2 : y119.length + l0.length < 3518437208883
  · rw [if_pos c2] at H
    have LMc2 := Aside0.mk c2
    clear c2
    obtain ⟨y122,hy122⟩ : ∃ y_ : List (S149),y_ = (y119 ++ l0) := ⟨_,rfl⟩
    replace H : (some y122) = some r := by first | (rw [hy122];with_reducible exact H) | (have H2_ := (Option.bind_some _ _).symm.trans H;rw [hy122];with_reducible exact H2_) | (have H2_ := (Option.bind_some _ _).symm.trans H;with_reducible exact H2_) | with_reducible exact H | (rw [hy122];exact H) | exact H
    have Ny122 := Aside0.mk hy122
    clear hy122
    obtain rfl := Option.some.inj H
    go_enter Try.func113,Try.ntmps113
    go_wp2_with (first | ((with_reducible refine gate_dst (N := 5) rfl ?_);refine Kd.R_lit k149 _ 149 ?hg (N := 5) ?hd (xs := ([] : List (S149))) (inner := []) (ok := fun _ => True) (okp := fun _ => True) ?hr ?hp (fun _ hk => hk) trivial (Below.refl _ _) (Nat.le_refl _) (by simp) ?_;(case hd => rfl);(case hg => rfl);(case hr => first | (go_simp;done) | (go_simp;rfl));(case hp => exact (Reps.none _ _));intro v120 w3 ho4 hb hg_ hnew_;clear hg_ hnew_;(first | rw [← Ny119.out] at ho4 | (simp only [Int.reduceToNat] at ho4;rw [← Ny119.out] at ho4));have n0_ := Aside0.mk (Kd.R_lower ho4 (below_size (by repeat (first | (with_reducible first | exact HB.out | apply below_alloc | apply pw_below_drewN | apply below_drew1) | exact HB.out))));have n1_ := Aside0.mk (below_step (by repeat (first | (with_reducible first | exact HB.out | apply below_alloc | apply pw_below_drewN | apply below_drew1) | exact HB.out)) hb);clear HB;have HO121 := n0_;have HB := n1_;clear n0_ n1_;clear hb ho4) | ((with_reducible refine gate_builtin (b := .append) (xs := #[.tmp 5,.tmp 6]) rfl ?_);at_builtin;refine Kd.R_append_rows k149 (w0 := w) w.heap.size rfl (.tmp 5) (.tmp 6) 26 149 (.agg #[(.int .i64 0),(.bool false),(.int .i64 0),(.string ⟨#[]⟩)]) 40 rfl Try.underlying26 info149 rfl (by decide) (by omega) v120 y119 l0 _ _ _ (fun _ => True) (fun _ => False) rfl rfl ?aO ?aR (fun _ _ h => h) (fun _ h => h.elim) ?aF ?aB ?aS ?aL ?_;(case aR => repeat (first | exact (Kd.C_below HR0.out HB.out) | (with_reducible refine Kd.C_alloc ?_ _) | (with_reducible refine Kd.C_drewN ?_ _) | (with_reducible refine Kd.C_drew ?_)));(case aB => exact (by repeat (first | (with_reducible first | exact HB.out | apply below_alloc | apply pw_below_drewN | apply below_drew1) | exact HB.out)));(case aF => exact (fun _ _ => trivial));(case aO => exact (by (with_reducible repeat (first | apply Kd.R_alloc | apply Kd.R_drewN | apply Kd.R_drew));exact HO121.out));(case aS => exact (below_size (by repeat (first | (with_reducible first | exact HB.out | apply below_alloc | apply pw_below_drewN | apply below_drew1) | exact HB.out))));(case aL => have := LMc2.out;omega);intro v123 w5 ho hb hg hat;rw [← Ny122.out] at ho;have n0_ := Aside0.mk (hb);have n1_ := Aside0.mk (ho);clear HB;clear HO121;have HB := n0_;have HO124 := n1_;clear n0_ n1_;clear ho hb hg hat))
    go_ret
    exact ⟨_,by first | rfl | (simp [errW_none,errW_some] <;> rfl) | (simp [*,errW_none,errW_some] <;> rfl),by (with_reducible repeat (first | apply Kd.R_alloc | apply Kd.R_drewN | apply Kd.R_drew));exact HO124.out,by repeat (first | (with_reducible first | exact HB.out | apply below_alloc | apply pw_below_drewN | apply below_drew1) | exact HB.out)⟩
  · rw [if_neg c2] at H
    exact absurd H (by simp)
end Go.Proofs.Ythfaimomcbmniaa.Z
end
section
namespace Go.Proofs.Ythfaimomcbmniaa.Z
open Go.RowKit Go.Proofs.YthfaimomcbmniaaW.PrintWords Go.Proofs.YthfaimomcbmniaaW.PrintLast Go.Proofs.YthfaimomcbmniaaW.PrintMore
attribute [local go_sem] max2_int min2_int max_two min_two max_three min_three max_four min_four
set_option linter.unusedVariables false
set_option linter.unusedSimpArgs false
def row_Of.f (l0 : List (S149)) : Option ((List (S149))) := (slices_Clone.f l0).bind fun t125 => (some t125)
set_option maxHeartbeats 8000000 in
set_option maxRecDepth 100000 in
theorem row_Of.calls (A0 : Option Addr) (c0 : Nat) (l0 : List (S149)) (r : List (S149)) (w : World) (hr0 : Kd.C k149 w A0 l0.length l0) (hc0 : l0.length ≤ c0) (h : row_Of.f l0 = some r) :
    Calls Try.prog 67 #[.slice A0 l0.length c0] w fun e w' => ∃ v0_ : Value,e = .returned (v0_) ∧ Kd.R k149 149 w' w.heap.size (fun _ => True) v0_ r ∧ Below w.heap.size w w' := by
  have HR0 := Aside0.mk hr0
  have HC0 := Aside0.mk hc0
  clear hr0 hc0
  have HB := Aside0.mk (Below.refl w.heap.size w)
  have H : ((slices_Clone.f l0).bind fun t125 => (some t125)) = some r := h
  clear h
  replace H := Option.bind_eq_some_iff.mp H
  obtain ⟨t125,A20,H⟩ := H
  replace H : (some t125) = some r := H
  have A2 := Aside0.mk A20
  clear A20
  obtain rfl := Option.some.inj H
  go_enter Try.func67,Try.ntmps67
  go_wp2_with (first | ((with_reducible refine gate_callee (f := 113) rfl ?_);refine goesL_ (some 4) rfl rfl Try.func113 (by kernel_rfl) rfl #[.slice A0 l0.length c0] rfl (by (try simp only [List.map_toArray,List.map_cons,List.map_nil]);first | done | rfl | (simp only [List.length_drop,List.length_take];rfl)) ?_;(with_reducible refine (slices_Clone.calls _ _ l0 t125 _ ?side1 ?side2 A2.out).mono ?_);(case side1 => repeat (first | exact HR0.out | (with_reducible refine Kd.C_alloc ?_ _) | (with_reducible refine Kd.C_drewN ?_ _) | (with_reducible refine Kd.C_drew ?_)));(case side2 => exact HC0.out);rintro e w3 ⟨v126,rfl,ho0,hb⟩;refine ⟨_,rfl,?_⟩;have n0_ := Aside0.mk (Kd.R_lower ho0 (below_size (by repeat (first | (with_reducible first | exact HB.out | apply below_alloc | apply pw_below_drewN | apply below_drew1) | exact HB.out))));have n1_ := Aside0.mk (below_step (by repeat (first | (with_reducible first | exact HB.out | apply below_alloc | apply pw_below_drewN | apply below_drew1) | exact HB.out)) hb);clear HB;have HO127 := n0_;have HB := n1_;clear n0_ n1_;(try clear hb);(try clear hb2);(try clear hk);(try clear hi);(try clear ho0)))
  go_ret
  exact ⟨_,by first | rfl | (simp [errW_none,errW_some] <;> rfl) | (simp [*,errW_none,errW_some] <;> rfl),by (with_reducible repeat (first | apply Kd.R_alloc | apply Kd.R_drewN | apply Kd.R_drew));exact HO127.out,by repeat (first | (with_reducible first | exact HB.out | apply below_alloc | apply pw_below_drewN | apply below_drew1) | exact HB.out)⟩
end Go.Proofs.Ythfaimomcbmniaa.Z
end
section
namespace Go.Proofs.Ythfaimomcbmniaa.Z
set_option linter.unusedVariables false
set_option linter.unusedSimpArgs false
open Go.RowKit Go.Proofs.YthfaimomcbmniaaW.PrintWords Go.Proofs.YthfaimomcbmniaaW.PrintLast Go.Proofs.YthfaimomcbmniaaW.PrintMore Go.Proofs.Ythfaimomcbmniaa.Cmp
abbrev kEv := k28
structure FeedAt (w : World) (f N : Nat) (v : Value) (ks : List Ev) (last : Nat) : Prop where
  blk : w.heap[f]? = some (.cells #[v,.int .i64 (last : Int)] 109 (0,0))
  q : QP kEv 28 w N (fun _ => True) v ks
  le : N ≤ f
theorem FeedAt.below {w w1 : World} {f N : Nat} {v : Value} {ks : List Ev} {last : Nat} (h : FeedAt w f N v ks last) (hb : Below w.heap.size w w1) : FeedAt w1 f N v ks last :=
  ⟨(hb.block f (blk_lt h.blk)).trans h.blk,QP.below h.q hb,h.le⟩
theorem FeedAt.new {w : World} {N : Nat} (hN : N ≤ w.heap.size) : FeedAt (w.alloc (Obj.cells #[.slice none 0 0,.int .i64 0] 109)) w.heap.size N (.slice none 0 0) [] 0 :=
  ⟨blk_new w _,QP.nil,hN⟩
set_option maxHeartbeats 2000000 in
set_option maxRecDepth 100000 in
theorem feed_new (w : World) (N : Nat) (hN : N ≤ w.heap.size) : Calls Try.prog 18 #[] w fun e w' => ∃ f,e = .returned (.pointer (some ⟨f,0,none⟩)) ∧ FeedAt w' f N (.slice none 0 0) [] 0 ∧ Below w.heap.size w w' := by
  have HF := Aside0.mk (FeedAt.new hN)
  have HB := Aside0.mk (below_alloc (Below.refl w.heap.size w) (Obj.cells #[.slice none 0 0,.int .i64 0] 109))
  clear hN
  go_enter Try.func18,Try.ntmps18
  go_wp2
  go_ret
  exact ⟨_,rfl,HF.out,HB.out⟩
set_option maxHeartbeats 2000000 in
set_option maxRecDepth 100000 in
theorem feed_last {w : World} {f N : Nat} {v : Value} {ks : List Ev} {last : Nat} (h : FeedAt w f N v ks last) : Calls Try.prog 22 #[.pointer (some ⟨f,0,none⟩)] w fun e w' => e = .returned (.int .i64 (last : Int)) ∧ w = w' := by
  have x1 := (blk_cell h.blk 1).trans rfl
  go_enter Try.func22,Try.ntmps22
  go_wp2
  go_ret
  exact ⟨rfl,rfl⟩
set_option maxHeartbeats 2000000 in
set_option maxRecDepth 100000 in
theorem feed_last0 (w : World) : Calls Try.prog 22 #[.pointer none] w fun e w' => e = .returned (.int .i64 0) ∧ w = w' := by
  go_enter Try.func22,Try.ntmps22
  go_wp2
  go_ret
  exact ⟨rfl,rfl⟩
set_option maxHeartbeats 2000000 in
set_option maxRecDepth 100000 in
theorem feed_kept {w : World} {f N : Nat} {v : Value} {ks : List Ev} {last : Nat} (h : FeedAt w f N v ks last) : Calls Try.prog 24 #[.pointer (some ⟨f,0,none⟩)] w fun e w' => e = .returned (.int .i64 (ks.length : Int)) ∧ w = w' := by
  obtain ⟨A,c,rfl⟩ := h.q.slice
  have x0 := (blk_cell h.blk 0).trans rfl
  go_enter Try.func24,Try.ntmps24
  go_wp2
  go_ret
  exact ⟨rfl,rfl⟩
set_option maxHeartbeats 2000000 in
set_option maxRecDepth 100000 in
theorem feed_kept0 (w : World) : Calls Try.prog 24 #[.pointer none] w fun e w' => e = .returned (.int .i64 0) ∧ w = w' := by
  go_enter Try.func24,Try.ntmps24
  go_wp2
  go_ret
  exact ⟨rfl,rfl⟩
set_option maxHeartbeats 2000000 in
set_option maxRecDepth 100000 in
theorem feed_copy0 (w : World) : Calls Try.prog 19 #[.pointer none] w fun e w' => e = .returned (.pointer none) ∧ w = w' := by
  go_enter Try.func19,Try.ntmps19
  go_wp2
  go_ret
  exact ⟨rfl,rfl⟩
set_option maxHeartbeats 2000000 in
set_option maxRecDepth 100000 in
theorem feed_read0 (m : Int) (w : World) : Calls Try.prog 26 #[.pointer none,.int .i64 m] w fun e w' => e = .returned (.tuple #[.slice none 0 0,.int .i64 1]) ∧ w = w' := by
  go_enter Try.func26,Try.ntmps26
  go_wp2
  go_ret2
  exact ⟨rfl,rfl⟩
set_option maxHeartbeats 2000000 in
set_option maxRecDepth 100000 in
theorem feed_push0 (A : Option Addr) (n c : Nat) (w : World) : Calls Try.prog 20 #[.pointer none,.slice A n c] w fun e w' => e = .returned (.int .i64 1) ∧ w = w' := by
  go_enter Try.func20,Try.ntmps20
  go_wp2
  go_ret
  exact ⟨rfl,rfl⟩
end Go.Proofs.Ythfaimomcbmniaa.Z
end
section
namespace Go.Proofs.Ythfaimomcbmniaa.Z
set_option linter.unusedVariables false
set_option linter.unusedSimpArgs false
open Go.RowKit Go.Proofs.YthfaimomcbmniaaW.PrintWords Go.Proofs.YthfaimomcbmniaaW.PrintLast Go.Proofs.YthfaimomcbmniaaW.PrintMore Go.Proofs.Ythfaimomcbmniaa.Cmp
theorem of_copy (x : List S149) (hx : x.length < 3518437208883) : row_Of.f x = some x := by
  unfold row_Of.f slices_Clone.f
  simp only [Option.bind_some,List.length_nil,Nat.zero_add,List.nil_append]
  rw [if_pos hx]
  rfl
structure FCh (w w' : World) (f : Nat) (v v' : Value) : Prop where
  os : w'.os = w.os
  tape : w'.tape = w.tape
  output : w'.output = w.output
  size : w.heap.size ≤ w'.heap.size
  block : ∀ k,k < w.heap.size → k ≠ f → some k ≠ v.ownBlock → w'.heap[k]? = w.heap[k]?
  own : v'.ownBlock = v.ownBlock ∨ ∀ k,v'.ownBlock = some k → w.heap.size ≤ k
theorem FCh.refl (w : World) (f : Nat) (v : Value) : FCh w w f v v := ⟨rfl,rfl,rfl,Nat.le_refl _,fun _ _ _ _ => rfl,.inl rfl⟩
theorem FCh.trans {w w1 w2 : World} {f : Nat} {v v1 v2 : Value} (h : FCh w w1 f v v1) (k : FCh w1 w2 f v1 v2) : FCh w w2 f v v2 := by
  refine ⟨k.os.trans h.os,k.tape.trans h.tape,k.output.trans h.output,Nat.le_trans h.size k.size,fun j hj hf hv => (k.block j (Nat.lt_of_lt_of_le hj h.size) hf (fun e => ?_)).trans (h.block j hj hf hv),?_⟩
  · rcases h.own with q | q
    · exact hv (e.trans q)
    · have := q j e.symm;omega
  · rcases k.own with q | q
    · rw [q];exact h.own
    · exact .inr (fun j hj => Nat.le_trans h.size (q j hj))
theorem FCh.toBelow {w w' : World} {f N : Nat} {v v' : Value} (h : FCh w w' f v v') (hN : N ≤ w.heap.size) (hf : N ≤ f) (hv : ∀ k,v.ownBlock = some k → N ≤ k) : Below N w w' :=
  ⟨h.os,h.tape,h.output,h.size,fun k hk => h.block k (by omega) (by omega) (fun e => by have := hv k e.symm;omega)⟩
theorem FCh.below {w w1 w2 : World} {f : Nat} {v v1 : Value} (h : FCh w w1 f v v1) (hb : Below w1.heap.size w1 w2) : FCh w w2 f v v1 :=
  ⟨hb.os.trans h.os,hb.tape.trans h.tape,hb.output.trans h.output,Nat.le_trans h.size hb.size,fun k hk hf hv => (hb.block k (Nat.lt_of_lt_of_le hk h.size)).trans (h.block k hk hf hv),h.own⟩
theorem FCh.step {w w1 w2 : World} {f : Nat} {v v1 : Value} (h : FCh w w1 f v v1) (hf : FCh w1 w2 f v1 v1) : FCh w w2 f v v1 := h.trans hf
set_option maxHeartbeats 8000000 in
set_option maxRecDepth 100000 in
theorem push_round (w : World) (f N last : Nat) (v : Value) (ks : List Ev) (hF : FeedAt w f N v ks last) (hN : N ≤ w.heap.size) (A : Option Addr) (n c : Nat) (es : List Ev) (ok : Nat → Prop) (hE : Kd.F kEv w ok A n es) (hok : ∀ k,ok k → k ≠ f ∧ some k ≠ v.ownBlock) (hn : n ≤ 1000) (hl : last ≤ 1000000) (hks : ks.length ≤ 40) (hR : ∀ x ∈ es,x.f3.length < 3518437208883) :
    Calls Try.prog 20 #[.pointer (some ⟨f,0,none⟩),.slice A n c] w fun e w' => ∃ v',e = .returned (.int .i64 0) ∧ FeedAt w' f N v' (if ks.length + n ≤ 40 then ks ++ numE last es else (ks ++ numE last es).drop (ks.length + n - 40)) (last + n) ∧ FCh w w' f v v' := by
  have HF := Aside0.mk hF
  have HN := Aside0.mk hN
  have HE := Aside0.mk hE
  have HO := Aside0.mk hok
  have HK := Aside0.mk hks
  have HEL := Aside0.mk (show es.length = n from (Kd.F_now hE).1)
  have C0 := Aside0.mk (FCh.refl w f v)
  have HFL := Aside0.mk hF.le
  have HRL := Aside0.mk hR
  clear hF hN hE hok hks hR
  go_enter Try.func20,Try.ntmps20
  go_wp2
  go_loopw [12] (fun iv wr => ∃ (i : Nat) (vi : Value),iv = .int .i64 (i : Int) ∧ i ≤ n ∧ Aside0 (FeedAt wr f N vi (ks ++ numE last (es.take i)) (last + i)) ∧ Aside0 (FCh w wr f v vi)) (fun iv _ => n - (intOf iv).toNat)
  case atStart => exact ⟨0,v,rfl,Nat.zero_le _,⟨by rw [List.take_zero];simpa [numE] using HF.out⟩,C0⟩
  case round =>
    clear HF C0
    rename World => wr
    obtain ⟨i,vi,rfl,hi,HF,C1⟩ := hrel
    obtain ⟨KL,hKL⟩ : ∃ KL,ks ++ numE last (es.take i) = KL := ⟨_,rfl⟩
    have HKL := Aside0.mk hKL
    rw [hKL] at HF
    clear hKL
    by_cases hlt : i < n
    · obtain ⟨x,hx⟩ : ∃ x,es[i]? = some x := ⟨es[i]'(by have := HEL.out;omega),List.getElem?_eq_getElem _⟩
      have HX := Aside0.mk hx
      have FE := Aside0.mk (show Kd.F kEv wr ok A n es from Kd.F_step HE.out (fun k hk hlt => C1.out.block k hlt (HO.out k hk).1 (HO.out k hk).2))
      obtain ⟨ad,cs,rfl,_,hcs,hcell,_⟩ := Kd.F_get FE.out (⟨0,false,⟨#[]⟩,[]⟩ : Ev) (i : Int) (by omega) (by omega)
      rw [Int.toNat_natCast,List.getD_eq_getElem?_getD,hx] at hcs
      obtain ⟨Ax,cx,rfl,hcx,hrx⟩ := k28_openF hcs
      simp only [Option.getD_some] at hcell hcx hrx
      have x0 : wr.cell? (ad.add (i * 4)) = some (.int .i64 x.f0) := hcell 0 _ rfl
      have x1 : wr.cell? ⟨(ad.add (i * 4)).block,(ad.add (i * 4)).off + 1,none⟩ = some (.bool x.f1) := by rw [← add_field _ _ 1 (by omega)];exact hcell 1 _ rfl
      have x2 : wr.cell? ⟨(ad.add (i * 4)).block,(ad.add (i * 4)).off + 2,none⟩ = some (.string x.f2) := by rw [← add_field _ _ 2 (by omega)];exact hcell 2 _ rfl
      have x3 : wr.cell? ⟨(ad.add (i * 4)).block,(ad.add (i * 4)).off + 3,none⟩ = some (.slice Ax x.f3.length cx) := by rw [← add_field _ _ 3 (by omega)];exact hcell 3 _ rfl
      have RX := Aside0.mk hrx
      have RC := Aside0.mk hcx
      clear hcell hcs hrx hcx hx
      obtain ⟨Av,cv,rfl⟩ := HF.out.q.slice
      obtain ⟨ob,hob⟩ : ∃ ob,ob = Obj.cells #[.int .i64 x.f0,.bool x.f1,.string x.f2,.slice Ax x.f3.length cx] 28 := ⟨_,rfl⟩
      have HA := Aside0.mk (HF.out.below (below_alloc (Below.refl _ _) ob))
      have BX := Aside0.mk (show (wr.alloc ob).heap[wr.heap.size]? = some (.cells #[.int .i64 x.f0,.bool x.f1,.string x.f2,.slice Ax x.f3.length cx] 28 (0,0)) by rw [hob];exact blk_new wr _)
      have y1 : (wr.alloc ob).cell? ⟨f,1,none⟩ = some (.int .i64 ((last + i : Nat) : Int)) := blk_cell HA.out.blk 1
      have z1 : ∀ o,(wr.alloc ob).frozen? ⟨f,o,none⟩ = false := fun o => blk_frozen HA.out.blk o
      have C2 := Aside0.mk (C1.out.below (below_alloc (Below.refl _ _) ob))
      have FA := Aside0.mk (Kd.F_alloc FE.out ob)
      have RXA := Aside0.mk (Kd.F_alloc RX.out ob)
      subst hob
      clear FE RX
      have p0 : (0 : Int) ≤ (i : Int) := by omega
      have p1 : (i : Int) < (n : Int) := by omega
      have k0 : decide ((i : Int) < (n : Int)) = true := decide_eq_true (by omega)
      have hwl : IntKind.i64.wrap (((last + i : Nat) : Int) + 1) = ((last + i + 1 : Nat) : Int) := by rw [IntKind.wrap_i64];omega
      go_wp2_with (fail)
      obtain ⟨q,hq⟩ : ∃ q : Nat,last + i + 1 = q := ⟨_,rfl⟩
      have HQ := Aside0.mk hq
      have e7 : ((last : Int) + (i : Int) + 1) = (q : Int) := by omega
      clear hq
      rw [e7]
      clear e7 hwl k0 p0 p1 x0 x1 x2 x3 y1 z1
      have HGX := Aside0.mk (show w.heap.size ≤ wr.heap.size ∧ f < wr.heap.size ∧ (∀ k,(Value.slice Av KL.length cv).ownBlock = some k → k < wr.heap.size) from ⟨C1.out.size,blk_lt HF.out.blk,fun k hk => (HF.out.q.own_ok k hk).2.2.1⟩)
      have F7 := Aside0.mk (show FeedAt ((wr.alloc (Obj.cells #[.int .i64 x.f0,.bool x.f1,.string x.f2,.slice Ax x.f3.length cx] 28)).setCell ⟨f,1,none⟩ (.int .i64 (q : Int))) f N (Value.slice Av KL.length cv) KL q from ⟨blk_put HA.out.blk 1 _ rfl,QP.set HA.out.q HA.out.blk (show ∀ q,q ∈ [28,149] → q ≠ 109 by decide) 1 _,HA.out.le⟩)
      have BX7 := Aside0.mk ((Below.heap_setCell (wr.alloc (Obj.cells #[.int .i64 x.f0,.bool x.f1,.string x.f2,.slice Ax x.f3.length cx] 28)) ⟨f,1,none⟩ (.int .i64 (q : Int)) wr.heap.size (by have := HGX.out.2.1;show wr.heap.size ≠ f;omega)).trans BX.out)
      have RX7 := Aside0.mk (Kd.F_far RXA.out (p := ⟨f,1,none⟩) (fun k hk => (HO.out k hk).1) (.int .i64 (q : Int)))
      have C7 := Aside0.mk (show FCh w ((wr.alloc (Obj.cells #[.int .i64 x.f0,.bool x.f1,.string x.f2,.slice Ax x.f3.length cx] 28)).setCell ⟨f,1,none⟩ (.int .i64 (q : Int))) f v (Value.slice Av KL.length cv) from C2.out.step ⟨rfl,rfl,rfl,by simp [World.setCell],fun k _ hf _ => Below.heap_setCell _ _ _ k hf,.inl rfl⟩)
      have LX := Aside0.mk (HRL.out x (List.mem_of_getElem? HX.out))
      have S7 := Aside0.mk (blk_lt BX7.out)
      have Q7 := Aside0.mk (QP.set (QP.alloc (QP.mono (ok' := fun k => k < wr.heap.size) (QP.bound HF.out.q) (fun k hk => hk.2.2.1)) _) HA.out.blk (show ∀ q,q ∈ [28,149] → q ≠ 109 by decide) 1 (.int .i64 (q : Int)))
      clear C1 C2 HF HA BX FA RXA
      generalize ((wr.alloc (Obj.cells #[.int .i64 x.f0,.bool x.f1,.string x.f2,.slice Ax x.f3.length cx] 28)).setCell ⟨f,1,none⟩ (.int .i64 (q : Int))) = W7 at F7 BX7 RX7 C7 S7 Q7 ⊢
      generalize wr.heap.size = gx at HGX BX7 S7 Q7 ⊢
      have s0 : W7.cell? ⟨f,1,none⟩ = some (.int .i64 (q : Int)) := blk_cell F7.out.blk 1
      have s1 : W7.cell? ⟨gx,3,none⟩ = some (.slice Ax x.f3.length cx) := blk_cell BX7.out 3
      refine start_ (n := 11) (S := fun w' => w'.cell? ⟨f,1,none⟩ = some (.int .i64 (q : Int)) ∧ w'.cell? ⟨gx,3,none⟩ = some (.slice Ax x.f3.length cx)) (ds := [8,10]) #[false,false,false,false,false,false,false,false,false,false,false] (by kernel_rfl) rfl rfl (⟨s0,s1⟩) (fun hHeld => ?_)
      refine pure_ (i := 0) (N := some 23) (v := ?_) (a' := ?_) #[true,false,false,false,false,false,false,false,false,false,false] rfl rfl (by kernel_rfl) (fun _ _ _ h => h) (Or.inl ⟨by rfl,?_⟩) ?_ ?_
      rotate_left
      · intro w'
        go_simp
        with_reducible rfl
      rotate_left
      · simp only [Act.put,zA,zB,zC,i64_w,i32_w]
        rfl
      refine pure_ (i := 1) (N := some 24) (v := ?_) (a' := ?_) #[true,true,false,false,false,false,false,false,false,false,false] rfl rfl (by kernel_rfl) (fun _ _ _ h => h) (Or.inl ⟨by rfl,?_⟩) ?_ ?_
      rotate_left
      · intro w'
        go_simp
        with_reducible rfl
      rotate_left
      · simp only [Act.put,zA,zB,zC,i64_w,i32_w]
        rfl
      refine pure_ (i := 2) (N := some 25) (v := ?_) (a' := ?_) #[true,true,true,false,false,false,false,false,false,false,false] rfl rfl (by kernel_rfl) (fun _ _ _ h => h) (Or.inl ⟨by rfl,?_⟩) ?_ ?_
      rotate_left
      · intro w'
        go_simp
        with_reducible rfl
      rotate_left
      · simp only [Act.put,zA,zB,zC,i64_w,i32_w]
        rfl
      refine take_ (i := 3) (N := some 26) (v := ?_) (a' := ?_) #[true,true,true,true,false,false,false,false,false,false,false] rfl rfl (by kernel_rfl) (fun _ _ _ h => h) (Or.inl ⟨by rfl,?_⟩) hHeld ?_ ?_
      rotate_left
      · rintro w' ⟨s0,s1⟩
        go_simp
        with_reducible rfl
      rotate_left
      · simp only [Act.put,zA,zB,zC,i64_w,i32_w]
        rfl
      refine pure_ (i := 4) (N := some 27) (v := ?_) (a' := ?_) #[true,true,true,true,true,false,false,false,false,false,false] rfl rfl (by kernel_rfl) (fun _ _ _ h => h) (Or.inl ⟨by rfl,?_⟩) ?_ ?_
      rotate_left
      · intro w'
        go_simp
        with_reducible rfl
      rotate_left
      · simp only [Act.put,zA,zB,zC,i64_w,i32_w]
        rfl
      refine take_ (i := 5) (N := some 28) (v := ?_) (a' := ?_) #[true,true,true,true,true,true,false,false,false,false,false] rfl rfl (by kernel_rfl) (fun _ _ _ h => h) (Or.inl ⟨by rfl,?_⟩) hHeld ?_ ?_
      rotate_left
      · rintro w' ⟨s0,s1⟩
        go_simp
        with_reducible rfl
      rotate_left
      · simp only [Act.put,zA,zB,zC,i64_w,i32_w]
        rfl
      refine pure_ (i := 7) (N := some 30) (v := ?_) (a' := ?_) #[true,true,true,true,true,true,false,true,false,false,false] rfl rfl (by kernel_rfl) (fun _ _ _ h => h) (Or.inl ⟨by rfl,?_⟩) ?_ ?_
      rotate_left
      · intro w'
        go_simp
        with_reducible rfl
      rotate_left
      · simp only [Act.put,zA,zB,zC,i64_w,i32_w]
        rfl
      refine one_ (i := 6) (N := some 29) #[true,true,true,true,true,true,true,true,false,false,false] rfl rfl (by kernel_rfl) (by decide) (fun K hK => ?_)
      refine goes_ Try.func67 (by kernel_rfl) rfl #[.slice Ax x.f3.length cx] (by rfl) rfl rfl (by (try simp only [List.map_toArray,List.map_cons,List.map_nil]);first | done | rfl) ?_
      refine (row_Of.calls Ax cx x.f3 x.f3 W7.drew (Kd.C_drew (Kd.F_now RX7.out)) RC.out (of_copy x.f3 LX.out)).mono ?_
      rintro e w8 ⟨v8,rfl,hv,hb⟩
      obtain ⟨A8,c8,rfl⟩ := Kd.R_slice hv
      refine ⟨_,rfl,?_⟩
      have B8 := Aside0.mk (((SameW.drew W7).below _).trans hb)
      have V8 := Aside0.mk (Kd.R_mono (ok' := fun k => W7.heap.size ≤ k) (Kd.R_bound hv) (fun k hk => hk.2.1))
      have Q8 := Aside0.mk (QP.below Q7.out B8.out)
      have F8 := Aside0.mk (F7.out.below B8.out)
      have BX8 := Aside0.mk ((B8.out.block gx S7.out).trans BX7.out)
      have C8 := Aside0.mk (C7.out.below B8.out)
      have s2 : w8.cell? ⟨f,1,none⟩ = some (.int .i64 (q : Int)) := blk_cell F8.out.blk 1
      have s3 : w8.cell? ⟨gx,3,none⟩ = some (.slice Ax x.f3.length cx) := blk_cell BX8.out 3
      clear hv hb F7 BX7 RX7 C7 s0 s1 Q7
      refine hK.out _ _ (⟨s2,s3⟩) (fun hHeld => ?_)
      clear hK K
      refine norm_ (a' := ?_) ?_ ?_
      rotate_left
      · show Act.put _ (some 29) _ = _
        simp only [Act.put,zA,zB,zC,i64_w,i32_w]
        rfl
      clear hHeld s2 s3
      refine last_ (i := 8) (N := none) #[true,true,true,true,true,true,true,true,true,false,false] rfl rfl (by kernel_rfl) (by decide) (fun K hK => ?_)
      refine skip_ (w1 := w8.setCell ⟨gx,0,none⟩ (.int .i64 (q : Int))) (by rfl) rfl ?_ ?_
      · have z := blk_frozen BX8.out 0
        have cc := blk_cell BX8.out 0
        simp only [List.getElem?_toArray,List.getElem?_cons_zero,List.getElem?_cons_succ] at cc
        go_simp
        try with_reducible rfl
      refine hK.out _ _ ?_
      clear hK K
      have BX9 := Aside0.mk (show (w8.setCell ⟨gx,0,none⟩ (.int .i64 (q : Int))).heap[gx]? = some (.cells #[.int .i64 (q : Int),.bool x.f1,.string x.f2,.slice Ax x.f3.length cx] 28 (0,0)) from blk_put BX8.out 0 _ rfl)
      refine pure_ (i := 9) (N := some 31) (v := ?_) (a' := ?_) #[true,true,true,true,true,true,true,true,true,true,false] rfl rfl (by kernel_rfl) (fun _ _ _ h => h) (Or.inl ⟨by rfl,?_⟩) ?_ ?_
      rotate_left
      · intro w'
        go_simp
        with_reducible rfl
      rotate_left
      · simp only [Act.put,zA,zB,zC,i64_w,i32_w]
        rfl
      refine last_ (i := 10) (N := none) #[true,true,true,true,true,true,true,true,true,true,true] rfl rfl (by kernel_rfl) (by decide) (fun K hK => ?_)
      refine skip_ (w1 := (w8.setCell ⟨gx,0,none⟩ (.int .i64 (q : Int))).setCell ⟨gx,3,none⟩ (.slice A8 x.f3.length c8)) (by rfl) rfl ?_ ?_
      · have z := blk_frozen BX9.out 3
        have cc := blk_cell BX9.out 3
        simp only [List.getElem?_toArray,List.getElem?_cons_zero,List.getElem?_cons_succ] at cc
        go_simp
        try with_reducible rfl
      refine hK.out _ _ ?_
      clear hK K
      refine done_ (by kernel_rfl) ?_
      have gf : gx ≠ f := by have := HGX.out.2.1;omega
      have BX10 := Aside0.mk (show ((w8.setCell ⟨gx,0,none⟩ (.int .i64 (q : Int))).setCell ⟨gx,3,none⟩ (.slice A8 x.f3.length c8)).heap[gx]? = some (.cells #[.int .i64 (q : Int),.bool x.f1,.string x.f2,.slice A8 x.f3.length c8] 28 (0,0)) from blk_put BX9.out 3 _ rfl)
      have HB10 := Aside0.mk (show ((w8.setCell ⟨gx,0,none⟩ (.int .i64 (q : Int))).setCell ⟨gx,3,none⟩ (.slice A8 x.f3.length c8)).heap[f]? = some (.cells #[(Value.slice Av KL.length cv),.int .i64 (q : Int)] 109 (0,0)) from (Below.heap_setCell _ _ _ f (fun e => gf e.symm)).trans ((Below.heap_setCell _ _ _ f (fun e => gf e.symm)).trans F8.out.blk))
      have Q10 := Aside0.mk (QP.far (p := ⟨gx,3,none⟩) (QP.far (p := ⟨gx,0,none⟩) Q8.out (fun k hk => Nat.ne_of_lt hk) (.int .i64 (q : Int))) (fun k hk => Nat.ne_of_lt hk) (.slice A8 x.f3.length c8))
      have V10 := Aside0.mk (Kd.R_lower (Kd.R_far (p := ⟨gx,3,none⟩) (Kd.R_far (p := ⟨gx,0,none⟩) V8.out (fun k hk e => by have := S7.out;have e2 : k = gx := e;omega) (.int .i64 (q : Int))) (fun k hk e => by have := S7.out;have e2 : k = gx := e;omega) (.slice A8 x.f3.length c8)) (show N ≤ W7.heap.size by have := HGX.out.1;have := HN.out;have := S7.out;omega))
      have LW10 := Aside0.mk (show W7.heap.size ≤ ((w8.setCell ⟨gx,0,none⟩ (.int .i64 (q : Int))).setCell ⟨gx,3,none⟩ (.slice A8 x.f3.length c8)).heap.size by simpa [World.setCell] using B8.out.size)
      have C10 := Aside0.mk (show FCh w ((w8.setCell ⟨gx,0,none⟩ (.int .i64 (q : Int))).setCell ⟨gx,3,none⟩ (.slice A8 x.f3.length c8)) f v (Value.slice Av KL.length cv) from ⟨C8.out.os,C8.out.tape,C8.out.output,by simpa [World.setCell] using C8.out.size,fun k hk hf hv => (Below.heap_setCell _ _ _ k (show k ≠ gx by have := HGX.out.1;omega)).trans ((Below.heap_setCell _ _ _ k (show k ≠ gx by have := HGX.out.1;omega)).trans (C8.out.block k hk hf hv)),C8.out.own⟩)
      clear BX9 BX8 F8 Q8 V8 C8
      generalize ((w8.setCell ⟨gx,0,none⟩ (.int .i64 (q : Int))).setCell ⟨gx,3,none⟩ (.slice A8 x.f3.length c8)) = W10 at BX10 HB10 Q10 V10 C10 LW10 ⊢
      have LE10 := Aside0.mk (show gx < W10.heap.size from blk_lt BX10.out)
      have t0 : W10.cell? ⟨f,0,none⟩ = some (Value.slice Av KL.length cv) := blk_cell HB10.out 0
      have u0 : W10.cell? ⟨gx,0,none⟩ = some (.int .i64 (q : Int)) := blk_cell BX10.out 0
      have u1 : W10.cell? ⟨gx,1,none⟩ = some (.bool x.f1) := blk_cell BX10.out 1
      have u2 : W10.cell? ⟨gx,2,none⟩ = some (.string x.f2) := blk_cell BX10.out 2
      have u3 : W10.cell? ⟨gx,3,none⟩ = some (.slice A8 x.f3.length c8) := blk_cell BX10.out 3
      have KLL := Aside0.mk (show KL.length ≤ 1040 by rw [← HKL.out,List.length_append,numE_len,List.length_take];have := HK.out;omega)
      clear gf
      go_wp2_with (fail)
      refine start_ (n := 11) (S := fun w' => w'.cell? ⟨f,0,none⟩ = some (Value.slice Av KL.length cv) ∧ w'.cell? ⟨gx,0,none⟩ = some (.int .i64 (q : Int)) ∧ w'.cell? ⟨gx,1,none⟩ = some (.bool x.f1) ∧ w'.cell? ⟨gx,2,none⟩ = some (.string x.f2) ∧ w'.cell? ⟨gx,3,none⟩ = some (.slice A8 x.f3.length c8)) (ds := [7,10]) #[false,false,false,false,false,false,false,false,false,false,false] (by kernel_rfl) rfl rfl (⟨t0,u0,u1,u2,u3⟩) (fun hHeld => ?_)
      refine pure_ (i := 0) (N := some 32) (v := ?_) (a' := ?_) #[true,false,false,false,false,false,false,false,false,false,false] rfl rfl (by kernel_rfl) (fun _ _ _ h => h) (Or.inl ⟨by rfl,?_⟩) ?_ ?_
      rotate_left
      · intro w'
        go_simp
        with_reducible rfl
      rotate_left
      · simp only [Act.put,zA,zB,zC,i64_w,i32_w]
        rfl
      refine pure_ (i := 1) (N := some 33) (v := ?_) (a' := ?_) #[true,true,false,false,false,false,false,false,false,false,false] rfl rfl (by kernel_rfl) (fun _ _ _ h => h) (Or.inl ⟨by rfl,?_⟩) ?_ ?_
      rotate_left
      · intro w'
        go_simp
        with_reducible rfl
      rotate_left
      · simp only [Act.put,zA,zB,zC,i64_w,i32_w]
        rfl
      refine pure_ (i := 2) (N := some 34) (v := ?_) (a' := ?_) #[true,true,true,false,false,false,false,false,false,false,false] rfl rfl (by kernel_rfl) (fun _ _ _ h => h) (Or.inl ⟨by rfl,?_⟩) ?_ ?_
      rotate_left
      · intro w'
        go_simp
        with_reducible rfl
      rotate_left
      · simp only [Act.put,zA,zB,zC,i64_w,i32_w]
        rfl
      refine pure_ (i := 3) (N := some 35) (v := ?_) (a' := ?_) #[true,true,true,true,false,false,false,false,false,false,false] rfl rfl (by kernel_rfl) (fun _ _ _ h => h) (Or.inl ⟨by rfl,?_⟩) ?_ ?_
      rotate_left
      · intro w'
        go_simp
        with_reducible rfl
      rotate_left
      · simp only [Act.put,zA,zB,zC,i64_w,i32_w]
        rfl
      refine take_ (i := 4) (N := some 36) (v := ?_) (a' := ?_) #[true,true,true,true,true,false,false,false,false,false,false] rfl rfl (by kernel_rfl) (fun _ _ _ h => h) (Or.inl ⟨by rfl,?_⟩) hHeld ?_ ?_
      rotate_left
      · rintro w' ⟨s0,s1,s2,s3,s4⟩
        go_simp
        with_reducible rfl
      rotate_left
      · simp only [Act.put,zA,zB,zC,i64_w,i32_w]
        rfl
      refine take_ (i := 5) (N := some 37) (v := ?_) (a' := ?_) #[true,true,true,true,true,true,false,false,false,false,false] rfl rfl (by kernel_rfl) (fun _ _ _ h => h) (Or.inl ⟨by rfl,?_⟩) hHeld ?_ ?_
      rotate_left
      · rintro w' ⟨s0,s1,s2,s3,s4⟩
        go_simp
        with_reducible rfl
      rotate_left
      · simp only [Act.put,zA,zB,zC,i64_w,i32_w]
        rfl
      refine one_ (i := 6) (N := some 38) #[true,true,true,true,true,true,true,false,false,false,false] rfl rfl (by kernel_rfl) (by decide) (fun K hK => ?_)
      refine value_ (w1 := ?_) (v := ?_) (by rfl) rfl ?_ ?_
      rotate_left 2
      · go_simp
        constructor
        · rfl
        · rfl
      refine hK.out _ _ (⟨((below_alloc (w := W10.drew) (Below.refl _ _) _).cell (World.block_lt_of_cell? W10.drew _ t0)).trans t0,((below_alloc (w := W10.drew) (Below.refl _ _) _).cell (World.block_lt_of_cell? W10.drew _ u0)).trans u0,((below_alloc (w := W10.drew) (Below.refl _ _) _).cell (World.block_lt_of_cell? W10.drew _ u1)).trans u1,((below_alloc (w := W10.drew) (Below.refl _ _) _).cell (World.block_lt_of_cell? W10.drew _ u2)).trans u2,((below_alloc (w := W10.drew) (Below.refl _ _) _).cell (World.block_lt_of_cell? W10.drew _ u3)).trans u3⟩) (fun hHeld => ?_)
      clear hK K
      refine norm_ (a' := ?_) ?_ ?_
      rotate_left
      · show Act.put _ (some 38) _ = _
        simp only [Act.put,zA,zB,zC,i64_w,i32_w]
        rfl
      clear t0 u0 u1 u2 u3 hHeld
      refine last_ (i := 7) (N := some 39) #[true,true,true,true,true,true,true,true,false,false,false] rfl rfl (by kernel_rfl) (by decide) (fun K hK => ?_)
      refine QP.append_step kEv (w0 := W10.drew) N (by rfl) (.tmp 36) (.tmp 38) 23 28 (.agg #[(.int .i64 0),(.bool false),(.string ⟨#[]⟩),(.slice none 0 0)]) 56 rfl (by kernel_rfl) (by kernel_rfl) rfl (show 0 < 4 by decide) (by omega) (Value.slice Av KL.length cv) KL (setSeq q x) [.int .i64 (q : Int),.bool x.f1,.string x.f2,.slice A8 x.f3.length c8] (fun k => k < gx ∨ W7.heap.size ≤ k) (fun k => W7.heap.size ≤ k) rfl rfl (k28_mkM _ _ _ (setSeq q x) (Kd.R_drew V10.out)) (fun k hk => ⟨.inr hk,fun e => by have := HGX.out.2.2 k e.symm;have := S7.out;omega⟩) (fun k hk => .inr (Nat.le_trans (show W7.heap.size ≤ W10.heap.size from LW10.out) hk)) (QP.drew (QP.mono Q10.out (fun k hk => .inl hk))) (Below.refl _ _) (show N ≤ W10.heap.size by have := HGX.out.1;have := HN.out;have := LE10.out;omega) (by have := KLL.out;omega) ?_
      intro v11 w11 hv _ hg hat
      obtain ⟨L11,hL11⟩ : ∃ L,KL ++ [setSeq q x] = L := ⟨_,rfl⟩
      have HL11 := Aside0.mk hL11
      rw [hL11] at hv
      clear hL11
      obtain ⟨A11,c11,rfl⟩ := hv.slice
      have fv : some f ≠ (Value.slice Av KL.length cv).ownBlock := QP.ne Q10.out HB10.out (by decide)
      have HB11 := Aside0.mk ((hg.block f (blk_lt HB10.out) fv).trans HB10.out)
      have Q11 := Aside0.mk (QP.mono (ok' := fun _ => True) hv (fun _ _ => trivial))
      have C11 := Aside0.mk (show FCh w w11 f v (Value.slice A11 L11.length c11) from C10.out.trans ⟨hg.os,hg.tape,hg.output,hg.size,fun k hk _ hv => hg.block k hk hv,hat.imp id (fun ⟨b,e,hb⟩ k hk => by rw [e] at hk;obtain rfl := Option.some.inj hk;exact hb)⟩)
      clear hv hg hat fv BX10 HB10 Q10 V10 C10
      refine hK.out _ _ ?_
      clear hK K
      refine norm_ (a' := ?_) ?_ ?_
      rotate_left
      · show Act.put _ (some 39) _ = _
        simp only [Act.put,zA,zB,zC,i64_w,i32_w]
        rfl
      refine pure_ (i := 8) (N := some 40) (v := ?_) (a' := ?_) #[true,true,true,true,true,true,true,true,true,false,false] rfl rfl (by kernel_rfl) (fun _ _ _ h => h) (Or.inl ⟨by rfl,?_⟩) ?_ ?_
      rotate_left
      · intro w'
        go_simp
        with_reducible rfl
      rotate_left
      · simp only [Act.put,zA,zB,zC,i64_w,i32_w]
        rfl
      refine pure_ (i := 9) (N := some 41) (v := ?_) (a' := ?_) #[true,true,true,true,true,true,true,true,true,true,false] rfl rfl (by kernel_rfl) (fun _ _ _ h => h) (Or.inl ⟨by rfl,?_⟩) ?_ ?_
      rotate_left
      · intro w'
        go_simp
        with_reducible rfl
      rotate_left
      · simp only [Act.put,zA,zB,zC,i64_w,i32_w]
        rfl
      refine last_ (i := 10) (N := none) #[true,true,true,true,true,true,true,true,true,true,true] rfl rfl (by kernel_rfl) (by decide) (fun K hK => ?_)
      refine skip_ (w1 := w11.setCell ⟨f,0,none⟩ (Value.slice A11 L11.length c11)) (by rfl) rfl ?_ ?_
      · have z := blk_frozen HB11.out 0
        have cc := blk_cell HB11.out 0
        simp only [List.getElem?_toArray,List.getElem?_cons_zero,List.getElem?_cons_succ] at cc
        go_simp
        try with_reducible rfl
      refine hK.out _ _ ?_
      clear hK K
      refine done_ (by kernel_rfl) ?_
      have F12 := Aside0.mk (show FeedAt (w11.setCell ⟨f,0,none⟩ (Value.slice A11 L11.length c11)) f N (Value.slice A11 L11.length c11) L11 q from ⟨blk_put HB11.out 0 _ rfl,QP.set Q11.out HB11.out (show ∀ q,q ∈ [28,149] → q ≠ 109 by decide) 0 _,HFL.out⟩)
      have C12 := Aside0.mk (show FCh w (w11.setCell ⟨f,0,none⟩ (Value.slice A11 L11.length c11)) f v (Value.slice A11 L11.length c11) from C11.out.trans ⟨rfl,rfl,rfl,by simp [World.setCell],fun k _ hf _ => Below.heap_setCell _ _ _ k hf,.inl rfl⟩)
      have EL := Aside0.mk (show L11 = ks ++ numE last (es.take (i + 1)) by
        have h1 : i < es.length := by have := HEL.out;omega
        have h2 : es[i] = x := by have := HX.out;rw [List.getElem?_eq_getElem h1] at this;exact Option.some.inj this
        rw [numE_take last es i h1,h2,HQ.out,← HL11.out,← HKL.out,List.append_assoc])
      have EQ := Aside0.mk (show last + (i + 1) = q by have := HQ.out;omega)
      rw [← EQ.out] at F12
      have F13 := Aside0.mk (show FeedAt (w11.setCell ⟨f,0,none⟩ (Value.slice A11 L11.length c11)) f N (Value.slice A11 L11.length c11) (ks ++ numE last (es.take (i + 1))) (last + (i + 1)) by rw [← EL.out];exact F12.out)
      clear HB11 Q11 C11
      go_wp2_with (fail)
      go_roundw
      case rel => exact ⟨i + 1,(Value.slice A11 L11.length c11),by go_num,hlt,F13,C12⟩
      case measure => simp [intOf];omega
    · have k0 : decide ((i : Int) < (n : Int)) = false := decide_eq_false (by omega)
      obtain rfl : i = n := by omega
      have HKN := Aside0.mk (show KL = ks ++ numE last es by rw [← HKL.out,List.take_of_length_le (by have := HEL.out;omega)])
      have LEN := Aside0.mk (show KL.length = ks.length + i by rw [HKN.out,List.length_append,numE_len,HEL.out])
      obtain ⟨Av,cv,rfl⟩ := HF.out.q.slice
      have y0 : wr.cell? ⟨f,0,none⟩ = some (.slice Av KL.length cv) := blk_cell HF.out.blk 0
      by_cases h40 : ks.length + i ≤ 40
      · have q0 : decide ((40 : Int) < (KL.length : Int)) = false := decide_eq_false (by have := LEN.out;omega)
        clear hlt
        go_wp2
        go_ret
        first | exact ⟨rfl,_,by rw [← HKN.out];exact HF.out,C1.out⟩ | exact ⟨rfl,_,by rw [if_pos h40,← HKN.out];exact HF.out,C1.out⟩
      · obtain ⟨m,hm⟩ : ∃ m,KL.length = m := ⟨_,rfl⟩
        have HM := Aside0.mk hm
        have HH := Aside0.mk h40
        have hm40 : 40 < m := by have := LEN.out;omega
        have hml : m ≤ 2000 := by have := LEN.out;have := HK.out;omega
        rw [hm] at y0 HF C1
        have q0 : decide ((40 : Int) < (m : Int)) = true := decide_eq_true (by omega)
        have z0 : ∀ o,wr.frozen? ⟨f,o,none⟩ = false := fun o => blk_frozen HF.out.blk o
        obtain ⟨g,off,rfl⟩ : ∃ g off,Av = some ⟨g,off,none⟩ := by
          rcases HF.out.q with ⟨h1,h2⟩ | ⟨g,off,cap,h1,_⟩
          · rw [h2] at hm;simp at hm;omega
          · injection h1 with h1;exact ⟨g,off,h1⟩
        have hcv : m ≤ cv := by
          rcases HF.out.q with ⟨h1,h2⟩ | ⟨g',off',cap,h1,h2⟩
          · cases h1
          · injection h1 with _ _ h3;have := h2.le;omega
        have hsub : IntKind.i64.wrap ((m : Int) - 40) = ((m - 40 : Nat) : Int) := by rw [IntKind.wrap_i64];omega
        have j0 : (0 : Int) ≤ (m : Int) - 40 := by omega
        have j1 : (m : Int) - 40 ≤ (m : Int) := by omega
        have j2 : (m : Int) ≤ (cv : Int) := by omega
        have j3 : ((m : Int) - 40).toNat = m - 40 := by omega
        clear hlt hm
        go_wp2_with (fail)
        go_ret
        have e40 : ks.length + i - 40 = m - 40 := by have := LEN.out;have := HM.out;omega
        rw [e40,← HKN.out]
        have QC := QP.set (QP.cut (A := none) HF.out.q (m - 40) (by omega)) HF.out.blk (show ∀ q,q ∈ [28,149] → q ≠ 109 by decide) 0 (Value.slice (some ⟨g,off + (m - 40) * 4,none⟩) (m - (m - 40)) (m - (m - 40)))
        have HB : (wr.setCell ⟨f,0,none⟩ (Value.slice (some ⟨g,off + (m - 40) * 4,none⟩) (m - (m - 40)) (m - (m - 40)))).heap[f]? = some (.cells #[Value.slice (some ⟨g,off + (m - 40) * 4,none⟩) (m - (m - 40)) (m - (m - 40)),.int .i64 ((last + i : Nat) : Int)] 109 (0,0)) := blk_put HF.out.blk 0 _ rfl
        have FC : FCh wr (wr.setCell ⟨f,0,none⟩ (Value.slice (some ⟨g,off + (m - 40) * 4,none⟩) (m - (m - 40)) (m - (m - 40)))) f (Value.slice (some ⟨g,off,none⟩) m cv) (Value.slice (some ⟨g,off + (m - 40) * 4,none⟩) (m - (m - 40)) (m - (m - 40))) := ⟨rfl,rfl,rfl,by simp [World.setCell],fun k _ hf _ => Below.heap_setCell _ _ _ k hf,.inl rfl⟩
        exact ⟨rfl,_,⟨HB,QC,HF.out.le⟩,C1.out.trans FC⟩
end Go.Proofs.Ythfaimomcbmniaa.Z
end
section
namespace Go.Proofs.Ythfaimomcbmniaa.Z
set_option linter.unusedVariables false
set_option linter.unusedSimpArgs false
open Go.RowKit Go.Proofs.YthfaimomcbmniaaW.PrintWords Go.Proofs.YthfaimomcbmniaaW.PrintLast Go.Proofs.YthfaimomcbmniaaW.PrintMore Go.Proofs.Ythfaimomcbmniaa.Cmp
section
variable {α : Type} {d : Kd α} {e : Nat} {w w1 : World} {base : Nat} {ok ok' : Nat → Prop} {v : Value} {xs : List α}
theorem QP.C {A : Option Addr} {n c : Nat} (h : QP d e w base ok (.slice A n c) xs) (hn : xs.length ≤ 1000000) : n = xs.length ∧ n ≤ c ∧ Kd.C d w A xs.length xs := by
  rcases h with ⟨h1,rfl⟩ | ⟨g,off,cap,h1,hq⟩
  · injection h1 with h1 h2 h3
    subst h1 h2 h3
    exact ⟨rfl,Nat.le_refl _,Kd.C_nil d w⟩
  · injection h1 with h1 h2 h3
    subst h1 h2 h3
    refine ⟨rfl,hq.le,rfl,by omega,fun _ => ⟨_,rfl,fun j p hp => ?_⟩⟩
    obtain ⟨cs,h1,h2⟩ := hq.at_ j p hp
    refine ⟨cs,d.K_len (d.K_of_M h1),d.K_of_M h1,fun i u hu => ?_⟩
    rw [Addr.add_lit,← Nat.add_assoc]
    exact h2 i u hu
theorem QP.F {A : Option Addr} {n c : Nat} (h : QP d e w base ok (.slice A n c) xs) (hn : xs.length ≤ 1000000) : n = xs.length ∧ n ≤ c ∧ Kd.F d w ok A xs.length xs :=
  ⟨(QP.C h hn).1,(QP.C h hn).2.1,fun W' hW => (QP.C (h.step hW) hn).2.2⟩
end
theorem NextW.set {N : Nat} {w w1 : World} (h : NextW N w w1) {p : Addr} (hp : N ≤ p.block) (u : Value) : NextW N w (w1.setCell p u) :=
  ⟨⟨h.below.os,h.below.tape,h.below.output,by simpa [World.setCell] using h.below.size,fun k hk => (Below.heap_setCell _ _ _ k (by omega)).trans (h.below.block k hk)⟩,by simpa [World.setCell] using h.le⟩
def readD (ks : List Ev) (last : Nat) (m : Int) : List Ev × Int :=
  if m < 0 ∨ (last : Int) < m then ([],2) else if m < (last : Int) - (ks.length : Int) then ([],19) else (ks.drop (m - ((last : Int) - (ks.length : Int))).toNat,0)
set_option maxHeartbeats 8000000 in
set_option maxRecDepth 100000 in
theorem feed_read {w : World} {f N : Nat} {v : Value} {ks : List Ev} {last : Nat} (h : FeedAt w f N v ks last) (m : Int) (hkl : ks.length ≤ last) (hl : last ≤ 1000000) (hks : ks.length ≤ 40) (hR : ∀ x ∈ ks,x.f3.length < 3518437208883) :
    Calls Try.prog 26 #[.pointer (some ⟨f,0,none⟩),.int .i64 m] w fun e w' => ∃ A c L en,e = .returned (.tuple #[.slice A L.length c,.int .i64 en]) ∧ (L,en) = readD ks last m ∧ L.length ≤ c ∧ Kd.C kEv w' A L.length L ∧ Below w.heap.size w w' := by
  obtain ⟨A,c,rfl⟩ := h.q.slice
  obtain ⟨os,hos⟩ : ∃ os : Nat,last = os + ks.length := ⟨last - ks.length,by omega⟩
  have y0 : w.cell? ⟨f,0,none⟩ = some (.slice A ks.length c) := blk_cell h.blk 0
  have y1 : w.cell? ⟨f,1,none⟩ = some (.int .i64 (last : Int)) := blk_cell h.blk 1
  have z0 : IntKind.i64.wrap ((last : Int) - (ks.length : Int)) = (os : Int) := by rw [IntKind.wrap_i64];omega
  have HB := Aside0.mk (Below.refl w.heap.size w)
  have HQ := Aside0.mk h.q
  by_cases hm : m < 0 ∨ (last : Int) < m
  · have HD := Aside0.mk (show ([],2) = readD ks last m by unfold readD;rw [if_pos hm])
    clear hkl hl hks hR hos h
    go_enter Try.func26,Try.ntmps26
    go_wp2_with (fail)
    go_quiet (fail)
    by_cases h0 : m < 0
    · have k0 : decide (m < 0) = true := decide_eq_true h0
      clear hm h0
      go_wp2_with (fail)
      go_ret2
      exact ⟨none,0,[],2,rfl,HD.out,Nat.le_refl _,Kd.C_nil _ _,pw_below_drewN HB.out _⟩
    · have k0 : decide (m < 0) = false := decide_eq_false h0
      have k1 : decide ((last : Int) < m) = true := decide_eq_true (by omega)
      clear hm h0
      go_wp2_with (fail)
      go_ret2
      exact ⟨none,0,[],2,rfl,HD.out,Nat.le_refl _,Kd.C_nil _ _,pw_below_drewN HB.out _⟩
  · have k0 : decide (m < 0) = false := decide_eq_false (by omega)
    have k1 : decide ((last : Int) < m) = false := decide_eq_false (by omega)
    by_cases h1 : m < (os : Int)
    · have HD := Aside0.mk (show ([],19) = readD ks last m by unfold readD;rw [if_neg hm,if_pos (by omega)])
      have k2 : decide (m < (os : Int)) = true := decide_eq_true h1
      clear hkl hl hks hR hos hm h1 h
      go_enter Try.func26,Try.ntmps26
      go_wp2_with (fail)
      go_quiet (fail)
      go_wp2_with (fail)
      go_ret2
      exact ⟨none,0,[],19,rfl,HD.out,Nat.le_refl _,Kd.C_nil _ _,pw_below_drewN HB.out _⟩
    · have k2 : decide (m < (os : Int)) = false := decide_eq_false h1
      obtain ⟨k,hk⟩ : ∃ k : Nat,m = (os : Int) + (k : Int) := ⟨(m - os).toNat,by omega⟩
      have hkn : k ≤ ks.length := by omega
      have HD := Aside0.mk (show (ks.drop k,0) = readD ks last m by unfold readD;rw [if_neg hm,if_neg (by omega)];congr 2;omega)
      have z1 : IntKind.i64.wrap (m - (os : Int)) = (k : Int) := by rw [IntKind.wrap_i64];omega
      obtain ⟨i,hi,hz0,hz1,hz2⟩ := info_parts info28
      have hcut := cut_from 23 28 .i64 Try.underlying23 hi 4 hz1 A ks.length c (k : Int) (by omega) (by omega)
      simp only [Int.toNat_natCast] at hcut
      obtain ⟨_,hc,hF⟩ := QP.F h.q (by omega)
      have FD := Aside0.mk (Kd.F_old (Kd.F_imp hF (fun W' hC => Kd.C_drop (m := k) (c := c) hC hkn hc)) (Below.refl _ _))
      obtain ⟨A',hA'⟩ : ∃ A',(if c = k then A else A.map (·.add (k * 4))) = A' := ⟨_,rfl⟩
      have hA2 : (if c = k then A else A.map (·.add (k * kEv.sz))) = A' := hA'
      rw [hA2] at FD
      rw [hA'] at hcut
      obtain ⟨D,hD⟩ : ∃ D,ks.drop k = D := ⟨_,rfl⟩
      rw [hD] at FD HD
      have hn : ks.length - k = D.length := by rw [← hD,List.length_drop]
      rw [hn] at hcut
      have RD := Aside0.mk (show ∀ x ∈ D,x.f3.length < 3518437208883 by rw [← hD];exact fun x hx => hR x (List.mem_of_mem_drop hx))
      have DL := Aside0.mk (show D.length ≤ 40 by omega)
      obtain ⟨c',hc'⟩ : ∃ c',c - k = c' := ⟨_,rfl⟩
      rw [hc'] at hcut
      clear hkl hl hks hR hos hm h1 h hi hz0 hz1 hz2 hc hF hA' hA2 hD hn hkn hc' hk HQ
      go_enter Try.func26,Try.ntmps26
      go_wp2_with (fail)
      go_quiet (fail)
      go_wp2_with (fail)
      go_loopw [7,46] (fun ov iv wr => ∃ i : Nat,iv = .int .i64 (i : Int) ∧ i ≤ D.length ∧ Aside0 (Kd.N kEv 28 wr w.heap.size (fun _ => True) ov (D.take i)) ∧ Aside0 (∀ k,ov.ownBlock = some k → w.heap.size ≤ k) ∧ Aside0 (NextW w.heap.size w wr)) (fun ov iv _ => D.length - (intOf iv).toNat)
      case atStart => exact ⟨0,rfl,Nat.zero_le _,⟨Kd.N_nil _ _ _ _ _⟩,⟨fun k hk => by simp [Value.ownBlock] at hk⟩,⟨⟨pw_below_drewN (Below.refl _ _) _,Nat.le_refl _⟩⟩⟩
      case round =>
        clear HB y0 y1
        rename World => wr
        obtain ⟨i,rfl,hi,NV,OV,NW⟩ := hrel
        obtain ⟨KL,hKL⟩ : ∃ KL,D.take i = KL := ⟨_,rfl⟩
        have HKL := Aside0.mk hKL
        rw [hKL] at NV
        clear hKL
        obtain ⟨Ao,co,rfl⟩ := Kd.N_slice NV.out
        by_cases hlt : i < D.length
        · obtain ⟨x,hx⟩ : ∃ x,D[i]? = some x := ⟨D[i],List.getElem?_eq_getElem hlt⟩
          have HX := Aside0.mk hx
          have FE := Aside0.mk (Kd.F_step FD.out (fun k hk _ => NW.out.below.block k hk.2))
          obtain ⟨ad,cs,rfl,_,hcs,hcell,_⟩ := Kd.F_get FE.out (⟨0,false,⟨#[]⟩,[]⟩ : Ev) (i : Int) (by omega) (by omega)
          rw [Int.toNat_natCast,List.getD_eq_getElem?_getD,hx] at hcs
          obtain ⟨Ax,cx,rfl,hcx,hrx⟩ := k28_openF hcs
          simp only [Option.getD_some] at hcell hcx hrx
          have x0 : wr.cell? (ad.add (i * 4)) = some (.int .i64 x.f0) := hcell 0 _ rfl
          have x1 : wr.cell? ⟨(ad.add (i * 4)).block,(ad.add (i * 4)).off + 1,none⟩ = some (.bool x.f1) := by rw [← add_field _ _ 1 (by omega)];exact hcell 1 _ rfl
          have x2 : wr.cell? ⟨(ad.add (i * 4)).block,(ad.add (i * 4)).off + 2,none⟩ = some (.string x.f2) := by rw [← add_field _ _ 2 (by omega)];exact hcell 2 _ rfl
          have x3 : wr.cell? ⟨(ad.add (i * 4)).block,(ad.add (i * 4)).off + 3,none⟩ = some (.slice Ax x.f3.length cx) := by rw [← add_field _ _ 3 (by omega)];exact hcell 3 _ rfl
          have RX := Aside0.mk hrx
          have RC := Aside0.mk hcx
          have LX := Aside0.mk (RD.out x (List.mem_of_getElem? HX.out))
          have p0 : (0 : Int) ≤ (i : Int) := by omega
          have p1 : (i : Int) < (D.length : Int) := by omega
          have k3 : decide ((i : Int) < (D.length : Int)) = true := decide_eq_true (by omega)
          clear hcell hcs hrx hcx hx
          go_wp2_with (fail)
          have hg0 : wr.heap.size ≤ wr.heap.size := Nat.le_refl _
          have BX := Aside0.mk (blk_new wr (Obj.cells #[.int .i64 x.f0,.bool x.f1,.string x.f2,.slice Ax x.f3.length cx] 28))
          have BA := below_alloc (Below.refl wr.heap.size wr) (Obj.cells #[.int .i64 x.f0,.bool x.f1,.string x.f2,.slice Ax x.f3.length cx] 28)
          have NV5 := Aside0.mk (Kd.N_below (Kd.N_elderB NV.out wr.heap.size (Nat.le_refl _)) BA)
          have NW5 := Aside0.mk (NW.out.next BA)
          have RX5 := Aside0.mk (Kd.F_below RX.out BA)
          have GW := Aside0.mk NW.out.le
          clear BA hg0 x0 x1 x2 x3 FE NV NW RX
          generalize (wr.alloc (Obj.cells #[.int .i64 x.f0,.bool x.f1,.string x.f2,.slice Ax x.f3.length cx] 28)) = W5 at BX NV5 NW5 RX5 ⊢
          generalize wr.heap.size = gx at BX GW NV5 ⊢
          have S5 := Aside0.mk (blk_lt BX.out)
          refine (row_Of.calls Ax cx x.f3 x.f3 W5 (Kd.F_now RX5.out) RC.out (of_copy x.f3 LX.out)).mono ?_
          rintro e w6 ⟨v6,rfl,hv,hb⟩
          obtain ⟨A6,c6,rfl⟩ := Kd.R_slice hv
          have P6 := Aside0.mk (show x.f3.length ≤ c6 from (Kd.R_reads' hv).2.1)
          have F6 := Aside0.mk (show Kd.F k149 w6 (fun k => W5.heap.size ≤ k) A6 x.f3.length x.f3 from Kd.F_mono (Kd.R_F (Kd.R_bound hv)) (fun k hk => hk.2.1))
          have NV6 := Aside0.mk (Kd.N_below NV5.out hb)
          have OLT := Aside0.mk (Kd.N_lt NV5.out)
          have BX6 := Aside0.mk ((hb.block gx S5.out).trans BX.out)
          have NW6 := Aside0.mk (NW5.out.next hb)
          have HS6 := Aside0.mk hb.size
          have z9 : ∀ o,w6.frozen? ⟨gx,o,none⟩ = false := fun o => blk_frozen BX6.out o
          have z5 : w6.cell? ⟨gx,0,none⟩ = some (.int .i64 x.f0) := blk_cell BX6.out 0
          have z6 : w6.cell? ⟨gx,1,none⟩ = some (.bool x.f1) := blk_cell BX6.out 1
          have z7 : w6.cell? ⟨gx,2,none⟩ = some (.string x.f2) := blk_cell BX6.out 2
          have z8 : w6.cell? ⟨gx,3,none⟩ = some (.slice Ax x.f3.length cx) := blk_cell BX6.out 3
          clear hv hb NV5 NW5 RX5 BX
          have N7 := Aside0.mk (Kd.N_far NV6.out (p := ⟨gx,3,none⟩) (fun k hk => hk.2) (.slice A6 x.f3.length c6))
          have F7 := Aside0.mk (Kd.F_far F6.out (p := ⟨gx,3,none⟩) (fun k hk => by have := S5.out;show k ≠ gx;omega) (.slice A6 x.f3.length c6))
          have W7 := Aside0.mk (NextW.set NW6.out (p := ⟨gx,3,none⟩) GW.out (.slice A6 x.f3.length c6))
          have LE7 := Aside0.mk (show W5.heap.size ≤ (w6.setCell ⟨gx,3,none⟩ (.slice A6 x.f3.length c6)).heap.size by simpa [World.setCell] using HS6.out)
          have DT := Aside0.mk (show D.take (i + 1) = KL ++ [x] by rw [← HKL.out,List.take_add_one,HX.out];rfl)
          have TL := Aside0.mk (show KL.length ≤ 40 by rw [← HKL.out,List.length_take];have := DL.out;omega)
          have B7 := Aside0.mk (show (w6.setCell ⟨gx,3,none⟩ (.slice A6 x.f3.length c6)).heap[gx]? = some (.cells #[.int .i64 x.f0,.bool x.f1,.string x.f2,.slice A6 x.f3.length c6] 28 (0,0)) from blk_put BX6.out 3 _ rfl)
          have h40 := DL.out
          go_upto_region 13 with (fail)
          clear z5 z6 z7 z8 z9 NV6 NW6 F6 HS6 BX6
          generalize (w6.setCell ⟨gx,3,none⟩ (.slice A6 x.f3.length c6)) = W7_ at N7 F7 W7 LE7 B7 ⊢
          have z5 : W7_.cell? ⟨gx,0,none⟩ = some (.int .i64 x.f0) := blk_cell B7.out 0
          have z6 : W7_.cell? ⟨gx,1,none⟩ = some (.bool x.f1) := blk_cell B7.out 1
          have z7 : W7_.cell? ⟨gx,2,none⟩ = some (.string x.f2) := blk_cell B7.out 2
          have z8 : W7_.cell? ⟨gx,3,none⟩ = some (.slice A6 x.f3.length c6) := blk_cell B7.out 3
          go_wp2_with (((with_reducible refine gate_builtin (b := .append) (xs := #[.tmp 54,.tmp 56]) rfl ?_);at_builtin;refine Kd.N_append kEv (w0 := w) w.heap.size rfl (.tmp 54) (.tmp 56) 23 28 (.agg #[(.int .i64 0),(.bool false),(.string ⟨#[]⟩),(.slice none 0 0)]) 56 rfl Try.underlying23 info28 rfl (by decide) (by omega) (.slice Ao KL.length co) KL x [.int .i64 x.f0,.bool x.f1,.string x.f2,.slice A6 x.f3.length c6] (fun k => True ∧ k ≠ gx) (fun k => W5.heap.size ≤ k) rfl rfl (k28_mkF _ _ x P6.out F7.out) (fun k hk => ⟨⟨trivial,by have := S5.out;omega⟩,fun e => by have := OLT.out k e.symm;omega⟩) (fun k hk => ⟨trivial,by have := LE7.out;have := S5.out;omega⟩) N7.out W7.out.below W7.out.le (by have := TL.out;omega) ?_;intro v2 w8 hv hb3 hg hat;have NV8 := Aside0.mk (show Kd.N kEv 28 w8 w.heap.size (fun _ => True) v2 (D.take (i + 1)) by rw [DT.out];exact Kd.N_mono hv (fun _ _ => trivial));have NW8 := Aside0.mk (NextW.mk hb3 (Nat.le_trans W7.out.le hg.size));have OV8 := Aside0.mk (own_new2 OV.out W7.out.le hat);clear hv hb3 hg hat))
          go_roundw
          case rel => exact ⟨i + 1,by go_num,hlt,NV8,OV8,NW8⟩
          case measure => simp [intOf];omega
        · have k3 : decide ((i : Int) < (D.length : Int)) = false := decide_eq_false (by omega)
          obtain rfl : i = D.length := by omega
          obtain ⟨_,hcc,hCC⟩ := Kd.N_reads' NV.out
          have hKD : KL = D := by rw [← HKL.out,List.take_length]
          subst hKD
          have CC := Aside0.mk hCC
          have CL := Aside0.mk hcc
          clear hcc hCC hlt
          go_wp2_with (fail)
          go_ret2
          exact ⟨_,_,_,0,rfl,HD.out,CL.out,CC.out,NW.out.below⟩
end Go.Proofs.Ythfaimomcbmniaa.Z
end
section
namespace Go.Proofs.Ythfaimomcbmniaa.Z
set_option linter.unusedVariables false
set_option linter.unusedSimpArgs false
open Go.RowKit Go.Proofs.YthfaimomcbmniaaW.PrintWords Go.Proofs.YthfaimomcbmniaaW.PrintLast Go.Proofs.YthfaimomcbmniaaW.PrintMore Go.Proofs.Ythfaimomcbmniaa.Cmp
theorem cell_far2 {w : World} {gx b i j o : Nat} {u v y : Value} (h : gx ≠ b) (c : w.cell? ⟨gx,o,none⟩ = some y) : ((w.setCell ⟨b,i,none⟩ u).setCell ⟨b,j,none⟩ v).cell? ⟨gx,o,none⟩ = some y := by
  have e1 := Below.heap_setCell w ⟨b,i,none⟩ u gx h
  have e2 := Below.heap_setCell (w.setCell ⟨b,i,none⟩ u) ⟨b,j,none⟩ v gx h
  unfold World.cell? at c ⊢
  rw [e2,e1]
  exact c
theorem fact_one {w : World} {g : Nat} {x : Vl} {A : Option Addr} {c : Nat} (h : w.heap[g]? = some (.cells #[.string x.f0,.slice A x.f1.length c] 56 (0,0))) (hc : x.f1.length ≤ c) (hr : Kd.C k149 w A x.f1.length x.f1) : Kd.C kEl w (some ⟨g,0,none⟩) 1 [x] :=
  ⟨rfl,by simp,fun _ => ⟨_,rfl,fun j p hj => by
    cases j with
    | succ j => simp at hj
    | zero =>
      simp only [List.getElem?_cons_zero,Option.some.injEq] at hj
      subst hj
      refine ⟨_,rfl,k56_mk w x hc hr,fun i u hi => ?_⟩
      rw [Addr.add_lit,Nat.zero_mul,Nat.zero_add,Nat.zero_add]
      have h1 := blk_cell h i
      rw [h1,← hi]
      simp⟩⟩
theorem below_up {w W w6 : World} (h : Below w.heap.size w W) (hb : Below W.heap.size W w6) : Below w.heap.size w w6 := h.trans (hb.mono h.size)
set_option maxHeartbeats 4000000 in
set_option maxRecDepth 100000 in
theorem sort_nil (c : Nat) (w : World) : Calls Try.prog 30 #[.slice none 0 c] w fun e w' => e = .returned (.slice none 0 0) ∧ Below w.heap.size w w' := by
  go_enter Try.func30,Try.ntmps30
  go_wp2_with (fail)
  refine (clone_nil c w).mono ?_
  rintro e w1 ⟨rfl,hb⟩
  have B1 := Aside0.mk hb
  clear hb
  go_wp2_with (fail)
  refine (sort_funcE none 0 w1).mono ?_
  rintro e w2 ⟨rfl,hb⟩
  have B2 := Aside0.mk (B1.out.trans (hb.mono B1.out.size))
  clear hb B1
  go_wp2_with (fail)
  refine (compactE none 0 w2).mono ?_
  rintro e w3 ⟨rfl,hb⟩
  have B3 := Aside0.mk (B2.out.trans (hb.mono B2.out.size))
  clear hb B2
  go_wp2_with (fail)
  go_ret
  exact ⟨rfl,B3.out⟩
set_option maxHeartbeats 4000000 in
set_option maxRecDepth 100000 in
theorem bsearch_nil (r : ByteArray) (A : Option Addr) (n c : Nat) (w : World) : Calls Try.prog 68 #[.slice none 0 0,.agg #[.string r,.slice A n c],.func (.func 69) #[] #[]] w fun e w' => e = .returned (.tuple #[.int .i64 0,.bool false]) ∧ Below w.heap.size w w' := by
  have B1 := Aside0.mk (below_alloc (Below.refl w.heap.size w) (Obj.cells #[.string r,.slice A n c] 56))
  go_enter Try.func68,Try.ntmps68
  go_wp2_with (fail)
  generalize (w.alloc (Obj.cells #[.string r,.slice A n c] 56)) = w1 at B1 ⊢
  go_loopw [9,10] (fun iv jv wr => iv = .int .i64 0 ∧ jv = .int .i64 0 ∧ wr = w1) (fun iv jv _ => 0)
  case atStart => exact ⟨rfl,rfl,rfl⟩
  case round =>
    rename World => wr
    obtain ⟨rfl,rfl,rfl⟩ := hrel
    go_wp2_with (fail)
    go_quiet (fail)
    go_wp2_with (fail)
    go_ret2
    exact ⟨rfl,pw_below_drewN B1.out _⟩
set_option maxHeartbeats 4000000 in
set_option maxRecDepth 100000 in
theorem insert_nil (a : Addr) (x : Vl) (w : World) (h : Kd.C kEl w (some a) 1 [x]) : Calls Try.prog 70 #[.slice none 0 0,.int .i64 0,.slice (some a) 1 1] w fun e w' => ∃ v,e = .returned v ∧ Kd.N kEl 56 w' w.heap.size (fun _ => True) v [x] ∧ Below w.heap.size w w' := by
  have HF := Aside0.mk (C_F0 h (Below.refl w.heap.size w))
  obtain ⟨i,hi,hz0,hz1,hz2⟩ := info_parts info56
  have hcut := cut_from 22 56 .i64 Try.underlying22 hi 2 hz1 none 0 0 0 (by omega) (by omega)
  simp only [Int.toNat_zero,if_true,Nat.sub_zero] at hcut
  clear h hi hz0 hz1 hz2
  go_enter Try.func70,Try.ntmps70
  go_wp2_with (((with_reducible refine gate_builtin (b := .append) (xs := #[.tmp 23,.tmp 24]) rfl ?_);at_builtin;refine Kd.N_append_rows kEl (w0 := w) w.heap.size rfl (.tmp 23) (.tmp 24) 22 56 (.agg #[.string ⟨#[]⟩,.slice none 0 0]) 40 rfl (by kernel_rfl) (by kernel_rfl) rfl (show 0 < 2 by decide) (by omega) (.slice none 0 0) [] [x] (some a) 1 1 (fun _ => True) (fun k => k < w.heap.size) rfl rfl (Kd.N_nil _ _ _ _ _) HF.out (fun k h => ⟨trivial,by simp [Value.ownBlock]⟩) (fun _ _ => trivial) (Below.refl _ _) (Nat.le_refl _) (by simp) ?_;intro v1 w1 hv hb hg hat;have R1 := Aside0.mk hv;have B1 := Aside0.mk hb;clear hv hb hg hat))
  go_ret
  exact ⟨_,rfl,R1.out,B1.out⟩
set_option maxHeartbeats 8000000 in
set_option maxRecDepth 100000 in
theorem fold_one (g c0 : Nat) (x : Ev) (hx1 : x.f1 = true) (hx3 : x.f3.length < 3518437208883) (w : World) (h : Kd.C kEv w (some ⟨g,0,none⟩) 1 [x]) : Calls Try.prog 15 #[.slice none 0 0,.slice (some ⟨g,0,none⟩) 1 c0] w fun e w' => ∃ A c,e = .returned (.tuple #[.slice A 1 c,.int .i64 0]) ∧ Below w.heap.size w w' := by
  have HC := Aside0.mk h
  have LX := Aside0.mk hx3
  clear h hx3
  go_enter Try.func15,Try.ntmps15
  go_wp2_with (fail)
  refine (sort_nil 0 w).mono ?_
  rintro e w1 ⟨rfl,hb⟩
  have B1 := Aside0.mk (NextW.mk hb hb.size)
  clear hb
  go_wp2_with (fail)
  go_loopw [6,16] (fun ov iv wr => ∃ i : Nat,iv = .int .i64 (i : Int) ∧ i ≤ 1 ∧ (i = 0 → ov = .slice none 0 0) ∧ (i = 1 → ∃ A c,ov = .slice A 1 c) ∧ Aside0 (NextW w.heap.size w wr)) (fun ov iv _ => 1 - (intOf iv).toNat)
  case atStart => exact ⟨0,rfl,by omega,fun _ => rfl,fun h => by omega,B1⟩
  case round =>
    rename World => wr
    clear B1
    obtain ⟨i,rfl,hi,ho0,ho1,NW⟩ := hrel
    rcases (show i = 0 ∨ i = 1 by omega) with rfl | rfl
    · obtain rfl := ho0 rfl
      clear ho0 ho1 hi
      obtain ⟨ad,cs,e,_,hcs,hcell⟩ := Kd.C_get (Kd.C_below HC.out NW.out.below) (⟨0,false,⟨#[]⟩,[]⟩ : Ev) 0 (by omega) (by omega)
      obtain rfl := Option.some.inj e
      obtain ⟨Ax,cx,rfl,hcx,hrx⟩ := k28_open hcs
      have hcell2 : ∀ (j : Nat) (u : Value),[Value.int IntKind.i64 x.f0,.bool x.f1,.string x.f2,.slice Ax x.f3.length cx][j]? = some u → wr.cell? ⟨g,j,none⟩ = some u := fun j u hu => by
        have h1 := hcell j u hu
        rw [Addr.add_lit] at h1
        have e1 : 0 + (Int.toNat 0 * kEv.sz + j) = j := by rw [Int.toNat_zero];omega
        rw [e1] at h1
        exact h1
      have x0 : wr.cell? ⟨g,0,none⟩ = some (.int .i64 x.f0) := hcell2 0 _ rfl
      have x1 : wr.cell? ⟨g,1,none⟩ = some (.bool true) := by rw [← hx1];exact hcell2 1 _ rfl
      have x2 : wr.cell? ⟨g,2,none⟩ = some (.string x.f2) := hcell2 2 _ rfl
      have x3 : wr.cell? ⟨g,3,none⟩ = some (.slice Ax x.f3.length cx) := hcell2 3 _ rfl
      have RX := Aside0.mk (show Kd.C k149 wr Ax x.f3.length x.f3 from hrx)
      have RC := Aside0.mk (show x.f3.length ≤ cx from hcx)
      have BA := below_alloc (Below.refl wr.heap.size wr) (Obj.cells #[.int .i64 x.f0,.bool true,.string x.f2,.slice Ax x.f3.length cx] 28)
      have NW5 := Aside0.mk (NW.out.next BA)
      have RX5 := Aside0.mk (Kd.C_below RX.out BA)
      have BX := Aside0.mk (blk_new wr (Obj.cells #[.int .i64 x.f0,.bool true,.string x.f2,.slice Ax x.f3.length cx] 28))
      clear hcell hcell2 hcs hrx hcx BA RX NW
      go_upto_region 5 with (fail)
      clear x0 x1 x2 x3
      generalize (wr.alloc (Obj.cells #[.int .i64 x.f0,.bool true,.string x.f2,.slice Ax x.f3.length cx] 28)) = W5 at BX NW5 RX5 ⊢
      generalize wr.heap.size = gx at BX ⊢
      have y1 : W5.cell? ⟨gx,1,none⟩ = some (.bool true) := blk_cell BX.out 1
      have y2 : W5.cell? ⟨gx,2,none⟩ = some (.string x.f2) := blk_cell BX.out 2
      have y3 : W5.cell? ⟨gx,3,none⟩ = some (.slice Ax x.f3.length cx) := blk_cell BX.out 3
      have gne : gx ≠ W5.heap.size := Nat.ne_of_lt (blk_lt BX.out)
      go_region_held3 (fun w' => w'.cell? ⟨gx,2,none⟩ = some (.string x.f2) ∧ w'.cell? ⟨gx,3,none⟩ = some (.slice Ax x.f3.length cx)) (first | go_keep | exact ⟨by assumption,by assumption⟩ | exact ⟨cell_far2 gne (by assumption),cell_far2 gne (by assumption)⟩) (first | (go_at_call 67;refine (row_Of.calls Ax cx x.f3 x.f3 _ ?_ RC.out (of_copy x.f3 LX.out)).mono ?_;(with_reducible repeat (first | apply Kd.C_alloc | apply Kd.C_drewN | apply Kd.C_drew));exact RX5.out;rintro e w6 ⟨v6,rfl,hv,hb⟩;obtain ⟨A6,c6,rfl⟩ := Kd.R_slice hv;have V6 := Aside0.mk hv;have B6 := Aside0.mk (below_up (w := W5) (by (with_reducible repeat (first | apply below_alloc | apply below_drew | apply pw_below_drewN));exact Below.refl _ _) hb);have u2 := (B6.out.cell (p := ⟨gx,2,none⟩) (blk_lt BX.out)).trans y2;have u3 := (B6.out.cell (p := ⟨gx,3,none⟩) (blk_lt BX.out)).trans y3;(try (have BZ := Aside0.mk ((hb.block W5.heap.size (by simp)).trans (blk_new W5.drew (Obj.cells #[.string ⟨#[]⟩,.slice none 0 0] 56)));have z0 := blk_cell BZ.out 0;have z1 := blk_cell BZ.out 1;have z2 := fun o => blk_frozen BZ.out o));clear hv hb))
      · have P6 := Aside0.mk (show x.f3.length ≤ c6 from (Kd.R_reads' V6.out).2.1)
        have BB := Aside0.mk (blk_new w6 (Obj.cells #[.string x.f2,.slice A6 x.f3.length c6] 56))
        have NW8 := Aside0.mk (NW5.out.next (below_alloc B6.out (Obj.cells #[.string x.f2,.slice A6 x.f3.length c6] 56)))
        have RX8 := Aside0.mk (Kd.C_alloc (Kd.R_reads' V6.out).2.2 (Obj.cells #[.string x.f2,.slice A6 x.f3.length c6] 56))
        have f1 : (w6.alloc (Obj.cells #[.string x.f2,.slice A6 x.f3.length c6] 56)).cell? ⟨gx,1,none⟩ = some (.bool true) := ((below_alloc B6.out _).cell (p := ⟨gx,1,none⟩) (blk_lt BX.out)).trans y1
        clear y1 y2 y3 u2 u3 V6 B6 NW5 RX5
        generalize (w6.alloc (Obj.cells #[.string x.f2,.slice A6 x.f3.length c6] 56)) = W8 at BB NW8 RX8 f1 ⊢
        generalize w6.heap.size = gb at BB ⊢
        have GXL := Aside0.mk (World.block_lt_of_cell? _ _ f1)
        have f4 := blk_cell BB.out 0
        have f5 := blk_cell BB.out 1
        go_wp2_with (fail)
        refine (bsearch_nil x.f2 A6 x.f3.length c6 W8).mono ?_
        rintro e w9 ⟨rfl,hb9⟩
        have NW9 := Aside0.mk (NW8.out.next hb9)
        have BB9 := Aside0.mk ((hb9.block gb (blk_lt BB.out)).trans BB.out)
        have RX9 := Aside0.mk (Kd.C_below RX8.out hb9)
        replace f1 := (hb9.cell (p := ⟨gx,1,none⟩) GXL.out).trans f1
        have f2 := blk_cell BB9.out 0
        have f3 := blk_cell BB9.out 1
        have LE9 := Aside0.mk hb9.size
        clear hb9 NW8 BB RX8
        go_wp2_with (fail)
        have BA := below_alloc (Below.refl w9.heap.size w9) (Obj.cells #[.string x.f2,.slice A6 x.f3.length c6] 56)
        have NWA := Aside0.mk (NW9.out.next BA)
        have RXA := Aside0.mk (fact_one (x := ⟨x.f2,x.f3⟩) (blk_new w9 (Obj.cells #[.string x.f2,.slice A6 x.f3.length c6] 56)) P6.out (Kd.C_below RX9.out BA))
        refine (insert_nil ⟨w9.heap.size,0,none⟩ (⟨x.f2,x.f3⟩ : Vl) _ RXA.out).mono ?_
        rintro e w10 ⟨v,rfl,hv,hb⟩
        obtain ⟨Ar,cr,rfl⟩ := Kd.N_slice hv
        have NWB := Aside0.mk (NWA.out.next hb)
        clear hv hb
        go_wp2_with (fail)
        go_roundw
        case rel => exact ⟨1,by go_num,by omega,fun h => absurd h (by decide),fun _ => ⟨_,_,rfl⟩,NWB⟩
        case measure => simp [intOf]
      · have P6 := Aside0.mk (show x.f3.length ≤ c6 from (Kd.R_reads' V6.out).2.1)
        have BB1 := Aside0.mk (show (w6.setCell ⟨W5.heap.size,0,none⟩ (.string x.f2)).heap[W5.heap.size]? = some (.cells #[.string x.f2,.slice none 0 0] 56 (0,0)) from blk_put BZ.out 0 _ rfl)
        have BB := Aside0.mk (show ((w6.setCell ⟨W5.heap.size,0,none⟩ (.string x.f2)).setCell ⟨W5.heap.size,1,none⟩ (.slice A6 x.f3.length c6)).heap[W5.heap.size]? = some (.cells #[.string x.f2,.slice A6 x.f3.length c6] 56 (0,0)) from blk_put BB1.out 1 _ rfl)
        have NW8 := Aside0.mk (NextW.set (NextW.set (NW5.out.next B6.out) (p := ⟨W5.heap.size,0,none⟩) NW5.out.le (.string x.f2)) (p := ⟨W5.heap.size,1,none⟩) NW5.out.le (.slice A6 x.f3.length c6))
        have RX8 := Aside0.mk (Kd.R_reads' (Kd.R_far (Kd.R_far (Kd.R_bound V6.out) (p := ⟨W5.heap.size,0,none⟩) (fun k hk => by have h : (W5.alloc (Obj.cells #[.string ⟨#[]⟩,.slice none 0 0] 56)).heap.size ≤ k := hk.2.1;rw [World.size_alloc] at h;show k ≠ W5.heap.size;omega) (.string x.f2)) (p := ⟨W5.heap.size,1,none⟩) (fun k hk => by have h : (W5.alloc (Obj.cells #[.string ⟨#[]⟩,.slice none 0 0] 56)).heap.size ≤ k := hk.2.1;rw [World.size_alloc] at h;show k ≠ W5.heap.size;omega) (.slice A6 x.f3.length c6))).2.2
        have f1 := cell_far2 (i := 0) (j := 1) (u := .string x.f2) (v := .slice A6 x.f3.length c6) gne ((B6.out.cell (p := ⟨gx,1,none⟩) (blk_lt BX.out)).trans y1)
        clear y1 y2 y3 u2 u3 V6 B6 NW5 RX5 z0 z1 z2 BZ BB1
        generalize ((w6.setCell ⟨W5.heap.size,0,none⟩ (.string x.f2)).setCell ⟨W5.heap.size,1,none⟩ (.slice A6 x.f3.length c6)) = W8 at BB NW8 RX8 f1 ⊢
        generalize W5.heap.size = gb at BB gne ⊢
        have GXL := Aside0.mk (World.block_lt_of_cell? _ _ f1)
        have f4 := blk_cell BB.out 0
        have f5 := blk_cell BB.out 1
        go_wp2_with (fail)
        refine (bsearch_nil x.f2 A6 x.f3.length c6 W8).mono ?_
        rintro e w9 ⟨rfl,hb9⟩
        have NW9 := Aside0.mk (NW8.out.next hb9)
        have BB9 := Aside0.mk ((hb9.block gb (blk_lt BB.out)).trans BB.out)
        have RX9 := Aside0.mk (Kd.C_below RX8.out hb9)
        replace f1 := (hb9.cell (p := ⟨gx,1,none⟩) GXL.out).trans f1
        have f2 := blk_cell BB9.out 0
        have f3 := blk_cell BB9.out 1
        have LE9 := Aside0.mk hb9.size
        clear hb9 NW8 BB RX8
        go_wp2_with (fail)
        have BA := below_alloc (Below.refl w9.heap.size w9) (Obj.cells #[.string x.f2,.slice A6 x.f3.length c6] 56)
        have NWA := Aside0.mk (NW9.out.next BA)
        have RXA := Aside0.mk (fact_one (x := ⟨x.f2,x.f3⟩) (blk_new w9 (Obj.cells #[.string x.f2,.slice A6 x.f3.length c6] 56)) P6.out (Kd.C_below RX9.out BA))
        refine (insert_nil ⟨w9.heap.size,0,none⟩ (⟨x.f2,x.f3⟩ : Vl) _ RXA.out).mono ?_
        rintro e w10 ⟨v,rfl,hv,hb⟩
        obtain ⟨Ar,cr,rfl⟩ := Kd.N_slice hv
        have NWB := Aside0.mk (NWA.out.next hb)
        clear hv hb
        go_wp2_with (fail)
        go_roundw
        case rel => exact ⟨1,by go_num,by omega,fun h => absurd h (by decide),fun _ => ⟨_,_,rfl⟩,NWB⟩
        case measure => simp [intOf]
    · obtain ⟨A,c,rfl⟩ := ho1 rfl
      clear ho0 ho1 hi
      go_wp2_with (fail)
      go_ret2
      exact ⟨A,c,rfl,NW.out.below⟩
end Go.Proofs.Ythfaimomcbmniaa.Z
end
section
namespace Go.Proofs.Ythfaimomcbmniaa.Z
set_option linter.unusedVariables false
set_option linter.unusedSimpArgs false
open Go.RowKit Go.Proofs.YthfaimomcbmniaaW.PrintWords Go.Proofs.YthfaimomcbmniaaW.PrintLast Go.Proofs.YthfaimomcbmniaaW.PrintMore Go.Proofs.Ythfaimomcbmniaa.Cmp
theorem ev_one {w : World} {g : Nat} {x : Ev} (hx : x.f3 = []) (h : w.heap[g]? = some (.cells #[.int .i64 x.f0,.bool x.f1,.string x.f2,.slice none 0 0] 28 (0,0))) : Kd.C kEv w (some ⟨g,0,none⟩) 1 [x] :=
  ⟨rfl,by simp,fun _ => ⟨_,rfl,fun j p hj => by
    cases j with
    | succ j => simp at hj
    | zero =>
      simp only [List.getElem?_cons_zero,Option.some.injEq] at hj
      subst hj
      obtain ⟨x0,x1,x2,x3⟩ := x
      have hx' : x3 = [] := hx
      subst hx'
      refine ⟨_,rfl,k28_mk w ⟨x0,x1,x2,[]⟩ (A3 := none) (c3 := 0) (Nat.le_refl _) (Kd.C_nil _ _),fun i u hi => ?_⟩
      rw [Addr.add_lit,Nat.zero_mul,Nat.zero_add,Nat.zero_add]
      have h1 := blk_cell h i
      rw [h1,← hi]
      simp⟩⟩
theorem ev_oneF {w : World} {g : Nat} {x : Ev} (hx : x.f3 = []) (h : w.heap[g]? = some (.cells #[.int .i64 x.f0,.bool x.f1,.string x.f2,.slice none 0 0] 28 (0,0))) : Kd.F kEv w (fun k => k = g) (some ⟨g,0,none⟩) 1 [x] :=
  fun W' hW => ev_one hx ((hW g rfl (blk_lt h)).trans h)
def kEvN (b : Bool) : Ev := ⟨0,b,⟨#[114]⟩,[]⟩
theorem kept_step {ks : List Ev} (i : Nat) (h : ks.length = min i 40 ∧ ∀ x ∈ ks,x.f3 = []) :
    (if ks.length + 1 ≤ 40 then ks ++ numE i [kEvN false] else (ks ++ numE i [kEvN false]).drop (ks.length + 1 - 40)).length = min (i + 1) 40 ∧ ∀ x ∈ (if ks.length + 1 ≤ 40 then ks ++ numE i [kEvN false] else (ks ++ numE i [kEvN false]).drop (ks.length + 1 - 40)),x.f3 = [] := by
  have hm : ∀ x ∈ ks ++ numE i [kEvN false],x.f3 = [] := fun x hx => by
    rcases List.mem_append.1 hx with hx | hx
    · exact h.2 x hx
    · simp only [numE,List.mem_singleton] at hx
      subst hx
      rfl
  have hl : (ks ++ numE i [kEvN false]).length = ks.length + 1 := by rw [List.length_append];rfl
  by_cases hk : ks.length + 1 ≤ 40
  · rw [if_pos hk]
    exact ⟨by rw [hl];omega,hm⟩
  · rw [if_neg hk]
    exact ⟨by rw [List.length_drop,hl];omega,fun x hx => hm x (List.mem_of_mem_drop hx)⟩
set_option maxHeartbeats 8000000 in
set_option maxRecDepth 100000 in
theorem known29 (w : World) : Calls Try.prog 14 #[] w fun e w' => e = .returned (.bool true) ∧ Below w.heap.size w w' := by
  go_enter Try.func14,Try.ntmps14
  go_wp2_with (fail)
  refine (feed_new w w.heap.size (Nat.le_refl _)).mono ?_
  rintro e w1 ⟨f,rfl,hF,hb⟩
  have F1 := Aside0.mk hF
  have N1 := Aside0.mk (NextW.mk hb hb.size)
  clear hF hb
  go_wp2_with (fail)
  go_loopw [2] (fun iv wr => ∃ (i : Nat) (v : Value) (ks : List Ev),iv = .int .i64 (i : Int) ∧ i ≤ 41 ∧ Aside0 (FeedAt wr f w.heap.size v ks i) ∧ Aside0 (NextW w.heap.size w wr) ∧ Aside0 (ks.length = min i 40 ∧ ∀ x ∈ ks,x.f3 = [])) (fun iv _ => 41 - (intOf iv).toNat)
  case atStart => exact ⟨0,_,[],rfl,by omega,F1,N1,⟨⟨rfl,by simp⟩⟩⟩
  case round =>
    rename World => wr
    clear F1 N1
    obtain ⟨i,v,ks,rfl,hi,HF,NW,HK⟩ := hrel
    by_cases hlt : i < 41
    · have k0 : decide ((i : Int) < 41) = true := decide_eq_true (by omega)
      go_wp2_with (fail)
      have HBA := below_alloc (Below.refl wr.heap.size wr) (Obj.cells #[.int .i64 0,.bool false,.string ⟨#[114]⟩,.slice none 0 0] 28)
      have FA := Aside0.mk (HF.out.below HBA)
      have NA := Aside0.mk (NW.out.next HBA)
      have EA := Aside0.mk (ev_oneF (x := kEvN false) rfl (blk_new wr (Obj.cells #[.int .i64 0,.bool false,.string ⟨#[114]⟩,.slice none 0 0] 28)))
      refine (push_round _ f w.heap.size i v ks FA.out NA.out.le _ 1 1 [kEvN false] (fun k => k = wr.heap.size) EA.out (fun k hk => ⟨by have := blk_lt HF.out.blk;omega,fun e => by have := ((HF.out.q.own_ok) k e.symm).2.2.1;omega⟩) (by omega) (by omega) (by have := HK.out.1;omega) (by intro x hx;simp only [List.mem_singleton] at hx;subst hx;show 0 < _;omega)).mono ?_
      rintro e w6 ⟨v',rfl,hF6,hC6⟩
      have F6 := Aside0.mk hF6
      have N6 := Aside0.mk (NA.out.nextN (hC6.toBelow NA.out.le FA.out.le (fun k hk => ((FA.out.q.own_ok) k hk).2.1)))
      have K6 := Aside0.mk (kept_step i HK.out)
      clear hF6 hC6 HBA FA NA EA HF NW HK
      go_wp2_with (fail)
      go_roundw
      case rel => exact ⟨i + 1,v',_,by go_num,by omega,F6,N6,K6⟩
      case measure => simp [intOf];omega
    · have k0 : decide ((i : Int) < 41) = false := decide_eq_false (by omega)
      obtain rfl : i = 41 := by omega
      have KL := Aside0.mk (show ks.length = 40 by have := HK.out.1;omega)
      have KR := Aside0.mk (show ∀ x ∈ ks,x.f3.length < 3518437208883 from fun x hx => by rw [HK.out.2 x hx];show 0 < _;omega)
      clear hlt hi
      go_wp2_with (fail)
      refine (feed_read HF.out 0 (by have := KL.out;omega) (by omega) (by have := KL.out;omega) KR.out).mono ?_
      rintro e w2 ⟨A2,c2,L2,e2,rfl,h2,_,_,hb2⟩
      obtain ⟨rfl,rfl⟩ : L2 = [] ∧ e2 = 19 := by
        have : readD ks 41 0 = ([],19) := by unfold readD;rw [KL.out];rfl
        rw [this] at h2
        injection h2 with h2 h3
        exact ⟨h2,h3⟩
      have F2 := Aside0.mk (HF.out.below hb2)
      have N2 := Aside0.mk (NW.out.next hb2)
      clear hb2 h2 HF NW
      go_wp2_with (fail)
      refine (feed_read F2.out 1 (by have := KL.out;omega) (by omega) (by have := KL.out;omega) KR.out).mono ?_
      rintro e w3 ⟨A3,c3,L3,e3,rfl,h3,_,_,hb3⟩
      obtain ⟨rfl,rfl⟩ : L3 = ks ∧ e3 = 0 := by
        have : readD ks 41 1 = (ks,0) := by unfold readD;rw [KL.out];rfl
        rw [this] at h3
        injection h3 with h2 h3
        exact ⟨h2,h3⟩
      have F3 := Aside0.mk (F2.out.below hb3)
      have N3 := Aside0.mk (N2.out.next hb3)
      obtain ⟨n3,hn3⟩ : ∃ n3,L3.length = n3 := ⟨_,rfl⟩
      have hn40 : n3 = 40 := by have := KL.out;omega
      rw [hn3]
      subst hn40
      clear hb3 h3 F2 N2
      go_wp2_with (fail)
      have HBA := below_alloc (Below.refl w3.heap.size w3) (Obj.cells #[.int .i64 0,.bool true,.string ⟨#[114]⟩,.slice none 0 0] 28)
      have F4 := Aside0.mk (F3.out.below HBA)
      have N4 := Aside0.mk (N3.out.next HBA)
      have EA := Aside0.mk (ev_one (x := kEvN true) rfl (blk_new w3 (Obj.cells #[.int .i64 0,.bool true,.string ⟨#[114]⟩,.slice none 0 0] 28)))
      clear HBA F3 N3
      refine (fold_one w3.heap.size 1 (kEvN true) rfl (by show 0 < _;omega) _ EA.out).mono ?_
      rintro e w5 ⟨A5,c5,rfl,hb5⟩
      have F5 := Aside0.mk (F4.out.below hb5)
      have N5 := Aside0.mk (N4.out.next hb5)
      have H1 := Aside0.mk (feed_last F5.out)
      have H2 := Aside0.mk (feed_kept F5.out)
      clear hb5 F4 N4 EA
      go_wp2_with (fail)
      refine H1.out.mono ?_
      rintro e w6 ⟨rfl,rfl⟩
      go_wp2_with (fail)
      refine H2.out.mono ?_
      rintro e w6 ⟨rfl,rfl⟩
      rw [KL.out]
      go_wp2_with (fail)
      go_ret
      exact ⟨rfl,N5.out.below⟩
set_option maxHeartbeats 8000000 in
set_option maxRecDepth 100000 in
theorem feed_nil_law (m : Int) (w : World) : Calls Try.prog 5 #[.int .i64 m] w fun e w' => e = .returned (.bool true) ∧ Below w.heap.size w w' := by
  have R0 := Aside0.mk (feed_read0 m w)
  go_enter Try.func5,Try.ntmps5
  go_wp2_with (fail)
  refine R0.out.mono ?_
  rintro e w1 ⟨rfl,rfl⟩
  go_wp2_with (fail)
  refine (feed_push0 none 0 0 w).mono ?_
  rintro e w1 ⟨rfl,rfl⟩
  go_wp2_with (fail)
  refine (feed_last0 w).mono ?_
  rintro e w1 ⟨rfl,rfl⟩
  go_wp2_with (fail)
  refine (feed_kept0 w).mono ?_
  rintro e w1 ⟨rfl,rfl⟩
  go_wp2_with (fail)
  refine (feed_copy0 w).mono ?_
  rintro e w1 ⟨rfl,rfl⟩
  go_wp2_with (fail)
  refine (known29 w).mono ?_
  rintro e w1 ⟨rfl,hb⟩
  have HB := Aside0.mk hb
  clear hb
  go_wp2_with (fail)
  go_ret
  exact ⟨rfl,HB.out⟩
end Go.Proofs.Ythfaimomcbmniaa.Z
end
section
namespace Go.Proofs.Ythfaimomcbmniaa.Z
set_option linter.unusedVariables false
open Go.RowKit Go.Proofs.YthfaimomcbmniaaW.PrintWords Go.Proofs.YthfaimomcbmniaaW.PrintLast Go.Proofs.YthfaimomcbmniaaW.PrintMore
def verdererlaw29_FeedNil.f (a0 : Int) : Option (Bool) := some true
theorem verdererlaw29_FeedNil.calls (a0 : Int) (r : Bool) (w : World) (h : verdererlaw29_FeedNil.f a0 = some r) :
    Calls Try.prog 5 #[.int .i64 a0] w fun e w' => e = .returned (.bool r) ∧ Below w.heap.size w w' := by
  obtain rfl := Option.some.inj h
  exact feed_nil_law a0 w
end Go.Proofs.Ythfaimomcbmniaa.Z
end
section
namespace Go.Proofs.YthfaimomcbmniaaW.PrintWords
open Go.RowKit Go.ChangeShapes Go.WideShapes
section
variable {P : Program} {α β : Type}
theorem cell_heap {w w' : World} (h : w.heap = w'.heap) (a : Addr) : w'.cell? a = w.cell? a := by unfold World.cell?;rw [h]
end
end Go.Proofs.YthfaimomcbmniaaW.PrintWords
end
section
namespace Go.Proofs.Ythfaimomcbmniaa.Z
open Go.RowKit Go.Proofs.YthfaimomcbmniaaW.PrintWords Go.Proofs.YthfaimomcbmniaaW.PrintLast Go.Proofs.YthfaimomcbmniaaW.PrintMore
set_option maxRecDepth 100000
end Go.Proofs.Ythfaimomcbmniaa.Z
end
section
namespace Go.Proofs.Ythfaimomcbmniaa.Z
open Go.RowKit Go.Proofs.YthfaimomcbmniaaW.PrintWords Go.Proofs.YthfaimomcbmniaaW.PrintLast Go.Proofs.YthfaimomcbmniaaW.PrintMore
theorem feedNil_pure : ∀ (a0 : Int),(Lit.int .i64 a0).wf = true → verdererlaw29_FeedNil.f a0 = some true := by
  intros
  rfl
end Go.Proofs.Ythfaimomcbmniaa.Z
end
namespace Go.Proofs.Ythfaimomcbmniaa.feedNil
open Go.ChangeShapes Go.WideShapes Go.ChangeAt Go.RowKit Go.Proofs.YthfaimomcbmniaaW.PrintWords
open Go.ChangeMaps (open_string shut_string)
set_option linter.unusedVariables false
theorem own : ownKnob Try.prog.godebug = none := by kernel_rfl
theorem laidOut : laidOutB Try.prog = true := by kernel_rfl
set_option maxRecDepth 100000 in
theorem lifted (os : Os) (started : os.Started) (H : Type) (enc : TypeId × Value → H) :
    ReturnsInHanded {} Try.checked os 5 .any (Rows.feedNilSpec.pre6 enc Try.prog Try.f5 Rows.feedNilRow.domain false) (Rows.feedNilSpec.post enc Try.prog Try.f5 false true false false) := by
  refine returnsInHanded_of_change (C := Try.checked) own started (by kernel_rfl) Try.func5
    (ChangeSpec.witness6 (enc := enc) (C := Try.checked) false ⟨#[],#[.int .i64 0],[]⟩ 8 (by kernel_rfl) (by kernel_rfl) (by kernel_rfl) (by kernel_rfl)) ?_
  intro W base args ds gs before hval0 hW hcnd _
  have hval : ∀ (j : Nat) t v,Try.f5.params[j]? = some t → args[j]? = some v → Value.okWide Try.prog W .any base t v := hval0
  have hW' := hW
  obtain ⟨p,q,hA0,hV,rfl,hfz,hnd⟩ := hW
  have hA : DataW.TrodAll enc Try.prog W 0 (fun _ => true) true Try.f5.params.toList args.toList ds p := hA0
  rw [Try.params5] at hA hval
  obtain ⟨v0,vs0,d0,ds0,p0,q0,hargs,rfl,rfl,h0,r0⟩ := trodAll_cons hA
  obtain ⟨rfl,rfl,rfl⟩ := trodAll_nil r0
  obtain rfl : args = #[v0] := by cases args;simp_all
  obtain ⟨rfl,rfl⟩ := trodVars_none hV
  obtain ⟨a0,rfl,rfl,rfl,w0⟩ := open_int Try.underlying2 (hval 0 2 v0 rfl rfl) h0
  clear hA0 hval0
  have h := Z.feedNil_pure a0 w0
  refine (Z.verdererlaw29_FeedNil.calls a0 true W  h).mono fun e W' ⟨he,bel⟩ => ?_
  subst he
  exact ⟨_,rfl,_,_,_,[],_,[],hW',trodAll_mk1 (shut_bool Try.underlying4 _),(trodAll_cons_mk (shut_int Try.underlying2 w0) trodAll_mk0),rfl,bel.frame _,fun h => by cases h⟩
theorem over : Rows.feedNilRow.holds Try.pinned (OpenSpec.ofChange Rows.feedNilSpec) :=
  OpenClaim.holds_of_wide 5 Try.f5 rfl rfl rfl rfl rfl rfl rfl ⟨rfl,rfl,rfl,rfl,rfl⟩ rfl rfl rfl rfl rfl (by kernel_rfl) Try.func5 (by kernel_rfl)
    (of_decide_eq_true (by kernel_rfl)) (by unfold Func.isWrapper;first | (rw [if_pos (by decide +kernel)];kernel_rfl) | (rw [if_neg (by decide +kernel)];exact ⟨rfl,rfl⟩))
    (fun os started H enc _ => lifted os started H enc)
theorem proved : Rows.FeedNilSaid := over
#print axioms proved
end Go.Proofs.Ythfaimomcbmniaa.feedNil
namespace Go.Proofs.Ythfaimomcbmniaa
theorem feedNil_holds : Rows.FeedNilSaid := feedNil.proved
end Go.Proofs.Ythfaimomcbmniaa
