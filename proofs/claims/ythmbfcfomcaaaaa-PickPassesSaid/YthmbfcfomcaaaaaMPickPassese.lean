/- Parts of the proof of PickPasses: what its functions answer. -/
import Derived.Test.YthmbfcfomcaaaaaMPickPassesa
import Derived.Test.YthmbfcfomcaaaaaMPickPassesb
import Derived.Test.YthmbfcfomcaaaaaMPickPassesc
import Derived.Test.YthmbfcfomcaaaaaMPickPassesd
section
namespace Go.Proofs.Ythmbfcfomcaaaaa.Z
set_option linter.unusedVariables false
set_option linter.unusedSimpArgs false
open Go.RowKit Go.Proofs.YthmbfcfomcaaaaaW.PrintWords Go.Proofs.YthmbfcfomcaaaaaW.PrintLast Go.Proofs.YthmbfcfomcaaaaaW.PrintMore Go.Proofs.Ythmbfcfomcaaaaa.Cmp
def mayD (L : List En) : List En → Int → Int
 | [],rows => if 1500 < rows then 6 else 0
 | e :: es,rows => if manyD e.f0 L + e.f1 < 0 ∨ 1073741824 < manyD e.f0 L + e.f1 then 10 else mayD L es (if manyD e.f0 L = 0 then rows + 1 else if manyD e.f0 L + e.f1 = 0 then rows - 1 else rows)
def tv (L : List En) (e : En) : Int := if manyD e.f0 L = 0 then 1 else if manyD e.f0 L + e.f1 = 0 then -1 else 0
def tell1 (L : List En) (e : En) : List En := if manyD e.f0 L = 0 then [⟨e.f0,1⟩] else if manyD e.f0 L + e.f1 = 0 then [⟨e.f0,-1⟩] else []
def tellD (L net : List En) : List En := net.flatMap (tell1 L)
def appD (l L : List En) : Int × List En × List En :=
 if (ofD l []).1 = 0 then (if mayD L (ofD l []).2 L.length = 0 then (0,tellD L (ofD l []).2,mulD 1 (ofD l []).2 L) else (mayD L (ofD l []).2 L.length,[],L)) else ((ofD l []).1,[],L)
def PosD (L : List En) : Prop := ∀ x ∈ L,1 ≤ x.f1
def onesD (L : List En) : List En := L.map (fun x => ⟨x.f0,1⟩)
def cntD (L : List En) : List En → Int
 | [] => 0
 | e :: es => tv L e + cntD L es
def InM (L net : List En) : Prop := ∀ e ∈ net,0 ≤ manyD e.f0 L + e.f1 ∧ manyD e.f0 L + e.f1 ≤ 1073741824
theorem may_iff (L : List En) : ∀ (net : List En) (rows : Int),mayD L net rows = 0 ↔ InM L net ∧ rows + cntD L net ≤ 1500
 | [],rows => by
  simp only [mayD,cntD,InM]
  split
  ·constructor
   ·intro h;cases h
   ·intro h;have := h.2;omega
  ·exact ⟨fun _ => ⟨fun e h => (by cases h),by omega⟩,fun _ => rfl⟩
 | e :: es,rows => by
  simp only [mayD,cntD]
  by_cases h : manyD e.f0 L + e.f1 < 0 ∨ 1073741824 < manyD e.f0 L + e.f1
  ·rw [if_pos h]
   constructor
   ·intro q;cases q
   ·intro q;have := q.1 e (by simp);omega
  ·rw [if_neg h,may_iff L es]
   have hc : (if manyD e.f0 L = 0 then rows + 1 else if manyD e.f0 L + e.f1 = 0 then rows - 1 else rows) = rows + tv L e := by
    unfold tv;split
    ·rfl
    ·split <;> omega
   rw [hc]
   constructor
   ·rintro ⟨h1,h2⟩
    refine ⟨fun x hx => ?_,by omega⟩
    rcases List.mem_cons.1 hx with q | q
    ·subst q;omega
    ·exact h1 x q
   ·rintro ⟨h1,h2⟩
    exact ⟨fun x hx => h1 x (List.mem_cons_of_mem _ hx),by omega⟩
theorem inB_all {L net : List En} (hn : OkD net) (hb : InM L net) : allD 1 net L = true := by
 unfold allD
 rw [List.all_eq_true]
 intro e he
 have h1 := hb e he
 have h2 := hn e he
 unfold okAdd
 rw [Int.mul_one,Bool.and_eq_true,Bool.and_eq_true,decide_eq_true_eq,decide_eq_true_eq,few_iff]
 omega
theorem mul_app (m : Int) : ∀ (a b L : List En),mulD m (a ++ b) L = mulD m b (mulD m a L)
 | [],b,L => rfl
 | e :: a,b,L => mul_app m a b _
theorem many_mul {T1 T2 : List En} {e : En} {L : List En} (ht : SrtD (T1 ++ e :: T2)) (kt : OkD (T1 ++ e :: T2)) (hs : SrtD L) (hk : OkD L) (ha : allD 1 (T1 ++ e :: T2) L = true) : manyD e.f0 (mulD 1 T1 L) = manyD e.f0 L := by
 have s1 : SrtD T1 := (List.pairwise_append.1 ht).1
 have a1 : allD 1 T1 L = true := by
  unfold allD at ha ⊢
  rw [List.all_append,Bool.and_eq_true] at ha
  exact ha.1
 rw [(mul_law 1 T1 L s1 (fun x hx => kt x (List.mem_append_left _ hx)) hs hk a1).2.2,sumE_none,Int.add_zero]
 intro y hy
 have := (List.pairwise_append.1 ht).2.2 y hy e (by simp)
 have := rcmp_anti y.f0 e.f0
 omega
theorem mul_step {T1 T2 : List En} {e : En} {L : List En} (ht : SrtD (T1 ++ e :: T2)) (kt : OkD (T1 ++ e :: T2)) (hs : SrtD L) (hk : OkD L) (ha : allD 1 (T1 ++ e :: T2) L = true) : addD e.f0 e.f1 (mulD 1 T1 L) = (0,mulD 1 (T1 ++ [e]) L) := by
 have h1 := many_mul ht kt hs hk ha
 have h2 : okAdd e.f0 (e.f1 * 1) L = true := by
  unfold allD at ha
  exact List.all_eq_true.1 ha e (by simp)
 rw [Int.mul_one] at h2
 have h3 : okAdd e.f0 e.f1 (mulD 1 T1 L) = true := by
  unfold okAdd at h2 ⊢
  rw [h1];exact h2
 rw [mul_app]
 show _ = (0,(addD e.f0 (e.f1 * 1) (mulD 1 T1 L)).2)
 rw [Int.mul_one,add_some (kt e (by simp)).1 h3]
theorem many_pos {L : List En} (h : PosD L) (r : Rw) : 0 ≤ manyD r L := by
 unfold manyD
 split
 ·rename_i x hx
  have := h x (List.mem_of_find?_eq_some hx)
  omega
 ·exact Int.le_refl 0
theorem many_zero {L : List En} (hk : OkD L) {r : Rw} : manyD r L = 0 ↔ fndD r L = none := by
 unfold manyD
 split
 ·rename_i x hx
  rw [hx]
  have := (hk x (List.mem_of_find?_eq_some hx)).2.1
  simp [this]
 ·rename_i hx
  simp [hx]
theorem fnd_ones (L : List En) (r : Rw) : fndD r (onesD L) = (fndD r L).map (fun x => ⟨x.f0,1⟩) := by
 unfold fndD onesD
 rw [List.find?_map]
 rfl
theorem many_ones {L : List En} (hk : OkD L) (r : Rw) : manyD r (onesD L) = if manyD r L = 0 then 0 else 1 := by
 by_cases h : manyD r L = 0
 ·rw [if_pos h]
  have h2 := (many_zero hk).1 h
  unfold manyD
  rw [fnd_ones,h2]
  rfl
 ·rw [if_neg h]
  have h2 : fndD r L ≠ none := fun q => h ((many_zero hk).2 q)
  obtain ⟨x,hx⟩ := Option.ne_none_iff_exists'.1 h2
  unfold manyD
  rw [fnd_ones,hx]
  rfl
theorem ones_srt {L : List En} (h : SrtD L) : SrtD (onesD L) := by
 unfold SrtD onesD
 rw [List.pairwise_map]
 exact h
theorem ones_ok {L : List En} (h : OkD L) : OkD (onesD L) := fun x hx => by
 obtain ⟨y,hy,rfl⟩ := List.mem_map.1 hx
 refine ⟨(h y hy).1,?_⟩
 simp only
 omega
theorem tell_mem {L : List En} {e y : En} (h : y ∈ tell1 L e) : y = ⟨e.f0,tv L e⟩ ∧ (tv L e = 1 ∨ tv L e = -1) := by
 unfold tell1 at h
 unfold tv
 split at h
 ·rename_i q;rw [if_pos q];exact ⟨by simpa using h,.inl rfl⟩
 ·rename_i q
  rw [if_neg q]
  split at h
  ·rename_i q2;rw [if_pos q2];exact ⟨by simpa using h,.inr rfl⟩
  ·cases h
theorem tell_srt {L net : List En} (h : SrtD net) : SrtD (tellD L net) := by
 unfold SrtD tellD
 rw [List.pairwise_flatMap]
 refine ⟨fun e _ => ?_,List.Pairwise.imp (fun {a b} hab x hx y hy => ?_) h⟩
 ·unfold tell1;split
  ·exact List.pairwise_singleton _ _
  ·split
   ·exact List.pairwise_singleton _ _
   ·exact List.Pairwise.nil
 ·rw [(tell_mem hx).1,(tell_mem hy).1];exact hab
theorem tell_ok {L net : List En} (h : OkD net) : OkD (tellD L net) := fun x hx => by
 obtain ⟨e,he,hy⟩ := List.mem_flatMap.1 hx
 obtain ⟨h1,h2⟩ := tell_mem hy
 subst h1
 refine ⟨(h e he).1,?_⟩
 simp only
 omega
theorem tell_cons (L : List En) (e : En) (es : List En) : tellD L (e :: es) = tell1 L e ++ tellD L es := rfl
theorem sum_tell1 (L : List En) (e : En) (r : Rw) : sumE 1 r (tell1 L e) = atD r e.f0 (tv L e) := by
 unfold tell1 tv
 split
 ·simp [sumE]
 ·split
  ·simp [sumE]
  ·simp [sumE,atD]
theorem tell_none (L : List En) {r : Rw} : ∀ {net : List En},(∀ y ∈ net,rcmp r y.f0 ≠ 0) → sumE 1 r (tellD L net) = 0
 | [],_ => rfl
 | e :: es,h => by
  rw [tell_cons,sumE_app,sum_tell1,tell_none L (fun y hy => h y (List.mem_cons_of_mem _ hy))]
  unfold atD
  rw [if_neg (h e (by simp))]
  rfl
theorem tell_sum (L : List En) : ∀ {net : List En},SrtD net → ∀ {x : En},x ∈ net → sumE 1 x.f0 (tellD L net) = tv L x
 | [],_,_,hx => by cases hx
 | e :: es,h,x,hx => by
  obtain ⟨h1,h2⟩ := h.cons
  rw [tell_cons,sumE_app,sum_tell1]
  rcases List.mem_cons.1 hx with q | q
  ·subst q
   rw [atD_self,tell_none L (fun y hy => by have := h1 y hy;omega)]
   omega
  ·rw [tell_sum L h2 q]
   have c1 := h1 x q
   have := rcmp_anti x.f0 e.f0
   unfold atD
   rw [if_neg (by omega)]
   omega
theorem sum_eq {r r' : Rw} (c : rcmp r r' = 0) : ∀ T : List En,sumE 1 r T = sumE 1 r' T
 | [] => rfl
 | e :: T => by
  simp only [sumE]
  rw [sum_eq c T]
  unfold atD
  rw [rcmp_law.eq_left e.f0 c]
theorem hit_or (r : Rw) (net : List En) : (∃ e ∈ net,rcmp r e.f0 = 0) ∨ ∀ y ∈ net,rcmp r y.f0 ≠ 0 := by
 by_cases h : ∃ e ∈ net,rcmp r e.f0 = 0
 ·exact .inl h
 ·exact .inr (fun y hy q => h ⟨y,hy,q⟩)
structure OnceD (L : List En) : Prop where
 srt : SrtD L
 ok : OkD L
 pos : PosD L
 few : L.length ≤ 1500
theorem once_nil : OnceD [] := ⟨List.Pairwise.nil,fun x hx => (by cases hx),fun x hx => (by cases hx),by simp⟩
theorem len_put {L : List En} (hs : SrtD L) (hk : OkD L) {e : En} (hr : rright e.f0 = true) (h0 : e.f1 ≠ 0) (ho : okAdd e.f0 e.f1 L = true) : (((addD e.f0 e.f1 L).2.length : Nat) : Int) = L.length + tv L e := by
 rw [add_some hr ho]
 have h1 := putD_len e.f0 (manyD e.f0 L + e.f1) hs
 simp only
 unfold tv
 by_cases q : manyD e.f0 L = 0
 ·rw [if_pos q]
  rw [(many_zero hk).1 q,q] at h1
  rw [q]
  rw [if_neg (by omega)] at h1
  simp only [Option.toList_none,List.length_nil] at h1
  omega
 ·rw [if_neg q]
  have h2 : fndD e.f0 L ≠ none := fun q2 => q ((many_zero hk).2 q2)
  obtain ⟨x,hx⟩ := Option.ne_none_iff_exists'.1 h2
  rw [hx] at h1
  simp only [Option.toList_some,List.length_cons,List.length_nil] at h1
  by_cases q2 : manyD e.f0 L + e.f1 = 0
  ·rw [if_pos q2] at h1 ⊢;omega
  ·rw [if_neg q2] at h1 ⊢;omega
theorem cnt_same {L L2 : List En} : ∀ {net : List En},(∀ y ∈ net,manyD y.f0 L2 = manyD y.f0 L) → cntD L2 net = cntD L net
 | [],_ => rfl
 | e :: es,h => by
  simp only [cntD]
  rw [cnt_same (fun y hy => h y (List.mem_cons_of_mem _ hy))]
  unfold tv
  rw [h e (by simp)]
theorem len_mul : ∀ (net L : List En),SrtD net → OkD net → SrtD L → OkD L → allD 1 net L = true → ((mulD 1 net L).length : Int) = L.length + cntD L net
 | [],L,_,_,_,_,_ => by simp [mulD,cntD]
 | e :: es,L,ho,ko,hs,hk,ha => by
  have hst := mul_step (T1 := []) (T2 := es) ho ko hs hk ha
  have ha1 : okAdd e.f0 (e.f1 * 1) L = true := by unfold allD at ha;exact List.all_eq_true.1 ha e (by simp)
  rw [Int.mul_one] at ha1
  obtain ⟨i1,i2⟩ := addD_inv (r := e.f0) (m := e.f1) hs hk
  have h1 := len_put hs hk (ko e (by simp)).1 (ko e (by simp)).2.1 ha1
  obtain ⟨o1,o2⟩ := ho.cons
  have hm : ∀ y ∈ es,manyD y.f0 (addD e.f0 e.f1 L).2 = manyD y.f0 L := fun y hy => by
   rw [many_add y.f0 e.f0 e.f1 hs (ko e (by simp)).1 ha1]
   have c1 := o1 y hy
   have := rcmp_anti y.f0 e.f0
   unfold atD
   rw [if_neg (by omega)]
   omega
  have hal : allD 1 es (addD e.f0 e.f1 L).2 = true := by
   unfold allD at ha ⊢
   rw [List.all_eq_true] at ha ⊢
   intro y hy
   have h1 := ha y (List.mem_cons_of_mem _ hy)
   unfold okAdd at h1 ⊢
   rw [hm y hy];exact h1
  have h2 := len_mul es _ o2 (fun x hx => ko x (List.mem_cons_of_mem _ hx)) i1 i2 hal
  show ((mulD 1 es (addD e.f0 (e.f1 * 1) L).2).length : Int) = _
  rw [Int.mul_one,h2,h1,cnt_same hm]
  simp only [cntD]
  omega
theorem ones_law {L net : List En} (hL : OnceD L) (ho : SrtD net) (ko : OkD net) (hb : InM L net) (hc : (L.length : Int) + cntD L net ≤ 1500) :
  OnceD (mulD 1 net L) ∧ allD 1 (tellD L net) (onesD L) = true ∧ mulD 1 (tellD L net) (onesD L) = onesD (mulD 1 net L) := by
 have ha := inB_all ko hb
 obtain ⟨j1,j2,j3⟩ := mul_law 1 net L ho ko hL.srt hL.ok ha
 have hp : ∀ r,0 ≤ manyD r (mulD 1 net L) := fun r => by
  rw [j3]
  rcases hit_or r net with ⟨e,he,c⟩ | h
  ·rw [many_eq L c,sum_eq c,sumE_mem 1 ho he,Int.mul_one]
   exact (hb e he).1
  ·rw [sumE_none 1 h,Int.add_zero]
   exact many_pos hL.pos r
 have hal : allD 1 (tellD L net) (onesD L) = true := by
  unfold allD
  rw [List.all_eq_true]
  intro y hy
  obtain ⟨e,he,hy⟩ := List.mem_flatMap.1 hy
  obtain ⟨h1,h2⟩ := tell_mem hy
  subst h1
  have h3 := many_ones hL.ok e.f0
  unfold okAdd
  simp only
  rw [Int.mul_one,Bool.and_eq_true,Bool.and_eq_true,decide_eq_true_eq,decide_eq_true_eq,few_iff]
  split at h3 <;> omega
 obtain ⟨k1,k2,k3⟩ := mul_law 1 (tellD L net) (onesD L) (tell_srt ho) (tell_ok ko) (ones_srt hL.srt) (ones_ok hL.ok) hal
 refine ⟨⟨j1,j2,fun x hx => ?_,?_⟩,hal,?_⟩
 ·have h1 := hp x.f0
  rw [many_mem j1 hx] at h1
  have := (j2 x hx).2.1
  omega
 ·have := len_mul net L ho ko hL.srt hL.ok ha
  omega
 ·refine doc_ext k1 (ones_srt j1) k2 (ones_ok j2) (fun r _ => ?_)
  rw [k3,many_ones hL.ok,many_ones j2,j3]
  rcases hit_or r net with ⟨e,he,c⟩ | h
  ·have h2 := hb e he
   have h3 := (ko e he).2.1
   rw [many_eq L c,sum_eq c,sum_eq c,sumE_mem 1 ho he,tell_sum L ho he,Int.mul_one]
   unfold tv
   by_cases q : manyD e.f0 L = 0
   ·rw [if_pos q,if_pos q,if_neg (by omega)];rfl
   ·rw [if_neg q,if_neg q]
    by_cases q2 : manyD e.f0 L + e.f1 = 0
    ·rw [if_pos q2,if_pos q2];rfl
    ·rw [if_neg q2,if_neg q2];rfl
  ·rw [sumE_none 1 h,tell_none L h,Int.add_zero,Int.add_zero]
def backD (net : List En) : List En := net.map (fun e => ⟨e.f0,-e.f1⟩)
theorem back_srt {L : List En} (h : SrtD L) : SrtD (backD L) := by
 unfold SrtD backD
 rw [List.pairwise_map]
 exact h
theorem back_ok {L : List En} (h : OkD L) : OkD (backD L) := fun x hx => by
 obtain ⟨y,hy,rfl⟩ := List.mem_map.1 hx
 have := h y hy
 refine ⟨this.1,?_⟩
 simp only
 omega
theorem of_all : ∀ (l pre : List En),SrtD (pre ++ l) → OkD l → ofD l pre = (0,pre ++ l)
 | [],pre,_,_ => by rw [List.append_nil];rfl
 | e :: l,pre,hs,hk => by
  have h1 := hk e (by simp)
  have hs2 : SrtD ((pre ++ [e]) ++ l) := by rw [List.append_assoc];exact hs
  have h2 := copy_step (List.pairwise_append.1 hs2).1 h1.1 h1.2.1 (few_iff.2 h1.2.2)
  simp only [ofD]
  rw [h2]
  simp only
  rw [if_pos trivial,of_all l (pre ++ [e]) hs2 (fun x hx => hk x (List.mem_cons_of_mem _ hx)),List.append_assoc]
  rfl
theorem sum_back (r : Rw) : ∀ T : List En,sumE 1 r (backD T) = - sumE 1 r T
 | [] => rfl
 | e :: T => by
  have := sum_back r T
  unfold backD at this ⊢
  simp only [List.map_cons,sumE]
  rw [this]
  unfold atD
  split <;> omega
theorem back_law {L net : List En} (hL : OnceD L) (ho : SrtD net) (ko : OkD net) (hb : InM L net) (hc : (L.length : Int) + cntD L net ≤ 1500) :
  ∃ T,appD (backD net) (mulD 1 net L) = (0,T,L) ∧ T.length = (tellD L net).length := by
 have ha := inB_all ko hb
 obtain ⟨j1,j2,j3⟩ := mul_law 1 net L ho ko hL.srt hL.ok ha
 have hw : ∀ e ∈ net,manyD e.f0 (mulD 1 net L) = manyD e.f0 L + e.f1 := fun e he => by
  rw [j3,sumE_mem 1 ho he,Int.mul_one]
 have hb2 : InM (mulD 1 net L) (backD net) := fun e he => by
  obtain ⟨y,hy,rfl⟩ := List.mem_map.1 he
  simp only
  rw [hw y hy]
  have h1 := many_pos hL.pos y.f0
  have h2 := many_bd (r := y.f0) hL.ok
  omega
 have ha2 := inB_all (back_ok ko) hb2
 obtain ⟨k1,k2,k3⟩ := mul_law 1 (backD net) (mulD 1 net L) (back_srt ho) (back_ok ko) j1 j2 ha2
 have hL2 : mulD 1 (backD net) (mulD 1 net L) = L := doc_ext k1 hL.srt k2 hL.ok (fun r _ => by rw [k3,j3,sum_back];omega)
 have hlen := len_mul (backD net) (mulD 1 net L) (back_srt ho) (back_ok ko) j1 j2 ha2
 rw [hL2] at hlen
 have hf := hL.few
 have hof := of_all (backD net) [] (back_srt ho) (back_ok ko)
 refine ⟨tellD (mulD 1 net L) (backD net),?_,?_⟩
 ·unfold appD
  rw [hof]
  simp only [List.nil_append]
  rw [if_pos trivial,if_pos ((may_iff _ _ _).2 ⟨hb2,by omega⟩),hL2]
 ·have : ∀ T : List En,(∀ e ∈ T,e ∈ net) → (tellD (mulD 1 net L) (backD T)).length = (tellD L T).length := fun T => by
   induction T with
   | nil => intro _;rfl
   | cons e T ih =>
    intro hT
    have he := hT e (by simp)
    show (tellD (mulD 1 net L) (⟨e.f0,-e.f1⟩ :: backD T)).length = _
    rw [tell_cons,tell_cons,List.length_append,List.length_append,ih (fun x hx => hT x (List.mem_cons_of_mem _ hx))]
    congr 1
    unfold tell1
    simp only
    rw [hw e he]
    have h0 := (ko e he).2.1
    by_cases q : manyD e.f0 L = 0
    ·rw [if_pos q]
     rw [if_neg (by omega),if_pos (by omega)]
     rfl
    ·rw [if_neg q]
     by_cases q2 : manyD e.f0 L + e.f1 = 0
     ·rw [if_pos q2,if_pos q2];rfl
     ·rw [if_neg q2,if_neg q2,if_neg (by omega)]
  exact this net (fun e he => he)
theorem of_inv : ∀ (l L : List En),SrtD L → OkD L → SrtD (ofD l L).2 ∧ OkD (ofD l L).2 ∧ (ofD l L).2.length ≤ L.length + l.length
 | [],L,hs,hk => ⟨hs,hk,Nat.le_refl _⟩
 | e :: l,L,hs,hk => by
  simp only [ofD]
  split
  ·obtain ⟨i1,i2⟩ := addD_inv (r := e.f0) (m := e.f1) hs hk
   obtain ⟨h1,h2,h3⟩ := of_inv l _ i1 i2
   have := addD_len e.f0 e.f1 hs
   exact ⟨h1,h2,by simp only [List.length_cons];omega⟩
  ·exact ⟨hs,hk,by simp only [List.length_cons];omega⟩
theorem app_law {l L : List En} (hL : OnceD L) : OnceD (appD l L).2.2 ∧ mulD 1 (appD l L).2.1 (onesD L) = onesD (appD l L).2.2 ∧ SrtD (appD l L).2.1 ∧ OkD (appD l L).2.1 ∧ allD 1 (appD l L).2.1 (onesD L) = true ∧ ((appD l L).1 ≠ 0 → (appD l L).2.1 = [] ∧ (appD l L).2.2 = L)
  ∧ ((appD l L).1 = 0 → (ofD l []).1 = 0 ∧ ∃ T,appD (backD (ofD l []).2) (appD l L).2.2 = (0,T,L) ∧ T.length = (appD l L).2.1.length) := by
 obtain ⟨n1,n2,_⟩ := of_inv l [] List.Pairwise.nil (fun x hx => (by cases hx))
 unfold appD
 by_cases h : (ofD l []).1 = 0
 ·rw [if_pos h]
  by_cases h2 : mayD L (ofD l []).2 L.length = 0
  ·rw [if_pos h2]
   obtain ⟨hb,hc⟩ := (may_iff _ _ _).1 h2
   obtain ⟨h3,h4,h5⟩ := ones_law hL n1 n2 hb hc
   obtain ⟨T,h6,h7⟩ := back_law hL n1 n2 hb hc
   exact ⟨h3,h5,tell_srt n1,tell_ok n2,h4,fun q => absurd rfl q,fun _ => ⟨h,T,h6,h7⟩⟩
  ·rw [if_neg h2]
   exact ⟨hL,rfl,List.Pairwise.nil,fun x hx => (by cases hx),rfl,fun _ => ⟨rfl,rfl⟩,fun q => absurd q h2⟩
 ·rw [if_neg h]
  exact ⟨hL,rfl,List.Pairwise.nil,fun x hx => (by cases hx),rfl,fun _ => ⟨rfl,rfl⟩,fun q => absurd q h⟩
end Go.Proofs.Ythmbfcfomcaaaaa.Z
end
section
namespace Go.Proofs.Ythmbfcfomcaaaaa.Z
open Go.RowKit Go.Proofs.YthmbfcfomcaaaaaW.PrintWords Go.Proofs.YthmbfcfomcaaaaaW.PrintLast Go.Proofs.YthmbfcfomcaaaaaW.PrintMore
attribute [local go_sem] max2_int min2_int max_two min_two max_three min_three max_four min_four
set_option linter.unusedVariables false
set_option linter.unusedSimpArgs false
def row_Same.f (k : Nat) (l0 : List (S66)) (l1 : List (S66)) : Option (Bool) := (row_Compare.f k l0 l1).bind fun t146 => (some (t146 == 0))
theorem row_Same.mono : ∀ a0 a1 k,LeO (row_Same.f k a0 a1) (row_Same.f (k + 1) a0 a1) := by
 intro a0 a1 k
 unfold row_Same.f
 repeat' first
   | (with_reducible exact row_Compare.mono _ _ _)
   | (with_reducible exact LeO.refl _)
   | (with_reducible exact LeO.none _)
   | (with_reducible refine LeO.ite ?_ ?_)
   | (with_reducible refine LeO.bind ?_ (fun _ => ?_))
   | exact row_Compare.mono _ _ _
   | exact LeO.none _
   | refine LeO.ite ?_ ?_
   | refine LeO.bind ?_ (fun _ => ?_)
set_option maxHeartbeats 8000000 in
set_option maxRecDepth 100000 in
theorem row_Same.calls (k : Nat) (A0 : Option Addr) (c0 : Nat) (l0 : List (S66)) (A1 : Option Addr) (c1 : Nat) (l1 : List (S66)) (r : Bool) (w : World) (hr0 : Kd.C k66 w A0 l0.length l0) (hc0 : l0.length ≤ c0) (hr1 : Kd.C k66 w A1 l1.length l1) (hc1 : l1.length ≤ c1) (h : row_Same.f k l0 l1 = some r) :
  Calls Try.prog 74 #[.slice A0 l0.length c0,.slice A1 l1.length c1] w fun e w' => e = .returned (.bool r) ∧ Below w.heap.size w w' := by
 have HR0 := Aside0.mk hr0
 have HC0 := Aside0.mk hc0
 clear hr0 hc0
 have HR1 := Aside0.mk hr1
 have HC1 := Aside0.mk hc1
 clear hr1 hc1
 have HB := Aside0.mk (Below.refl w.heap.size w)
 have H : ((row_Compare.f k l0 l1).bind fun t146 => (some (t146 == 0))) = some r := h
 clear h
 replace H := Option.bind_eq_some_iff.mp H
 obtain ⟨t146,A30,H⟩ := H
 replace H : (some (t146 == 0)) = some r := H
 have A3 := Aside0.mk A30
 clear A30
 obtain rfl := Option.some.inj H
 go_enter Try.func74,Try.ntmps74
 go_wp2_with (first | ((with_reducible refine q0v (f := 93) rfl ?_);refine goesL_ (some 7) rfl rfl Try.func93 (by kernel_rfl) rfl #[.slice A0 l0.length c0,.slice A1 l1.length c1] rfl (by (try simp only [List.map_toArray,List.map_cons,List.map_nil]);first | done | rfl | (simp only [List.length_drop,List.length_take];rfl)) ?_;(with_reducible refine (row_Compare.calls k _ _ l0 _ _ l1 t146 _ ?side1 ?side2 ?side3 ?side4 A3.out).mono ?_);(case side1 => repeat (first | exact HR0.out | (with_reducible refine Kd.C_alloc ?_ _) | (with_reducible refine Kd.C_drewN ?_ _) | (with_reducible refine Kd.C_drew ?_)));(case side2 => exact HC0.out);(case side3 => repeat (first | exact HR1.out | (with_reducible refine Kd.C_alloc ?_ _) | (with_reducible refine Kd.C_drewN ?_ _) | (with_reducible refine Kd.C_drew ?_)));(case side4 => exact HC1.out);rintro e w4 ⟨rfl,hb⟩;refine ⟨_,rfl,?_⟩;have n0_ := Aside0.mk (q0l (by repeat (first | (with_reducible first | exact HB.out | apply q0b | apply q0a | apply q0c) | exact HB.out)) hb);clear HB;have HB := n0_;clear n0_;(try clear hb);(try clear hb2);(try clear hk);(try clear hi)))
 go_ret
 exact ⟨by first | rfl | (simp [q0m,q0n] <;> rfl) | (simp [*,q0m,q0n] <;> rfl),by repeat (first | (with_reducible first | exact HB.out | apply q0b | apply q0a | apply q0c) | exact HB.out)⟩
end Go.Proofs.Ythmbfcfomcaaaaa.Z
end
section
namespace Go.Proofs.Ythmbfcfomcaaaaa.Z
open Go.RowKit Go.Proofs.YthmbfcfomcaaaaaW.PrintWords Go.Proofs.YthmbfcfomcaaaaaW.PrintLast Go.Proofs.YthmbfcfomcaaaaaW.PrintMore
attribute [local go_sem] max2_int min2_int max_two min_two max_three min_three max_four min_four
set_option linter.unusedVariables false
set_option linter.unusedSimpArgs false
def bag_Same_1.f (k : Nat) (l0_0 : List (S66)) (a0_1 : Int) (l1_0 : List (S66)) (a1_1 : Int) : Option (Bool) := if a0_1 = a1_1 then ((row_Same.f k l0_0 l1_0).bind fun t229 => (some t229)) else (some false)
theorem bag_Same_1.mono : ∀ a0 a1 a2 a3 k,LeO (bag_Same_1.f k a0 a1 a2 a3) (bag_Same_1.f (k + 1) a0 a1 a2 a3) := by
 intro a0 a1 a2 a3 k
 unfold bag_Same_1.f
 repeat' first
   | (with_reducible exact row_Same.mono _ _ _)
   | (with_reducible exact LeO.refl _)
   | (with_reducible exact LeO.none _)
   | (with_reducible refine LeO.ite ?_ ?_)
   | (with_reducible refine LeO.bind ?_ (fun _ => ?_))
   | exact row_Same.mono _ _ _
   | exact LeO.none _
   | refine LeO.ite ?_ ?_
   | refine LeO.bind ?_ (fun _ => ?_)
set_option maxHeartbeats 8000000 in
set_option maxRecDepth 100000 in
theorem bag_Same_1.calls (k : Nat) (A0_0 : Option Addr) (c0_0 : Nat) (l0_0 : List (S66)) (a0_1 : Int) (A1_0 : Option Addr) (c1_0 : Nat) (l1_0 : List (S66)) (a1_1 : Int) (r : Bool) (w : World) (hr0_0 : Kd.C k66 w A0_0 l0_0.length l0_0) (hc0_0 : l0_0.length ≤ c0_0) (hr1_0 : Kd.C k66 w A1_0 l1_0.length l1_0) (hc1_0 : l1_0.length ≤ c1_0) (h : bag_Same_1.f k l0_0 a0_1 l1_0 a1_1 = some r) :
  Calls Try.prog 73 #[.agg #[.slice A0_0 l0_0.length c0_0,.int .i64 a0_1],.agg #[.slice A1_0 l1_0.length c1_0,.int .i64 a1_1]] w fun e w' => e = .returned (.bool r) ∧ Below w.heap.size w w' := by
 have hu34 := Try.underlying34
 have HR0_0 := Aside0.mk hr0_0
 have HC0_0 := Aside0.mk hc0_0
 clear hr0_0 hc0_0
 have HR1_0 := Aside0.mk hr1_0
 have HC1_0 := Aside0.mk hc1_0
 clear hr1_0 hc1_0
 have HB := Aside0.mk (Below.refl w.heap.size w)
 have H : (if a0_1 = a1_1 then ((row_Same.f k l0_0 l1_0).bind fun t229 => (some t229)) else (some false)) = some r := h
 clear h
 by_cases c3 : a0_1 = a1_1
 ·rw [if_pos c3] at H
  have c3b0 : (a0_1 == a1_1) = true := beq_iff_eq.mpr c3
  have c3b1 : (a0_1 != a1_1) = false := bne_eq_false_iff_eq.mpr c3
  clear c3
  replace H := Option.bind_eq_some_iff.mp H
  obtain ⟨t229,A40,H⟩ := H
  replace H : (some t229) = some r := H
  have A4 := Aside0.mk A40
  clear A40
  obtain rfl := Option.some.inj H
  go_enter Try.func73,Try.ntmps73
  go_wp2_with (first | ((with_reducible refine q0q (N := 2) rfl ?_);refine q0o ?hg (N := 2) ?hd (cs := #[.slice A0_0 l0_0.length c0_0,.int .i64 a0_1]) (t := 34) ?hr ?_;(case hd => rfl);(case hg => rfl);(case hr => first | (go_simp;done) | (go_simp;rfl));intro gb227 hg w5 hbox hb;have n0_ := Aside0.mk (q0l (by repeat (first | (with_reducible first | exact HB.out | apply q0b | apply q0a | apply q0c) | exact HB.out)) hb);have n1_ := Aside0.mk (hbox);have n2_ := Aside0.mk ((by rw [hg];exact (q0j (by repeat (first | (with_reducible first | exact HB.out | apply q0b | apply q0a | apply q0c) | exact HB.out))) : w.heap.size ≤ gb227));have n3_ := Aside0.mk ((by rw [hg];exact (q0j (by repeat (first | (with_reducible first | exact HB.out | apply q0b | apply q0a | apply q0c) | exact HB.out))) : w.heap.size ≤ gb227));clear HB;have HB := n0_;have BK227 := n1_;have GW227 := n2_;have GE227 := n3_;clear n0_ n1_ n2_ n3_;clear hb hbox hg) | ((with_reducible refine q0q (N := 3) rfl ?_);refine q0o ?hg (N := 3) ?hd (cs := #[.slice A1_0 l1_0.length c1_0,.int .i64 a1_1]) (t := 34) ?hr ?_;(case hd => rfl);(case hg => rfl);(case hr => first | (go_simp;done) | (go_simp;rfl));intro gb228 hg w6 hbox hb;have n0_ := Aside0.mk (q0p (g := gb227) (o := .cells #[.slice A0_0 l0_0.length c0_0,.int .i64 a0_1] 34 (0,0)) (by (with_reducible repeat (first | refine q0g ?_ _ | refine q0h ?_ | refine q0f ?_ _));exact BK227.out) hb);have n1_ := Aside0.mk (q0l (by repeat (first | (with_reducible first | exact HB.out | apply q0b | apply q0a | apply q0c | refine q0i ?_ GE227.out) | exact HB.out)) hb);have n2_ := Aside0.mk (hbox);have n3_ := Aside0.mk ((by rw [hg];exact (q0j (by repeat (first | (with_reducible first | exact HB.out | apply q0b | apply q0a | apply q0c | refine q0i ?_ GE227.out) | exact HB.out))) : w.heap.size ≤ gb228));have n4_ := Aside0.mk ((by rw [hg];exact (q0j (by repeat (first | (with_reducible first | exact HB.out | apply q0b | apply q0a | apply q0c | refine q0i ?_ GE227.out) | exact HB.out))) : w.heap.size ≤ gb228));have n5_ := Aside0.mk ((by rw [hg];exact Nat.ne_of_lt (q0t (g := gb227) (o := .cells #[.slice A0_0 l0_0.length c0_0,.int .i64 a0_1] 34 (0,0)) (by (with_reducible repeat (first | refine q0g ?_ _ | refine q0h ?_ | refine q0f ?_ _));exact BK227.out)) : gb227 ≠ gb228));have n6_ := Aside0.mk ((by rw [hg];exact Nat.ne_of_gt (q0t (g := gb227) (o := .cells #[.slice A0_0 l0_0.length c0_0,.int .i64 a0_1] 34 (0,0)) (by (with_reducible repeat (first | refine q0g ?_ _ | refine q0h ?_ | refine q0f ?_ _));exact BK227.out)) : gb228 ≠ gb227));clear BK227;clear HB;have BK227 := n0_;have HB := n1_;have BK228 := n2_;have GW228 := n3_;have GE228 := n4_;have NB227_228 := n5_;have NB228_227 := n6_;clear n0_ n1_ n2_ n3_ n4_ n5_ n6_;clear hb hbox hg;have hnb7 := NB227_228.out;have hnc7 := NB228_227.out;have hcz8_0 : w6.cell? ⟨gb227,0,none⟩ = some (.slice A0_0 l0_0.length c0_0) := (q0e BK227.out 0).trans rfl;have hcz8_1 : w6.cell? ⟨gb227,1,none⟩ = some (.int .i64 a0_1) := (q0e BK227.out 1).trans rfl;have hfz8_0 := q0d BK227.out 0;have hfz8_1 := q0d BK227.out 1;have hcz9_0 : w6.cell? ⟨gb228,0,none⟩ = some (.slice A1_0 l1_0.length c1_0) := (q0e BK228.out 0).trans rfl;have hcz9_1 : w6.cell? ⟨gb228,1,none⟩ = some (.int .i64 a1_1) := (q0e BK228.out 1).trans rfl;have hfz9_0 := q0d BK228.out 0;have hfz9_1 := q0d BK228.out 1) | (go_at_call 74;(with_reducible refine (row_Same.calls k _ _ l0_0 _ _ l1_0 t229 _ ?side1 ?side2 ?side3 ?side4 A4.out).mono ?_);(case side1 => repeat (first | exact (Kd.C_below HR0_0.out HB.out) | (with_reducible refine Kd.C_alloc ?_ _) | (with_reducible refine Kd.C_drewN ?_ _) | (with_reducible refine Kd.C_drew ?_)));(case side2 => exact HC0_0.out);(case side3 => repeat (first | exact (Kd.C_below HR1_0.out HB.out) | (with_reducible refine Kd.C_alloc ?_ _) | (with_reducible refine Kd.C_drewN ?_ _) | (with_reducible refine Kd.C_drew ?_)));(case side4 => exact HC1_0.out);rintro e w10 ⟨rfl,hb⟩;have n0_ := Aside0.mk (q0p (g := gb227) (o := .cells #[.slice A0_0 l0_0.length c0_0,.int .i64 a0_1] 34 (0,0)) (by (with_reducible repeat (first | refine q0g ?_ _ | refine q0h ?_ | refine q0f ?_ _));exact BK227.out) hb);have n1_ := Aside0.mk (q0p (g := gb228) (o := .cells #[.slice A1_0 l1_0.length c1_0,.int .i64 a1_1] 34 (0,0)) (by (with_reducible repeat (first | refine q0g ?_ _ | refine q0h ?_ | refine q0f ?_ _));exact BK228.out) hb);have n2_ := Aside0.mk (q0l (by repeat (first | (with_reducible first | exact HB.out | apply q0b | apply q0a | apply q0c | refine q0i ?_ GE227.out | refine q0i ?_ GE228.out) | exact HB.out)) hb);clear BK227;clear BK228;clear HB;have BK227 := n0_;have BK228 := n1_;have HB := n2_;clear n0_ n1_ n2_;(try clear hb);(try clear hb2);(try clear hk);(try clear hi)))
  go_ret
  exact ⟨by first | rfl | (simp [q0m,q0n] <;> rfl) | (simp [*,q0m,q0n] <;> rfl),by repeat (first | (with_reducible first | exact HB.out | apply q0b | apply q0a | apply q0c | refine q0i ?_ GE227.out | refine q0i ?_ GE228.out) | exact HB.out)⟩
 ·rw [if_neg c3] at H
  have c3b0 : (a0_1 == a1_1) = false := beq_eq_false_iff_ne.mpr c3
  have c3b1 : (a0_1 != a1_1) = true := bne_iff_ne.mpr c3
  obtain rfl := Option.some.inj H
  go_enter Try.func73,Try.ntmps73
  go_wp2_with (first | ((with_reducible refine q0q (N := 2) rfl ?_);refine q0o ?hg (N := 2) ?hd (cs := #[.slice A0_0 l0_0.length c0_0,.int .i64 a0_1]) (t := 34) ?hr ?_;(case hd => rfl);(case hg => rfl);(case hr => first | (go_simp;done) | (go_simp;rfl));intro gb227 hg w11 hbox hb;have n0_ := Aside0.mk (q0l (by repeat (first | (with_reducible first | exact HB.out | apply q0b | apply q0a | apply q0c) | exact HB.out)) hb);have n1_ := Aside0.mk (hbox);have n2_ := Aside0.mk ((by rw [hg];exact (q0j (by repeat (first | (with_reducible first | exact HB.out | apply q0b | apply q0a | apply q0c) | exact HB.out))) : w.heap.size ≤ gb227));have n3_ := Aside0.mk ((by rw [hg];exact (q0j (by repeat (first | (with_reducible first | exact HB.out | apply q0b | apply q0a | apply q0c) | exact HB.out))) : w.heap.size ≤ gb227));clear HB;have HB := n0_;have BK227 := n1_;have GW227 := n2_;have GE227 := n3_;clear n0_ n1_ n2_ n3_;clear hb hbox hg) | ((with_reducible refine q0q (N := 3) rfl ?_);refine q0o ?hg (N := 3) ?hd (cs := #[.slice A1_0 l1_0.length c1_0,.int .i64 a1_1]) (t := 34) ?hr ?_;(case hd => rfl);(case hg => rfl);(case hr => first | (go_simp;done) | (go_simp;rfl));intro gb228 hg w12 hbox hb;have n0_ := Aside0.mk (q0p (g := gb227) (o := .cells #[.slice A0_0 l0_0.length c0_0,.int .i64 a0_1] 34 (0,0)) (by (with_reducible repeat (first | refine q0g ?_ _ | refine q0h ?_ | refine q0f ?_ _));exact BK227.out) hb);have n1_ := Aside0.mk (q0l (by repeat (first | (with_reducible first | exact HB.out | apply q0b | apply q0a | apply q0c | refine q0i ?_ GE227.out) | exact HB.out)) hb);have n2_ := Aside0.mk (hbox);have n3_ := Aside0.mk ((by rw [hg];exact (q0j (by repeat (first | (with_reducible first | exact HB.out | apply q0b | apply q0a | apply q0c | refine q0i ?_ GE227.out) | exact HB.out))) : w.heap.size ≤ gb228));have n4_ := Aside0.mk ((by rw [hg];exact (q0j (by repeat (first | (with_reducible first | exact HB.out | apply q0b | apply q0a | apply q0c | refine q0i ?_ GE227.out) | exact HB.out))) : w.heap.size ≤ gb228));have n5_ := Aside0.mk ((by rw [hg];exact Nat.ne_of_lt (q0t (g := gb227) (o := .cells #[.slice A0_0 l0_0.length c0_0,.int .i64 a0_1] 34 (0,0)) (by (with_reducible repeat (first | refine q0g ?_ _ | refine q0h ?_ | refine q0f ?_ _));exact BK227.out)) : gb227 ≠ gb228));have n6_ := Aside0.mk ((by rw [hg];exact Nat.ne_of_gt (q0t (g := gb227) (o := .cells #[.slice A0_0 l0_0.length c0_0,.int .i64 a0_1] 34 (0,0)) (by (with_reducible repeat (first | refine q0g ?_ _ | refine q0h ?_ | refine q0f ?_ _));exact BK227.out)) : gb228 ≠ gb227));clear BK227;clear HB;have BK227 := n0_;have HB := n1_;have BK228 := n2_;have GW228 := n3_;have GE228 := n4_;have NB227_228 := n5_;have NB228_227 := n6_;clear n0_ n1_ n2_ n3_ n4_ n5_ n6_;clear hb hbox hg;have hnb13 := NB227_228.out;have hnc13 := NB228_227.out;have hcz14_0 : w12.cell? ⟨gb227,0,none⟩ = some (.slice A0_0 l0_0.length c0_0) := (q0e BK227.out 0).trans rfl;have hcz14_1 : w12.cell? ⟨gb227,1,none⟩ = some (.int .i64 a0_1) := (q0e BK227.out 1).trans rfl;have hfz14_0 := q0d BK227.out 0;have hfz14_1 := q0d BK227.out 1;have hcz15_0 : w12.cell? ⟨gb228,0,none⟩ = some (.slice A1_0 l1_0.length c1_0) := (q0e BK228.out 0).trans rfl;have hcz15_1 : w12.cell? ⟨gb228,1,none⟩ = some (.int .i64 a1_1) := (q0e BK228.out 1).trans rfl;have hfz15_0 := q0d BK228.out 0;have hfz15_1 := q0d BK228.out 1))
  go_ret
  exact ⟨by first | rfl | (simp [q0m,q0n] <;> rfl) | (simp [*,q0m,q0n] <;> rfl),by repeat (first | (with_reducible first | exact HB.out | apply q0b | apply q0a | apply q0c | refine q0i ?_ GE227.out | refine q0i ?_ GE228.out) | exact HB.out)⟩
end Go.Proofs.Ythmbfcfomcaaaaa.Z
end
section
namespace Go.Proofs.Ythmbfcfomcaaaaa.Z
open Go.RowKit Go.Proofs.YthmbfcfomcaaaaaW.PrintWords Go.Proofs.YthmbfcfomcaaaaaW.PrintLast Go.Proofs.YthmbfcfomcaaaaaW.PrintMore
attribute [local go_sem] max2_int min2_int max_two min_two max_three min_three max_four min_four
set_option linter.unusedVariables false
set_option linter.unusedSimpArgs false
def slices_EqualFunc.l0 : Nat → List (S34) → List (S34) → Int → Int → Option (Bool)
 | 0,_,_,_,_ => none
 | k + 1,x1,x15,x16,x17 => if x17 < x16 then (if 0 ≤ x17 then (if x17 < (x15.length : Int) then (if x17 < (x1.length : Int) then ((bag_Same_1.f k ((q0s x15 x17).f0) ((q0s x15 x17).f1) ((q0s x1 x17).f0) ((q0s x1 x17).f1)).bind fun t234 => (if t234 = true then (slices_EqualFunc.l0 k x1 x15 x16 (wrap64 (x17 + 1))) else (some false))) else (none)) else (none)) else (none)) else (some true)
def slices_EqualFunc.f (k : Nat) (l0 : List (S34)) (l1 : List (S34)) (a2 : Int) : Option (Bool) := if (l0.length : Int) = (l1.length : Int) then (slices_EqualFunc.l0 k l1 l0 (l0.length : Int) 0) else (some false)
theorem slices_EqualFunc.mono_l : ∀ k,(∀ y0 y1 y2 y3,LeO (slices_EqualFunc.l0 k y0 y1 y2 y3) (slices_EqualFunc.l0 (k + 1) y0 y1 y2 y3))
 | 0 => fun _ _ _ _ r h => by simp [slices_EqualFunc.l0] at h
 | k + 1 => by
  have ih0 := slices_EqualFunc.mono_l k
  ·intro y0 y1 y2 y3
   unfold slices_EqualFunc.l0
   repeat' first
   | (with_reducible exact ih0 _ _ _ _)
   | (with_reducible exact bag_Same_1.mono _ _ _ _ _)
   | (with_reducible exact LeO.refl _)
   | (with_reducible exact LeO.none _)
   | (with_reducible refine LeO.ite ?_ ?_)
   | (with_reducible refine LeO.bind ?_ (fun _ => ?_))
   | exact ih0 _ _ _ _
   | exact bag_Same_1.mono _ _ _ _ _
   | exact LeO.none _
   | refine LeO.ite ?_ ?_
   | refine LeO.bind ?_ (fun _ => ?_)
theorem slices_EqualFunc.mono : ∀ a0 a1 a2 k,LeO (slices_EqualFunc.f k a0 a1 a2) (slices_EqualFunc.f (k + 1) a0 a1 a2) := by
 intro a0 a1 a2 k
 have ih0 := slices_EqualFunc.mono_l k
 unfold slices_EqualFunc.f
 repeat' first
   | (with_reducible exact ih0 _ _ _ _)
   | (with_reducible exact bag_Same_1.mono _ _ _ _ _)
   | (with_reducible exact LeO.refl _)
   | (with_reducible exact LeO.none _)
   | (with_reducible refine LeO.ite ?_ ?_)
   | (with_reducible refine LeO.bind ?_ (fun _ => ?_))
   | exact ih0 _ _ _ _
   | exact bag_Same_1.mono _ _ _ _ _
   | exact LeO.none _
   | refine LeO.ite ?_ ?_
   | refine LeO.bind ?_ (fun _ => ?_)
set_option maxHeartbeats 8000000 in
set_option maxRecDepth 100000 in
theorem slices_EqualFunc.calls (k : Nat) (A0 : Option Addr) (c0 : Nat) (l0 : List (S34)) (A1 : Option Addr) (c1 : Nat) (l1 : List (S34)) (a2 : Int) (r : Bool) (w : World) (hr0 : Kd.C k34 w A0 l0.length l0) (hc0 : l0.length ≤ c0) (hr1 : Kd.C k34 w A1 l1.length l1) (hc1 : l1.length ≤ c1) (h : slices_EqualFunc.f k l0 l1 a2 = some r) :
  Calls Try.prog 72 #[.slice A0 l0.length c0,.slice A1 l1.length c1,.func (.func 73) #[] #[]] w fun e w' => e = .returned (.bool r) ∧ Below w.heap.size w w' := by
 have hu34 := Try.underlying34
 have HR0 := Aside0.mk hr0
 have HC0 := Aside0.mk hc0
 clear hr0 hc0
 have HR1 := Aside0.mk hr1
 have HC1 := Aside0.mk hc1
 clear hr1 hc1
 have HB := Aside0.mk (Below.refl w.heap.size w)
 have H : (if (l0.length : Int) = (l1.length : Int) then (slices_EqualFunc.l0 k l1 l0 (l0.length : Int) 0) else (some false)) = some r := h
 clear h
 by_cases c4 : (l0.length : Int) = (l1.length : Int)
 ·rw [if_pos c4] at H
  have c4b0 : ((l0.length : Int) == (l1.length : Int)) = true := beq_iff_eq.mpr c4
  have c4b1 : ((l0.length : Int) != (l1.length : Int)) = false := bne_eq_false_iff_eq.mpr c4
  have c4b2 : (l0.length == l1.length) = true := by first | simpa using c4 | (simp at c4 ⊢;omega)
  clear c4
  have H' := Aside0.mk H
  clear H
  go_enter Try.func72,Try.ntmps72
  go_wp2
  go_loopg [17] k (fun kq v17 w' => ∃ (x17_1 : Int),v17 = .int .i64 x17_1 ∧ Aside0 (slices_EqualFunc.l0 kq l1 l0 (l0.length : Int) x17_1 = some r) ∧ Aside0 (kq ≤ k) ∧ Aside0 (Below w.heap.size w w'))
  case atStart => exact ⟨(0),(by first | rfl | (simp;done) | (simp [*];done)),H',⟨Nat.le_refl _⟩,⟨by repeat (first | (with_reducible first | exact HB.out | apply q0b | apply q0a | apply q0c) | exact HB.out)⟩⟩
  case round =>
   clear H'
   try clear c1
   try clear p2
   try clear c4
   try clear c4b0
   try clear c4b1
   try clear c4b2
   obtain ⟨x17_1,rfl,HA,HK1,HB⟩ := hrel
   cases gk with
   | zero => exact absurd HA.out (by simp [slices_EqualFunc.l0])
   | succ k1 =>
    have H := HA.out
    clear HA
    simp only [slices_EqualFunc.l0] at H
    by_cases c5 : x17_1 < (l0.length : Int)
    ·rw [if_pos c5] at H
     have c5b0 : decide (x17_1 < (l0.length : Int)) = true := decide_eq_true c5
     clear c5
     by_cases c6 : 0 ≤ x17_1
     ·rw [if_pos c6] at H
      have c6b0 : decide (0 ≤ x17_1) = true := decide_eq_true c6
      clear c6
      by_cases c7 : x17_1 < (l0.length : Int)
      ·rw [if_pos c7] at H
       have c7b0 : decide (x17_1 < (l0.length : Int)) = true := decide_eq_true c7
       clear c7
       by_cases c8 : x17_1 < (l1.length : Int)
       ·rw [if_pos c8] at H
        have c8b0 : decide (x17_1 < (l1.length : Int)) = true := decide_eq_true c8
        clear c8
        replace H := Option.bind_eq_some_iff.mp H
        obtain ⟨t234,A90,H⟩ := H
        replace H : (if t234 = true then (slices_EqualFunc.l0 k1 l1 l0 (l0.length : Int) (wrap64 (x17_1 + 1))) else (some false)) = some r := H
        have A9 := Aside0.mk A90
        clear A90
        by_cases c10 : t234 = true
        ·subst c10
         have H1 : (slices_EqualFunc.l0 k1 l1 l0 (l0.length : Int) (wrap64 (x17_1 + 1))) = some r := by rw [if_pos rfl] at H;exact H
         clear H
         have H := H1
         clear H1
         have H' := Aside0.mk H
         clear H
         have p230 : 0 ≤ (x17_1 : Int) := of_decide_eq_true (by first | (with_reducible assumption) | assumption)
         have q230 : x17_1 < (l0.length : Int) := of_decide_eq_true (by first | (with_reducible assumption) | assumption)
         obtain ⟨ad230,A230_0,c230_0,e230,hx230_0,hx230_1,hl230_0,hi230_0⟩ := at_T34 HR0.out x17_1 p230 q230
         cases e230
         replace hx230_0 := (HB.out.cell (World.block_lt_of_cell? w _ hx230_0)).trans hx230_0
         replace hx230_1 := (HB.out.cell (World.block_lt_of_cell? w _ hx230_1)).trans hx230_1
         have HR230_0 := Aside0.mk hi230_0
         have HC230_0 := Aside0.mk hl230_0
         clear hi230_0 hl230_0
         replace p230 := eq_true p230
         replace q230 := eq_true q230
         go_wp2_with (first | ((with_reducible refine q0q (N := 8) rfl ?_);refine q0o ?hg (N := 8) ?hd (cs := #[.slice none 0 0,.int .i64 0]) (t := 34) ?hr ?_;(case hd => rfl);(case hg => rfl);(case hr => first | (go_simp;done) | (go_simp;rfl));intro gb231 hg w11 hbox hb;have n0_ := Aside0.mk (q0l (by repeat (first | (with_reducible first | exact HB.out | apply q0b | apply q0a | apply q0c) | exact HB.out)) hb);have n1_ := Aside0.mk (hbox);have n2_ := Aside0.mk ((by rw [hg];exact (q0j (by repeat (first | (with_reducible first | exact HB.out | apply q0b | apply q0a | apply q0c) | exact HB.out))) : w.heap.size ≤ gb231));have n3_ := Aside0.mk ((by rw [hg];exact (q0j (by repeat (first | (with_reducible first | exact HB.out | apply q0b | apply q0a | apply q0c) | exact HB.out))) : w.heap.size ≤ gb231));clear HB;have HB := n0_;have BK231 := n1_;have GW231 := n2_;have GE231 := n3_;clear n0_ n1_ n2_ n3_;clear hb hbox hg;have hcz12_0 : w11.cell? ⟨gb231,0,none⟩ = some (.slice none 0 0) := (q0e BK231.out 0).trans rfl;have hcz12_1 : w11.cell? ⟨gb231,1,none⟩ = some (.int .i64 0) := (q0e BK231.out 1).trans rfl;have hfz12_0 := q0d BK231.out 0;have hfz12_1 := q0d BK231.out 1;have p232 : 0 ≤ (x17_1 : Int) := of_decide_eq_true (by first | (with_reducible assumption) | assumption);have q232 : x17_1 < (l1.length : Int) := of_decide_eq_true (by first | (with_reducible assumption) | assumption);obtain ⟨ad232,A232_0,c232_0,e232,hx232_0,hx232_1,hl232_0,hi232_0⟩ := at_T34 HR1.out x17_1 p232 q232;cases e232;have hn232_0 : ad232.block ≠ gb231 := Nat.ne_of_lt (Nat.lt_of_lt_of_le (by have := World.block_lt_of_cell? _ _ hx232_0;first | rwa [add_block] at this | exact this) GW231.out);have hn232_1 : ad232.block ≠ gb231 := Nat.ne_of_lt (Nat.lt_of_lt_of_le (by have := World.block_lt_of_cell? _ _ hx232_0;first | rwa [add_block] at this | exact this) GW231.out);replace hx232_0 := (HB.out.cell (World.block_lt_of_cell? w _ hx232_0)).trans hx232_0;replace hx232_1 := (HB.out.cell (World.block_lt_of_cell? w _ hx232_1)).trans hx232_1;have HR232_0 := Aside0.mk hi232_0;have HC232_0 := Aside0.mk hl232_0;clear hi232_0 hl232_0;replace hx232_0 := (cell_far (p := ⟨gb231,0,none⟩) (by first | (rw [add_block];exact hn232_0) | (show (Addr.add _ _).block ≠ _;rw [add_block];exact hn232_0) | exact hn232_0) (.slice A230_0 ((q0s l0 x17_1).f0).length c230_0)).trans hx232_0;replace hx232_1 := (cell_far (p := ⟨gb231,0,none⟩) (by first | (rw [add_block];exact hn232_0) | (show (Addr.add _ _).block ≠ _;rw [add_block];exact hn232_0) | exact hn232_0) (.slice A230_0 ((q0s l0 x17_1).f0).length c230_0)).trans hx232_1;replace hx232_0 := (cell_far (p := ⟨gb231,1,none⟩) (by first | (rw [add_block];exact hn232_1) | (show (Addr.add _ _).block ≠ _;rw [add_block];exact hn232_1) | exact hn232_1) (.int .i64 ((q0s l0 x17_1).f1))).trans hx232_0;replace hx232_1 := (cell_far (p := ⟨gb231,1,none⟩) (by first | (rw [add_block];exact hn232_1) | (show (Addr.add _ _).block ≠ _;rw [add_block];exact hn232_1) | exact hn232_1) (.int .i64 ((q0s l0 x17_1).f1))).trans hx232_1;clear hn232_0;clear hn232_1;replace p232 := eq_true p232;replace q232 := eq_true q232) | ((with_reducible refine q0q (N := 9) rfl ?_);refine q0o ?hg (N := 9) ?hd (cs := #[.slice none 0 0,.int .i64 0]) (t := 34) ?hr ?_;(case hd => rfl);(case hg => rfl);(case hr => first | (go_simp;done) | (go_simp;rfl));intro gb233 hg w13 hbox hb;have n0_ := Aside0.mk (q0p (g := gb231) (o := .cells #[.slice A230_0 ((q0s l0 x17_1).f0).length c230_0,.int .i64 ((q0s l0 x17_1).f1)] 34 (0,0)) (by (with_reducible repeat (first | refine q0g ?_ _ | refine q0h ?_ | refine q0f ?_ _));refine q0r (cs := #[.slice A230_0 ((q0s l0 x17_1).f0).length c230_0,.int .i64 0]) ?_ 1 _ rfl;(with_reducible repeat (first | refine q0g ?_ _ | refine q0h ?_ | refine q0f ?_ _));refine q0r (cs := #[.slice none 0 0,.int .i64 0]) ?_ 0 _ rfl;(with_reducible repeat (first | refine q0g ?_ _ | refine q0h ?_ | refine q0f ?_ _));exact BK231.out) hb);have n1_ := Aside0.mk (q0l (by repeat (first | (with_reducible first | exact HB.out | apply q0b | apply q0a | apply q0c | refine q0i ?_ GE231.out) | exact HB.out)) hb);have n2_ := Aside0.mk (hbox);have n3_ := Aside0.mk ((by rw [hg];exact (q0j (by repeat (first | (with_reducible first | exact HB.out | apply q0b | apply q0a | apply q0c | refine q0i ?_ GE231.out) | exact HB.out))) : w.heap.size ≤ gb233));have n4_ := Aside0.mk ((by rw [hg];exact (q0j (by repeat (first | (with_reducible first | exact HB.out | apply q0b | apply q0a | apply q0c | refine q0i ?_ GE231.out) | exact HB.out))) : w.heap.size ≤ gb233));have n5_ := Aside0.mk ((by rw [hg];exact Nat.ne_of_lt (q0t (g := gb231) (o := .cells #[.slice A230_0 ((q0s l0 x17_1).f0).length c230_0,.int .i64 ((q0s l0 x17_1).f1)] 34 (0,0)) (by (with_reducible repeat (first | refine q0g ?_ _ | refine q0h ?_ | refine q0f ?_ _));refine q0r (cs := #[.slice A230_0 ((q0s l0 x17_1).f0).length c230_0,.int .i64 0]) ?_ 1 _ rfl;(with_reducible repeat (first | refine q0g ?_ _ | refine q0h ?_ | refine q0f ?_ _));refine q0r (cs := #[.slice none 0 0,.int .i64 0]) ?_ 0 _ rfl;(with_reducible repeat (first | refine q0g ?_ _ | refine q0h ?_ | refine q0f ?_ _));exact BK231.out)) : gb231 ≠ gb233));have n6_ := Aside0.mk ((by rw [hg];exact Nat.ne_of_gt (q0t (g := gb231) (o := .cells #[.slice A230_0 ((q0s l0 x17_1).f0).length c230_0,.int .i64 ((q0s l0 x17_1).f1)] 34 (0,0)) (by (with_reducible repeat (first | refine q0g ?_ _ | refine q0h ?_ | refine q0f ?_ _));refine q0r (cs := #[.slice A230_0 ((q0s l0 x17_1).f0).length c230_0,.int .i64 0]) ?_ 1 _ rfl;(with_reducible repeat (first | refine q0g ?_ _ | refine q0h ?_ | refine q0f ?_ _));refine q0r (cs := #[.slice none 0 0,.int .i64 0]) ?_ 0 _ rfl;(with_reducible repeat (first | refine q0g ?_ _ | refine q0h ?_ | refine q0f ?_ _));exact BK231.out)) : gb233 ≠ gb231));clear BK231;clear HB;have BK231 := n0_;have HB := n1_;have BK233 := n2_;have GW233 := n3_;have GE233 := n4_;have NB231_233 := n5_;have NB233_231 := n6_;clear n0_ n1_ n2_ n3_ n4_ n5_ n6_;clear hb hbox hg;have hnb14 := NB233_231.out;have hnc14 := NB231_233.out;have hcz15_0 : w13.cell? ⟨gb233,0,none⟩ = some (.slice none 0 0) := (q0e BK233.out 0).trans rfl;have hcz15_1 : w13.cell? ⟨gb233,1,none⟩ = some (.int .i64 0) := (q0e BK233.out 1).trans rfl;have hfz15_0 := q0d BK233.out 0;have hfz15_1 := q0d BK233.out 1;have hcz16_0 : w13.cell? ⟨gb231,0,none⟩ = some (.slice A230_0 ((q0s l0 x17_1).f0).length c230_0) := (q0e BK231.out 0).trans rfl;have hcz16_1 : w13.cell? ⟨gb231,1,none⟩ = some (.int .i64 ((q0s l0 x17_1).f1)) := (q0e BK231.out 1).trans rfl;have hfz16_0 := q0d BK231.out 0;have hfz16_1 := q0d BK231.out 1) | ((with_reducible refine gate_tmp (n := 26) rfl ?_);refine goesT_ (some 29) rfl rfl Try.func73 (by kernel_rfl) rfl #[.agg #[.slice A230_0 ((q0s l0 x17_1).f0).length c230_0,.int .i64 ((q0s l0 x17_1).f1)],.agg #[.slice A232_0 ((q0s l1 x17_1).f0).length c232_0,.int .i64 ((q0s l1 x17_1).f1)]] rfl rfl (by (try simp only [List.map_toArray,List.map_cons,List.map_nil]);first | done | rfl | (simp only [List.length_drop,List.length_take];rfl)) ?_;(with_reducible refine (bag_Same_1.calls k1 _ _ ((q0s l0 x17_1).f0) ((q0s l0 x17_1).f1) _ _ ((q0s l1 x17_1).f0) ((q0s l1 x17_1).f1) true _ ?side1 ?side2 ?side3 ?side4 A9.out).mono ?_);(case side1 => exact Kd.C_below HR230_0.out (by repeat (first | (with_reducible first | exact HB.out | apply q0b | apply q0a | apply q0c | refine q0i ?_ GE231.out | refine q0i ?_ GE233.out) | exact HB.out)));(case side2 => exact HC230_0.out);(case side3 => exact Kd.C_below HR232_0.out (by repeat (first | (with_reducible first | exact HB.out | apply q0b | apply q0a | apply q0c | refine q0i ?_ GE231.out | refine q0i ?_ GE233.out) | exact HB.out)));(case side4 => exact HC232_0.out);rintro e w17 ⟨rfl,hb⟩;refine ⟨_,rfl,?_⟩;have n0_ := Aside0.mk (q0p (g := gb231) (o := .cells #[.slice A230_0 ((q0s l0 x17_1).f0).length c230_0,.int .i64 ((q0s l0 x17_1).f1)] 34 (0,0)) (by (with_reducible repeat (first | refine q0g ?_ _ | refine q0h ?_ | refine q0f ?_ _));refine blk_far ?_ NB231_233.out _;(with_reducible repeat (first | refine q0g ?_ _ | refine q0h ?_ | refine q0f ?_ _));refine blk_far ?_ NB231_233.out _;(with_reducible repeat (first | refine q0g ?_ _ | refine q0h ?_ | refine q0f ?_ _));exact BK231.out) hb);have n1_ := Aside0.mk (q0p (g := gb233) (o := .cells #[.slice A232_0 ((q0s l1 x17_1).f0).length c232_0,.int .i64 ((q0s l1 x17_1).f1)] 34 (0,0)) (by (with_reducible repeat (first | refine q0g ?_ _ | refine q0h ?_ | refine q0f ?_ _));refine q0r (cs := #[.slice A232_0 ((q0s l1 x17_1).f0).length c232_0,.int .i64 0]) ?_ 1 _ rfl;(with_reducible repeat (first | refine q0g ?_ _ | refine q0h ?_ | refine q0f ?_ _));refine q0r (cs := #[.slice none 0 0,.int .i64 0]) ?_ 0 _ rfl;(with_reducible repeat (first | refine q0g ?_ _ | refine q0h ?_ | refine q0f ?_ _));exact BK233.out) hb);have n2_ := Aside0.mk (q0l (by repeat (first | (with_reducible first | exact HB.out | apply q0b | apply q0a | apply q0c | refine q0i ?_ GE231.out | refine q0i ?_ GE233.out) | exact HB.out)) hb);clear BK231;clear BK233;clear HB;have BK231 := n0_;have BK233 := n1_;have HB := n2_;clear n0_ n1_ n2_;(try clear hb);(try clear hb2);(try clear hk);(try clear hi)))
         go_roundg k1
         case measure => have := HK1.out;omega
         case rel => exact ⟨(wrap64 (x17_1 + 1)),(by first | rfl | (simp;done) | (simp [*];done)),H',⟨by have := HK1.out;omega⟩,⟨by repeat (first | (with_reducible first | exact HB.out | apply q0b | apply q0a | apply q0c | refine q0i ?_ GE231.out | refine q0i ?_ GE233.out) | exact HB.out)⟩⟩
        ·replace c10 := Bool.eq_false_iff.mpr c10
         subst c10
         have H1 : (some false) = some r := by rw [if_neg (show ¬ (false = true) by decide)] at H;exact H
         clear H
         have H := H1
         clear H1
         obtain rfl := Option.some.inj H
         have p230 : 0 ≤ (x17_1 : Int) := of_decide_eq_true (by first | (with_reducible assumption) | assumption)
         have q230 : x17_1 < (l0.length : Int) := of_decide_eq_true (by first | (with_reducible assumption) | assumption)
         obtain ⟨ad230,A230_0,c230_0,e230,hx230_0,hx230_1,hl230_0,hi230_0⟩ := at_T34 HR0.out x17_1 p230 q230
         cases e230
         replace hx230_0 := (HB.out.cell (World.block_lt_of_cell? w _ hx230_0)).trans hx230_0
         replace hx230_1 := (HB.out.cell (World.block_lt_of_cell? w _ hx230_1)).trans hx230_1
         have HR230_0 := Aside0.mk hi230_0
         have HC230_0 := Aside0.mk hl230_0
         clear hi230_0 hl230_0
         replace p230 := eq_true p230
         replace q230 := eq_true q230
         go_wp2_with (first | ((with_reducible refine q0q (N := 8) rfl ?_);refine q0o ?hg (N := 8) ?hd (cs := #[.slice none 0 0,.int .i64 0]) (t := 34) ?hr ?_;(case hd => rfl);(case hg => rfl);(case hr => first | (go_simp;done) | (go_simp;rfl));intro gb231 hg w18 hbox hb;have n0_ := Aside0.mk (q0l (by repeat (first | (with_reducible first | exact HB.out | apply q0b | apply q0a | apply q0c) | exact HB.out)) hb);have n1_ := Aside0.mk (hbox);have n2_ := Aside0.mk ((by rw [hg];exact (q0j (by repeat (first | (with_reducible first | exact HB.out | apply q0b | apply q0a | apply q0c) | exact HB.out))) : w.heap.size ≤ gb231));have n3_ := Aside0.mk ((by rw [hg];exact (q0j (by repeat (first | (with_reducible first | exact HB.out | apply q0b | apply q0a | apply q0c) | exact HB.out))) : w.heap.size ≤ gb231));clear HB;have HB := n0_;have BK231 := n1_;have GW231 := n2_;have GE231 := n3_;clear n0_ n1_ n2_ n3_;clear hb hbox hg;have hcz19_0 : w18.cell? ⟨gb231,0,none⟩ = some (.slice none 0 0) := (q0e BK231.out 0).trans rfl;have hcz19_1 : w18.cell? ⟨gb231,1,none⟩ = some (.int .i64 0) := (q0e BK231.out 1).trans rfl;have hfz19_0 := q0d BK231.out 0;have hfz19_1 := q0d BK231.out 1;have p232 : 0 ≤ (x17_1 : Int) := of_decide_eq_true (by first | (with_reducible assumption) | assumption);have q232 : x17_1 < (l1.length : Int) := of_decide_eq_true (by first | (with_reducible assumption) | assumption);obtain ⟨ad232,A232_0,c232_0,e232,hx232_0,hx232_1,hl232_0,hi232_0⟩ := at_T34 HR1.out x17_1 p232 q232;cases e232;have hn232_0 : ad232.block ≠ gb231 := Nat.ne_of_lt (Nat.lt_of_lt_of_le (by have := World.block_lt_of_cell? _ _ hx232_0;first | rwa [add_block] at this | exact this) GW231.out);have hn232_1 : ad232.block ≠ gb231 := Nat.ne_of_lt (Nat.lt_of_lt_of_le (by have := World.block_lt_of_cell? _ _ hx232_0;first | rwa [add_block] at this | exact this) GW231.out);replace hx232_0 := (HB.out.cell (World.block_lt_of_cell? w _ hx232_0)).trans hx232_0;replace hx232_1 := (HB.out.cell (World.block_lt_of_cell? w _ hx232_1)).trans hx232_1;have HR232_0 := Aside0.mk hi232_0;have HC232_0 := Aside0.mk hl232_0;clear hi232_0 hl232_0;replace hx232_0 := (cell_far (p := ⟨gb231,0,none⟩) (by first | (rw [add_block];exact hn232_0) | (show (Addr.add _ _).block ≠ _;rw [add_block];exact hn232_0) | exact hn232_0) (.slice A230_0 ((q0s l0 x17_1).f0).length c230_0)).trans hx232_0;replace hx232_1 := (cell_far (p := ⟨gb231,0,none⟩) (by first | (rw [add_block];exact hn232_0) | (show (Addr.add _ _).block ≠ _;rw [add_block];exact hn232_0) | exact hn232_0) (.slice A230_0 ((q0s l0 x17_1).f0).length c230_0)).trans hx232_1;replace hx232_0 := (cell_far (p := ⟨gb231,1,none⟩) (by first | (rw [add_block];exact hn232_1) | (show (Addr.add _ _).block ≠ _;rw [add_block];exact hn232_1) | exact hn232_1) (.int .i64 ((q0s l0 x17_1).f1))).trans hx232_0;replace hx232_1 := (cell_far (p := ⟨gb231,1,none⟩) (by first | (rw [add_block];exact hn232_1) | (show (Addr.add _ _).block ≠ _;rw [add_block];exact hn232_1) | exact hn232_1) (.int .i64 ((q0s l0 x17_1).f1))).trans hx232_1;clear hn232_0;clear hn232_1;replace p232 := eq_true p232;replace q232 := eq_true q232) | ((with_reducible refine q0q (N := 9) rfl ?_);refine q0o ?hg (N := 9) ?hd (cs := #[.slice none 0 0,.int .i64 0]) (t := 34) ?hr ?_;(case hd => rfl);(case hg => rfl);(case hr => first | (go_simp;done) | (go_simp;rfl));intro gb233 hg w20 hbox hb;have n0_ := Aside0.mk (q0p (g := gb231) (o := .cells #[.slice A230_0 ((q0s l0 x17_1).f0).length c230_0,.int .i64 ((q0s l0 x17_1).f1)] 34 (0,0)) (by (with_reducible repeat (first | refine q0g ?_ _ | refine q0h ?_ | refine q0f ?_ _));refine q0r (cs := #[.slice A230_0 ((q0s l0 x17_1).f0).length c230_0,.int .i64 0]) ?_ 1 _ rfl;(with_reducible repeat (first | refine q0g ?_ _ | refine q0h ?_ | refine q0f ?_ _));refine q0r (cs := #[.slice none 0 0,.int .i64 0]) ?_ 0 _ rfl;(with_reducible repeat (first | refine q0g ?_ _ | refine q0h ?_ | refine q0f ?_ _));exact BK231.out) hb);have n1_ := Aside0.mk (q0l (by repeat (first | (with_reducible first | exact HB.out | apply q0b | apply q0a | apply q0c | refine q0i ?_ GE231.out) | exact HB.out)) hb);have n2_ := Aside0.mk (hbox);have n3_ := Aside0.mk ((by rw [hg];exact (q0j (by repeat (first | (with_reducible first | exact HB.out | apply q0b | apply q0a | apply q0c | refine q0i ?_ GE231.out) | exact HB.out))) : w.heap.size ≤ gb233));have n4_ := Aside0.mk ((by rw [hg];exact (q0j (by repeat (first | (with_reducible first | exact HB.out | apply q0b | apply q0a | apply q0c | refine q0i ?_ GE231.out) | exact HB.out))) : w.heap.size ≤ gb233));have n5_ := Aside0.mk ((by rw [hg];exact Nat.ne_of_lt (q0t (g := gb231) (o := .cells #[.slice A230_0 ((q0s l0 x17_1).f0).length c230_0,.int .i64 ((q0s l0 x17_1).f1)] 34 (0,0)) (by (with_reducible repeat (first | refine q0g ?_ _ | refine q0h ?_ | refine q0f ?_ _));refine q0r (cs := #[.slice A230_0 ((q0s l0 x17_1).f0).length c230_0,.int .i64 0]) ?_ 1 _ rfl;(with_reducible repeat (first | refine q0g ?_ _ | refine q0h ?_ | refine q0f ?_ _));refine q0r (cs := #[.slice none 0 0,.int .i64 0]) ?_ 0 _ rfl;(with_reducible repeat (first | refine q0g ?_ _ | refine q0h ?_ | refine q0f ?_ _));exact BK231.out)) : gb231 ≠ gb233));have n6_ := Aside0.mk ((by rw [hg];exact Nat.ne_of_gt (q0t (g := gb231) (o := .cells #[.slice A230_0 ((q0s l0 x17_1).f0).length c230_0,.int .i64 ((q0s l0 x17_1).f1)] 34 (0,0)) (by (with_reducible repeat (first | refine q0g ?_ _ | refine q0h ?_ | refine q0f ?_ _));refine q0r (cs := #[.slice A230_0 ((q0s l0 x17_1).f0).length c230_0,.int .i64 0]) ?_ 1 _ rfl;(with_reducible repeat (first | refine q0g ?_ _ | refine q0h ?_ | refine q0f ?_ _));refine q0r (cs := #[.slice none 0 0,.int .i64 0]) ?_ 0 _ rfl;(with_reducible repeat (first | refine q0g ?_ _ | refine q0h ?_ | refine q0f ?_ _));exact BK231.out)) : gb233 ≠ gb231));clear BK231;clear HB;have BK231 := n0_;have HB := n1_;have BK233 := n2_;have GW233 := n3_;have GE233 := n4_;have NB231_233 := n5_;have NB233_231 := n6_;clear n0_ n1_ n2_ n3_ n4_ n5_ n6_;clear hb hbox hg;have hnb21 := NB233_231.out;have hnc21 := NB231_233.out;have hcz22_0 : w20.cell? ⟨gb233,0,none⟩ = some (.slice none 0 0) := (q0e BK233.out 0).trans rfl;have hcz22_1 : w20.cell? ⟨gb233,1,none⟩ = some (.int .i64 0) := (q0e BK233.out 1).trans rfl;have hfz22_0 := q0d BK233.out 0;have hfz22_1 := q0d BK233.out 1;have hcz23_0 : w20.cell? ⟨gb231,0,none⟩ = some (.slice A230_0 ((q0s l0 x17_1).f0).length c230_0) := (q0e BK231.out 0).trans rfl;have hcz23_1 : w20.cell? ⟨gb231,1,none⟩ = some (.int .i64 ((q0s l0 x17_1).f1)) := (q0e BK231.out 1).trans rfl;have hfz23_0 := q0d BK231.out 0;have hfz23_1 := q0d BK231.out 1) | ((with_reducible refine gate_tmp (n := 26) rfl ?_);refine goesT_ (some 29) rfl rfl Try.func73 (by kernel_rfl) rfl #[.agg #[.slice A230_0 ((q0s l0 x17_1).f0).length c230_0,.int .i64 ((q0s l0 x17_1).f1)],.agg #[.slice A232_0 ((q0s l1 x17_1).f0).length c232_0,.int .i64 ((q0s l1 x17_1).f1)]] rfl rfl (by (try simp only [List.map_toArray,List.map_cons,List.map_nil]);first | done | rfl | (simp only [List.length_drop,List.length_take];rfl)) ?_;(with_reducible refine (bag_Same_1.calls k1 _ _ ((q0s l0 x17_1).f0) ((q0s l0 x17_1).f1) _ _ ((q0s l1 x17_1).f0) ((q0s l1 x17_1).f1) false _ ?side1 ?side2 ?side3 ?side4 A9.out).mono ?_);(case side1 => exact Kd.C_below HR230_0.out (by repeat (first | (with_reducible first | exact HB.out | apply q0b | apply q0a | apply q0c | refine q0i ?_ GE231.out | refine q0i ?_ GE233.out) | exact HB.out)));(case side2 => exact HC230_0.out);(case side3 => exact Kd.C_below HR232_0.out (by repeat (first | (with_reducible first | exact HB.out | apply q0b | apply q0a | apply q0c | refine q0i ?_ GE231.out | refine q0i ?_ GE233.out) | exact HB.out)));(case side4 => exact HC232_0.out);rintro e w24 ⟨rfl,hb⟩;refine ⟨_,rfl,?_⟩;have n0_ := Aside0.mk (q0p (g := gb231) (o := .cells #[.slice A230_0 ((q0s l0 x17_1).f0).length c230_0,.int .i64 ((q0s l0 x17_1).f1)] 34 (0,0)) (by (with_reducible repeat (first | refine q0g ?_ _ | refine q0h ?_ | refine q0f ?_ _));refine blk_far ?_ NB231_233.out _;(with_reducible repeat (first | refine q0g ?_ _ | refine q0h ?_ | refine q0f ?_ _));refine blk_far ?_ NB231_233.out _;(with_reducible repeat (first | refine q0g ?_ _ | refine q0h ?_ | refine q0f ?_ _));exact BK231.out) hb);have n1_ := Aside0.mk (q0p (g := gb233) (o := .cells #[.slice A232_0 ((q0s l1 x17_1).f0).length c232_0,.int .i64 ((q0s l1 x17_1).f1)] 34 (0,0)) (by (with_reducible repeat (first | refine q0g ?_ _ | refine q0h ?_ | refine q0f ?_ _));refine q0r (cs := #[.slice A232_0 ((q0s l1 x17_1).f0).length c232_0,.int .i64 0]) ?_ 1 _ rfl;(with_reducible repeat (first | refine q0g ?_ _ | refine q0h ?_ | refine q0f ?_ _));refine q0r (cs := #[.slice none 0 0,.int .i64 0]) ?_ 0 _ rfl;(with_reducible repeat (first | refine q0g ?_ _ | refine q0h ?_ | refine q0f ?_ _));exact BK233.out) hb);have n2_ := Aside0.mk (q0l (by repeat (first | (with_reducible first | exact HB.out | apply q0b | apply q0a | apply q0c | refine q0i ?_ GE231.out | refine q0i ?_ GE233.out) | exact HB.out)) hb);clear BK231;clear BK233;clear HB;have BK231 := n0_;have BK233 := n1_;have HB := n2_;clear n0_ n1_ n2_;(try clear hb);(try clear hb2);(try clear hk);(try clear hi)))
         go_ret
         exact ⟨by first | rfl | (simp [q0m,q0n] <;> rfl) | (simp [*,q0m,q0n] <;> rfl),by repeat (first | (with_reducible first | exact HB.out | apply q0b | apply q0a | apply q0c | refine q0i ?_ GE231.out | refine q0i ?_ GE233.out) | exact HB.out)⟩
       ·rw [if_neg c8] at H
        exact absurd H (by simp)
      ·rw [if_neg c7] at H
       exact absurd H (by simp)
     ·rw [if_neg c6] at H
      exact absurd H (by simp)
    ·rw [if_neg c5] at H
     have c5b0 : decide (x17_1 < (l0.length : Int)) = false := decide_eq_false c5
     clear c5
     obtain rfl := Option.some.inj H
     go_wp2
     go_ret
     exact ⟨by first | rfl | (simp [q0m,q0n] <;> rfl) | (simp [*,q0m,q0n] <;> rfl),by repeat (first | (with_reducible first | exact HB.out | apply q0b | apply q0a | apply q0c) | exact HB.out)⟩
 ·rw [if_neg c4] at H
  have c4b0 : ((l0.length : Int) == (l1.length : Int)) = false := beq_eq_false_iff_ne.mpr c4
  have c4b1 : ((l0.length : Int) != (l1.length : Int)) = true := bne_iff_ne.mpr c4
  have c4b2 : (l0.length == l1.length) = false := by first | simpa using c4 | (simp at c4 ⊢;omega)
  obtain rfl := Option.some.inj H
  go_enter Try.func72,Try.ntmps72
  go_wp2
  go_ret
  exact ⟨by first | rfl | (simp [q0m,q0n] <;> rfl) | (simp [*,q0m,q0n] <;> rfl),by repeat (first | (with_reducible first | exact HB.out | apply q0b | apply q0a | apply q0c) | exact HB.out)⟩
end Go.Proofs.Ythmbfcfomcaaaaa.Z
end
section
namespace Go.Proofs.Ythmbfcfomcaaaaa.Z
set_option linter.unusedVariables false
set_option linter.unusedSimpArgs false
open Go.RowKit Go.Proofs.YthmbfcfomcaaaaaW.PrintWords Go.Proofs.YthmbfcfomcaaaaaW.PrintLast Go.Proofs.YthmbfcfomcaaaaaW.PrintMore Go.Proofs.Ythmbfcfomcaaaaa.Cmp
theorem rows_nil (w : World) : Calls Try.prog 34 #[.pointer none] w fun e w' => e = .returned (.slice none 0 0) ∧ w = w' := by
 go_enter Try.func34,Try.ntmps34
 go_wp2
 go_ret
 exact ⟨rfl,rfl⟩
end Go.Proofs.Ythmbfcfomcaaaaa.Z
end
section
namespace Go.Proofs.Ythmbfcfomcaaaaa.Z
set_option linter.unusedVariables false
set_option linter.unusedSimpArgs false
open Go.RowKit Go.Shelf Go.Proofs.YthmbfcfomcaaaaaW.PrintWords Go.Proofs.YthmbfcfomcaaaaaW.PrintLast Go.Proofs.YthmbfcfomcaaaaaW.PrintMore Go.Proofs.Ythmbfcfomcaaaaa.Cmp
attribute [local go_sem] Oper.semAt_some
end Go.Proofs.Ythmbfcfomcaaaaa.Z
end
section
namespace Go.Proofs.Ythmbfcfomcaaaaa.Z
set_option linter.unusedVariables false
set_option linter.unusedSimpArgs false
open Go.RowKit Go.Proofs.YthmbfcfomcaaaaaW.PrintWords Go.Proofs.YthmbfcfomcaaaaaW.PrintLast Go.Proofs.YthmbfcfomcaaaaaW.PrintMore Go.Proofs.Ythmbfcfomcaaaaa.Cmp
structure OnceAt (N : Nat) (w : World) (o b : Nat) (t : Tr) (D : Nat → Prop) : Prop where
 blk : w.heap[o]? = some (.cells #[.pointer (some ⟨b,0,none⟩)] 116 (0,0))
 bag : One N w b t D
 o_le : N ≤ o
 o_not : ¬ BagOwn b t D o
def OnceOwn (o b : Nat) (t : Tr) (D : Nat → Prop) (k : Nat) : Prop := k = o ∨ BagOwn b t D k
theorem OnceAt.lt {N w o b t D} (h : OnceAt N w o b t D) : ∀ k,OnceOwn o b t D k → k < w.heap.size := fun k hk => hk.elim (fun e => by subst e;exact q0t h.blk) (h.bag.bag.own_lt k)
theorem OnceAt.below {N : Nat} {w w1 : World} {o b : Nat} {t : Tr} {D : Nat → Prop} (h : OnceAt N w o b t D) (hb : Below w.heap.size w w1) : OnceAt N w1 o b t D := ⟨q0p h.blk hb,h.bag.below hb,h.o_le,h.o_not⟩
theorem OnceAt.keep {N : Nat} {w w1 : World} {o b : Nat} {t : Tr} {D S : Nat → Prop} (h : OnceAt N w o b t D) (hc : Ch S w w1) (hS : ∀ k,S k → ¬ OnceOwn o b t D k) : OnceAt N w1 o b t D :=
 ⟨hc.blk h.blk (fun s => hS _ s (.inl rfl)),⟨h.bag.bag.keep hc (fun k s q => hS k s (.inr q)),h.bag.own⟩,h.o_le,h.o_not⟩
set_option maxHeartbeats 1000000 in
theorem once_new (w : World) : Calls Try.prog 47 #[] w fun e w' => ∃ o b,e = .returned (.pointer (some ⟨o,0,none⟩)) ∧ OnceAt w.heap.size w' o b .nil (fun _ => False) ∧ Below w.heap.size w w' := by
 obtain ⟨N,hN⟩ : ∃ N,w.heap.size = N := ⟨_,rfl⟩
 have I0 := Aside0.mk (NextW.refl w)
 rw [hN] at I0 ⊢
 have HN := Aside0.mk hN
 clear hN
 go_enter Try.func47,Try.ntmps47
 go_wp2_with (fail)
 refine (bag_new1 w).mono ?_
 rintro e w1 ⟨b,rfl,h1,hb⟩
 have T1 := Aside0.mk (show One N w1 b .nil (fun _ => False) from ⟨h1.bag,fun k hk => HN.out ▸ h1.own k hk⟩)
 have I1 := Aside0.mk (I0.out.next hb)
 clear h1 hb I0
 go_wp2_with (fail)
 go_ret
 exact ⟨_,b,rfl,⟨blk_new w1 _,T1.out.below (q0b (Below.refl _ _) _),I1.out.le,fun q => absurd (T1.out.bag.own_lt _ q) (Nat.lt_irrefl _)⟩,(I1.out.next (q0b (Below.refl _ _) _)).at_⟩
def netD (l : List En) : List En := if (ofD l []).1 = 0 then (ofD l []).2 else []
set_option maxHeartbeats 2000000 in
set_option maxRecDepth 100000 in
theorem net_at (A : Option Addr) (n c : Nat) (l : List En) (w : World) (hl : Kd.C k34 w A n l) (hn : n ≤ 1000) :
  Calls Try.prog 56 #[.slice A n c] w fun e w' => ∃ v,e = .returned (.tuple #[v,.int .i64 (ofD l []).1]) ∧ Kd.R k34 34 w' w.heap.size (fun _ => True) v (netD l) ∧ Below w.heap.size w w' := by
 have HO := Aside0.mk (bag_of A n c l w hl hn)
 unfold netD
 obtain ⟨⟨q,L⟩,hq⟩ : ∃ x,ofD l [] = x := ⟨_,rfl⟩
 rw [hq] at HO ⊢
 simp only at HO ⊢
 obtain ⟨R,hR⟩ : ∃ R,(if q = 0 then L else []) = R := ⟨_,rfl⟩
 have HR := Aside0.mk hR
 rw [hR]
 clear hl hq hR
 go_enter Try.func56,Try.ntmps56
 go_wp2_with (fail)
 refine HO.out.mono ?_
 rintro e w1 ⟨p,q',L',he,rfl,hb,h1,h2⟩
 obtain ⟨rfl,rfl⟩ : q = q' ∧ L = L' := by injection he with e1 e2;exact ⟨e1,e2⟩
 have B1 := Aside0.mk hb
 by_cases h0 : q = 0
 ·obtain ⟨b,t,D,rfl,hd,hll,hT⟩ := h2 h0
  have T1 := Aside0.mk hT
  have DT := Aside0.mk hd
  have LL := Aside0.mk hll
  subst h0
  have HR2 := Aside0.mk (show L = R by have := HR.out;rw [if_pos rfl] at this;exact this)
  clear hb h1 h2 hd hll hT HO he HR
  go_wp2_with (fail)
  refine (bag_rows b t w1 T1.out.bag (by rw [← doc_len,DT.out];have := LL.out;omega)).mono ?_
  rintro e w2 ⟨v,rfl,hv,hb⟩
  have HV := Aside0.mk (Kd.R_lower hv B1.out.size)
  have B2 := Aside0.mk (B1.out.trans (hb.mono B1.out.size))
  clear hv hb
  go_wp2_with (fail)
  go_ret2
  exact ⟨v,rfl,by have := HV.out;rw [DT.out,HR2.out] at this;exact this,B2.out⟩
 ·obtain rfl := h1 h0
  obtain rfl : [] = R := by have := HR.out;rw [if_neg h0] at this;exact this
  clear hb h1 h2 HO he h0 HR
  go_wp2_with (fail)
  refine (rows_nil w1).mono ?_
  rintro e w2 ⟨rfl,rfl⟩
  go_wp2_with (fail)
  go_ret2
  exact ⟨_,rfl,Kd.R_nil _ _ _ _ _,B1.out⟩
set_option maxHeartbeats 8000000 in
set_option maxRecDepth 100000 in
theorem once_may {N : Nat} {o b : Nat} {t : Tr} {D : Nat → Prop} (A : Option Addr) (n c : Nat) (net L : List En) (w : World) (h : OnceAt N w o b t D) (hd : docT t = L) (hl : L.length ≤ 100000) (hn : Kd.C k34 w A n net) (kn : OkD net) (hn2 : n ≤ 1000) :
  Calls Try.prog 86 #[.pointer (some ⟨o,0,none⟩),.slice A n c] w fun e w' => e = .returned (.int .i64 (mayD L net L.length)) ∧ Below w.heap.size w w' := by
 have HA := Aside0.mk h
 have DT := Aside0.mk hd
 have LL := Aside0.mk hl
 have HN := Aside0.mk hn
 have KN := Aside0.mk kn
 have LN := Aside0.mk (show net.length = n from hn.1)
 have KL := Aside0.mk (show OkD L by rw [← hd];exact h.bag.bag.ok)
 have BL := Aside0.mk (bag_len b t w h.bag.bag)
 rw [hd] at BL
 have o0 := (q0e h.blk 0).trans rfl
 obtain ⟨res,hres⟩ : ∃ res,mayD L net L.length = res := ⟨_,rfl⟩
 have RES := Aside0.mk hres
 rw [hres]
 clear h hd hl hn kn hres
 go_enter Try.func86,Try.ntmps86
 go_wp2_with (fail)
 refine BL.out.mono ?_
 rintro e w1 ⟨rfl,rfl⟩
 obtain ⟨ρ,hρ⟩ : ∃ ρ : Int,(L.length : Int) = ρ := ⟨_,rfl⟩
 have RHO := Aside0.mk hρ
 rw [hρ]
 rw [hρ] at RES
 clear BL hρ
 go_wp2_with (fail)
 go_loopw [5,8,9,17] (fun rv _ _ iv wr => ∃ (i : Nat) (r : Int),rv = .int .i64 r ∧ iv = .int .i64 (i : Int) ∧ i ≤ n ∧ Aside0 (mayD L (net.drop i) r = res ∧ ρ - i ≤ r ∧ r ≤ ρ + i) ∧ Aside0 (Below w.heap.size w wr)) (fun _ _ _ iv _ => n - (intOf iv).toNat)
 case atStart => exact ⟨0,ρ,rfl,rfl,Nat.zero_le _,⟨by rw [List.drop_zero];exact RES.out,by omega,by omega⟩,⟨Below.refl _ _⟩⟩
 case round =>
  obtain ⟨i,r,rfl,rfl,hi,AL,IB⟩ := hrel
  have r0 : -2000 ≤ r := by have := AL.out.2;have := RHO.out;have := LN.out;omega
  have r1 : r ≤ 200000 := by have := AL.out.2;have := RHO.out;have := LL.out;omega
  by_cases hin : i < n
  ·have k0 : decide ((i : Int) < (n : Int)) = true := decide_eq_true (by omega)
   have k0' : decide (i < n) = true := decide_eq_true hin
   have p0 : (0 : Int) ≤ (i : Int) := by omega
   have p1 : (i : Int) < (n : Int) := by omega
   obtain ⟨x,hx⟩ : ∃ x,net[i]? = some x := ⟨net[i]'(by have := LN.out;omega),List.getElem?_eq_getElem _⟩
   obtain ⟨ad,Ax,cx,e1,x0,x1,hxc⟩ := ent_get (Kd.C_below HN.out IB.out) hin hx
   subst e1
   have XC := Aside0.mk hxc
   have XO := Aside0.mk (KN.out x (List.mem_of_getElem? hx))
   have LD := Aside0.mk (show net.drop i = x :: net.drop (i + 1) by
    have hil : i < net.length := by have := LN.out;omega
    rw [List.drop_eq_getElem_cons hil]
    rw [List.getElem?_eq_getElem hil] at hx
    rw [Option.some.inj hx])
   clear hx hxc
   obtain ⟨xr,xm⟩ := x
   simp only at *
   have BM := Aside0.mk (fun W (hb : Below w.heap.size w W) (hr : RowC W Ax cx xr) => bag_many b t Ax cx xr W (HA.out.bag.bag.below hb) hr)
   have QB := Aside0.mk (many_bd (r := xr) KL.out)
   rw [DT.out] at BM
   obtain ⟨q,hq⟩ : ∃ q,manyD xr L = q := ⟨_,rfl⟩
   rw [hq] at BM QB
   have AL2 := Aside0.mk (show (if q + xm < 0 ∨ 1073741824 < q + xm then 10 else mayD L (net.drop (i + 1)) (if q = 0 then r + 1 else if q + xm = 0 then r - 1 else r)) = res by
    have := AL.out.1
    rw [LD.out] at this
    simp only [mayD] at this
    rw [hq] at this
    exact this)
   have q0 := QB.out.1
   have q1 := QB.out.2
   have m0 := XO.out.2.2.1
   have m1 := XO.out.2.2.2
   clear hq
   go_wp2_with (fail)
   have BA := q0b (Below.refl wr.heap.size wr) (Obj.cells #[.slice Ax xr.length cx,.int .i64 xm] 34)
   have XC5 := Aside0.mk (XC.out.below BA)
   have IB5 := Aside0.mk (IB.out.trans (BA.mono IB.out.size))
   have e0 := (q0e (blk_new wr (Obj.cells #[.slice Ax xr.length cx,.int .i64 xm] 34)) 0).trans rfl
   have e1 := (q0e (blk_new wr (Obj.cells #[.slice Ax xr.length cx,.int .i64 xm] 34)) 1).trans rfl
   obtain ⟨g,hg⟩ : ∃ g,wr.heap.size = g := ⟨_,rfl⟩
   rw [hg] at e0 e1 ⊢
   clear BA x0 x1 IB XC hg
   generalize wr.alloc (Obj.cells #[.slice Ax xr.length cx,.int .i64 xm] 34) = w5 at *
   have o5 := (IB5.out.cell (World.block_lt_of_cell? _ _ o0)).trans o0
   go_region_held3 (fun w' => w'.cell? ⟨o,0,none⟩ = some (.pointer (some ⟨b,0,none⟩)) ∧ w'.cell? ⟨g,0,none⟩ = some (.slice Ax xr.length cx)) (first | go_keep | exact ⟨by assumption,by assumption⟩) (first
    | (go_at_call 18;(with_reducible refine (BM.out _ ?_ ?_).mono ?_);exact ⟨IB5.out.os,IB5.out.tape,IB5.out.output,IB5.out.size,IB5.out.block⟩;exact XC5.out.below ((SameW.drew w5).below _);rintro e w6 ⟨rfl,hb⟩;replace o5 := (hb.cell (World.block_lt_of_cell? _ _ o5)).trans o5;replace e0 := (hb.cell (World.block_lt_of_cell? _ _ e0)).trans e0;replace e1 := (hb.cell (World.block_lt_of_cell? _ _ e1)).trans e1;have IB6 := Aside0.mk (IB5.out.trans (((SameW.drew w5).below _).trans (hb.mono IB5.out.size)));clear hb IB5 XC5))
   by_cases c0 : q + xm < 0
   ·have d0 : decide (q + xm < 0) = true := decide_eq_true c0
    obtain rfl : (10 : Int) = res := by have := AL2.out;rw [if_pos (.inl c0)] at this;exact this
    clear c0
    go_wp2_with (fail)
    go_ret
    exact ⟨rfl,IB6.out⟩
   ·have d0 : decide (q + xm < 0) = false := decide_eq_false c0
    by_cases c1 : 1073741824 < q + xm
    ·have d1 : decide (1073741824 < q + xm) = true := decide_eq_true c1
     obtain rfl : (10 : Int) = res := by have := AL2.out;rw [if_pos (.inr c1)] at this;exact this
     clear c0 c1
     go_wp2_with (fail)
     go_ret
     exact ⟨rfl,IB6.out⟩
    ·have d1 : decide (1073741824 < q + xm) = false := decide_eq_false c1
     have AL3 := Aside0.mk (AL2.out ▸ (if_neg (by omega)).symm : mayD L (net.drop (i + 1)) (if q = 0 then r + 1 else if q + xm = 0 then r - 1 else r) = res)
     have AB := Aside0.mk AL.out.2
     clear AL2 AL c0 c1
     by_cases c2 : q = 0
     ·have d2 : (q == 0) = true := by simp [c2]
      have AL4 := Aside0.mk (show mayD L (net.drop (i + 1)) (r + 1) = res by have := AL3.out;rw [if_pos c2] at this;exact this)
      clear c2
      go_wp2_with (fail)
      go_roundw
      case rel => exact ⟨i + 1,r + 1,rfl,by go_num,hin,⟨AL4.out,by have := AB.out;omega,by have := AB.out;omega⟩,IB6⟩
      case measure => simp [intOf];omega
     ·have d2 : (q == 0) = false := by simp [c2]
      by_cases c3 : q + xm = 0
      ·have d3 : (q + xm == 0) = true := by simp [c3]
       have AL4 := Aside0.mk (show mayD L (net.drop (i + 1)) (r - 1) = res by have := AL3.out;rw [if_neg c2,if_pos c3] at this;exact this)
       clear c2 c3
       go_wp2_with (fail)
       go_roundw
       case rel => exact ⟨i + 1,r - 1,rfl,by go_num,hin,⟨AL4.out,by have := AB.out;omega,by have := AB.out;omega⟩,IB6⟩
       case measure => simp [intOf];omega
      ·have d3 : (q + xm == 0) = false := by simp [c3]
       have AL4 := Aside0.mk (show mayD L (net.drop (i + 1)) r = res by have := AL3.out;rw [if_neg c2,if_neg c3] at this;exact this)
       clear c2 c3
       go_wp2_with (fail)
       go_roundw
       case rel => exact ⟨i + 1,r,rfl,by go_num,hin,⟨AL4.out,by have := AB.out;omega,by have := AB.out;omega⟩,IB6⟩
       case measure => simp [intOf];omega
  ·have k0 : decide ((i : Int) < (n : Int)) = false := decide_eq_false (by omega)
   have k0' : decide (i < n) = false := decide_eq_false hin
   have ME := Aside0.mk (show (if 1500 < r then (6 : Int) else 0) = res by
    have := AL.out.1
    rw [List.drop_of_length_le (by have := LN.out;omega)] at this
    exact this)
   clear AL
   by_cases c0 : 1500 < r
   ·have d0 : decide ((1500 : Int) < r) = true := decide_eq_true c0
    obtain rfl : (6 : Int) = res := by have := ME.out;rw [if_pos c0] at this;exact this
    clear c0
    go_wp2_with (fail)
    go_ret
    exact ⟨rfl,IB.out⟩
   ·have d0 : decide ((1500 : Int) < r) = false := decide_eq_false c0
    obtain rfl : (0 : Int) = res := by have := ME.out;rw [if_neg c0] at this;exact this
    clear c0
    go_wp2_with (fail)
    go_ret
    exact ⟨rfl,IB.out⟩
end Go.Proofs.Ythmbfcfomcaaaaa.Z
end
section
namespace Go.Proofs.Ythmbfcfomcaaaaa.Z
set_option linter.unusedVariables false
set_option linter.unusedSimpArgs false
open Go.RowKit Go.Proofs.YthmbfcfomcaaaaaW.PrintWords Go.Proofs.YthmbfcfomcaaaaaW.PrintLast Go.Proofs.YthmbfcfomcaaaaaW.PrintMore Go.Proofs.Ythmbfcfomcaaaaa.Cmp
end Go.Proofs.Ythmbfcfomcaaaaa.Z
end
section
namespace Go.Proofs.Ythmbfcfomcaaaaa.Z
set_option linter.unusedVariables false
set_option linter.unusedSimpArgs false
open Go.RowKit Go.Proofs.YthmbfcfomcaaaaaW.PrintWords Go.Proofs.YthmbfcfomcaaaaaW.PrintLast Go.Proofs.YthmbfcfomcaaaaaW.PrintMore Go.Proofs.Ythmbfcfomcaaaaa.Cmp
theorem mul_len (m : Int) : ∀ (O L : List En),SrtD L → OkD L → (mulD m O L).length ≤ L.length + O.length
 | [],L,_,_ => Nat.le_refl _
 | e :: O,L,hs,hk => by
  obtain ⟨i1,i2⟩ := addD_inv (r := e.f0) (m := e.f1 * m) hs hk
  have h1 := mul_len m O (addD e.f0 (e.f1 * m) L).2 i1 i2
  have h2 := addD_len e.f0 (e.f1 * m) hs
  simp only [mulD,List.length_cons]
  omega
end Go.Proofs.Ythmbfcfomcaaaaa.Z
end
section
namespace Go.Proofs.Ythmbfcfomcaaaaa.Z
set_option linter.unusedVariables false
set_option linter.unusedSimpArgs false
open Go.RowKit Go.Proofs.YthmbfcfomcaaaaaW.PrintWords Go.Proofs.YthmbfcfomcaaaaaW.PrintLast Go.Proofs.YthmbfcfomcaaaaaW.PrintMore Go.Proofs.Ythmbfcfomcaaaaa.Cmp
structure OneR (N : Nat) (w : World) (g : Nat) (A : Option Addr) (c : Nat) (L : List En) (E : Nat → Prop) : Prop where
 ref : RefV w g A c L E
 g_le : N ≤ g
 e_le : ∀ k,E k → N ≤ k
theorem OneR.below {N : Nat} {w w1 : World} {g : Nat} {A : Option Addr} {c : Nat} {L : List En} {E : Nat → Prop} (h : OneR N w g A c L E) (hb : Below w.heap.size w w1) : OneR N w1 g A c L E := ⟨h.ref.below hb,h.g_le,h.e_le⟩
theorem OneR.reffed {N : Nat} {w w1 : World} {g : Nat} {A A' : Option Addr} {c c' : Nat} {L L' : List En} {E E' : Nat → Prop} (h : OneR N w g A c L E) (hN : N ≤ w.heap.size) (ha : RefV w1 g A' c' L' E') (hc : RefCh w w1 g E E') : OneR N w1 g A' c' L' E' ∧ Below N w w1 :=
 ⟨⟨ha,h.g_le,fun k hk => (hc.dat k hk).elim (h.e_le k) (fun q => by omega)⟩,hc.ch.toBelow hN (fun k s => by subst s;exact h.g_le)⟩
theorem ref_box {N : Nat} (w : World) (hN : N ≤ w.heap.size) : OneR N (w.alloc (Obj.cells #[.slice none 0 0] 30)) w.heap.size none 0 [] (fun _ => False) :=
 ⟨⟨blk_new w _,Nat.le_refl 0,Kd.F_nil _ _ _,fun q => q,fun _ q => q.elim⟩,hN,fun _ q => q.elim⟩
theorem radd1 {N : Nat} {w0 : World} {E : Nat → Prop} {g : Nat} {A A1 : Option Addr} {c c1 : Nat} {r : Rw} (m : Int) {w W : World} {L L' : List En} {q : Int} (h : OneR N w g A1 c1 L E) (hN : NextW N w0 w) (e : SameW w W) (hr : RowC W A c r) (h1 : SrtD L) (h2 : OkD L) (hs : L.length ≤ 1000000) (ha : addD r m L = (q,L')) :
  Calls Try.prog 17 #[.pointer (some ⟨g,0,none⟩),.slice A r.length c,.int .i64 m] W fun e w' => ∃ A' c' E',e = .returned (.int .i64 q) ∧ OneR N w' g A' c' L' E' ∧ NextW N w0 w' ∧ Below N W w' ∧ RefCh W w' g E E' := by
 have hN' : N ≤ W.heap.size := by rw [e.heap];exact hN.le
 refine (ref_add g A1 c1 L A c r m W (h.ref.below (e.below _)) h1 h2 hr hs).mono ?_
 rintro e' w1 ⟨A',c',E',rfl,h3,h4⟩
 rw [ha] at h3 ⊢
 obtain ⟨i1,i2⟩ := (h.below (e.below _)).reffed hN' h3 h4
 exact ⟨A',c',E',rfl,i1,hN.nextN i2 e,i2,h4⟩
set_option maxHeartbeats 8000000 in
set_option maxRecDepth 100000 in
theorem ref_of (A : Option Addr) (n c : Nat) (l : List En) (w : World) (hl : Kd.C k34 w A n l) (hn : n ≤ 1000) :
  Calls Try.prog 29 #[.slice A n c] w fun e w' => ∃ p q L,ofD l [] = (q,L) ∧ e = .returned (.tuple #[.pointer p,.int .i64 q]) ∧ Below w.heap.size w w' ∧ (q ≠ 0 → p = none) ∧ (q = 0 → ∃ g A c E,p = some ⟨g,0,none⟩ ∧ L.length ≤ n ∧ SrtD L ∧ OkD L ∧ OneR w.heap.size w' g A c L E) := by
 have HL := Aside0.mk hl
 have LN := Aside0.mk (show l.length = n from hl.1)
 obtain ⟨N,hN⟩ : ∃ N,w.heap.size = N := ⟨_,rfl⟩
 have I0 := Aside0.mk (NextW.refl w)
 have HN := Aside0.mk hN
 rw [hN] at I0 ⊢
 clear hl hN
 go_enter Try.func29,Try.ntmps29
 go_upto_region 2 with (fail)
 have T3 := Aside0.mk (ref_box w I0.out.le)
 have I3 := Aside0.mk (I0.out.next (q0b (Below.refl w.heap.size w) (Obj.cells #[.slice none 0 0] 30)))
 obtain ⟨g,hg⟩ : ∃ g,w.heap.size = g := ⟨_,rfl⟩
 rw [hg] at T3 ⊢
 clear I0 hg
 generalize w.alloc (Obj.cells #[.slice none 0 0] 30) = w3 at *
 go_wp2_with (fail)
 go_loopw [5] (fun iv wr => ∃ i : Nat,iv = .int .i64 (i : Int) ∧ i ≤ n ∧ Aside0 (∃ A c L E,L.length ≤ i ∧ SrtD L ∧ OkD L ∧ OneR N wr g A c L E ∧ ofD l [] = ofD (l.drop i) L) ∧ Aside0 (NextW N w wr)) (fun iv _ => n - (intOf iv).toNat)
 case atStart => exact ⟨0,rfl,Nat.zero_le _,⟨⟨none,0,[],_,Nat.le_refl 0,List.Pairwise.nil,(fun x hx => by cases hx),T3.out,rfl⟩⟩,I3⟩
 case round =>
  clear T3 I3
  obtain ⟨i,rfl,hi,TT,I4⟩ := hrel
  obtain ⟨A4,c4,L,E,hlen,hs,hk,hT,hof⟩ := TT.out
  have LL := Aside0.mk hlen
  have SR := Aside0.mk hs
  have OK := Aside0.mk hk
  have T4 := Aside0.mk hT
  have OF := Aside0.mk hof
  clear TT hlen hs hk hT hof
  by_cases hin : i < n
  ·have k0 : decide ((i : Int) < (n : Int)) = true := decide_eq_true (by omega)
   have k0' : decide (i < n) = true := decide_eq_true hin
   have p0 : (0 : Int) ≤ (i : Int) := by omega
   have p1 : (i : Int) < (n : Int) := by omega
   obtain ⟨x,hx⟩ : ∃ x,l[i]? = some x := ⟨l[i]'(by have := LN.out;omega),List.getElem?_eq_getElem _⟩
   obtain ⟨ad,Ax,cx,e1,x0,x1,hxc⟩ := ent_get HL.out hin hx
   subst e1
   have XC := Aside0.mk hxc
   have X0 := Aside0.mk (And.intro x0 x1)
   have LD := Aside0.mk (show l.drop i = x :: l.drop (i + 1) by
    have hil : i < l.length := by have := LN.out;omega
    rw [List.drop_eq_getElem_cons hil]
    rw [List.getElem?_eq_getElem hil] at hx
    rw [Option.some.inj hx])
   replace x0 := (I4.out.below.cell (HN.out ▸ World.block_lt_of_cell? w _ x0)).trans x0
   replace x1 := (I4.out.below.cell (HN.out ▸ World.block_lt_of_cell? w _ x1)).trans x1
   have XB := Aside0.mk (fun W (hb : Below N w W) => show RowC W Ax cx x.f0 from XC.out.below (HN.out ▸ hb))
   clear hx hxc
   obtain ⟨xr,xm⟩ := x
   simp only at *
   obtain ⟨⟨q,L1⟩,hq⟩ : ∃ q,addD xr xm L = q := ⟨_,rfl⟩
   have AD := Aside0.mk hq
   have B1 := Aside0.mk (show L.length ≤ 1000000 by have := LL.out;omega)
   clear hq
   go_wp2_with (fail)
   go_region_held3 (fun w' => w'.cell? (ad.add (i * 2)) = some (.slice Ax xr.length cx) ∧ w'.cell? ⟨(ad.add (i * 2)).block,(ad.add (i * 2)).off + 1,none⟩ = some (.int .i64 xm)) (first | go_keep | exact ⟨by assumption,by assumption⟩) (first
    | (go_at_call 17;(with_reducible refine (radd1 xm T4.out I4.out ?_ (XB.out _ ?_) SR.out OK.out B1.out AD.out).mono ?_);exact ⟨rfl,rfl,rfl,rfl⟩;exact I4.out.at_;rintro e w5 ⟨A5,c5,E5,rfl,h5,i5,b5,_⟩;replace x0 := (b5.cell (HN.out ▸ World.block_lt_of_cell? w _ X0.out.1)).trans x0;replace x1 := (b5.cell (HN.out ▸ World.block_lt_of_cell? w _ X0.out.2)).trans x1;have T5 := Aside0.mk h5;have I5 := Aside0.mk i5;clear h5 i5 b5))
   all_goals (
    clear T4 I4 x0 x1
    have OF2 := Aside0.mk (show ofD l [] = if q = 0 then ofD (l.drop (i + 1)) L1 else (q,L) by
     rw [OF.out,LD.out]
     show (if (addD xr xm L).1 = 0 then ofD (l.drop (i + 1)) (addD xr xm L).2 else ((addD xr xm L).1,L)) = _
     rw [AD.out])
    have LL1 := Aside0.mk (show L1.length ≤ i + 1 by have := addD_len xr xm SR.out;rw [AD.out] at this;have := LL.out;simp only at *;omega)
    have SR1 := Aside0.mk (show SrtD L1 ∧ OkD L1 by have := addD_inv (r := xr) (m := xm) SR.out OK.out;rw [AD.out] at this;exact this)
    by_cases hq : q = 0
    ·subst hq
     go_wp2_with (fail)
     go_roundw
     case rel => exact ⟨i + 1,by go_num,hin,⟨⟨A5,c5,L1,E5,LL1.out,SR1.out.1,SR1.out.2,T5.out,by have h := OF2.out;simpa using h⟩⟩,I5⟩
     case measure => simp [intOf];omega
    ·have q1 : (q != 0) = true := by simp [hq]
     go_wp2_with (fail)
     go_ret2
     have e1 := OF2.out
     rw [if_neg hq] at e1
     exact ⟨none,q,L,e1,rfl,I5.out.at_,fun _ => rfl,fun h => absurd h hq⟩)
  ·have k0 : decide ((i : Int) < (n : Int)) = false := decide_eq_false (by omega)
   have k0' : decide (i < n) = false := decide_eq_false hin
   go_wp2_with (fail)
   go_ret2
   have e1 := OF.out
   rw [List.drop_of_length_le (by have := LN.out;omega)] at e1
   exact ⟨some ⟨g,0,none⟩,0,L,e1,rfl,I4.out.at_,fun h => absurd rfl h,fun _ => ⟨g,A4,c4,E,rfl,by have := LL.out;omega,SR.out,OK.out,T4.out⟩⟩
end Go.Proofs.Ythmbfcfomcaaaaa.Z
end
section
namespace Go.Proofs.Ythmbfcfomcaaaaa.Z
set_option linter.unusedVariables false
set_option linter.unusedSimpArgs false
open Go.RowKit Go.Proofs.YthmbfcfomcaaaaaW.PrintWords Go.Proofs.YthmbfcfomcaaaaaW.PrintLast Go.Proofs.YthmbfcfomcaaaaaW.PrintMore Go.Proofs.Ythmbfcfomcaaaaa.Cmp
theorem RefCh.trans {w w1 w2 : World} {g : Nat} {E E1 E2 : Nat → Prop} (h : RefCh w w1 g E E1) (k : RefCh w1 w2 g E1 E2) : RefCh w w2 g E E2 :=
 ⟨h.ch.then_ k.ch (fun j s => .inl s),fun j hj => (k.dat j hj).elim (h.dat j) (fun q => .inr (Nat.le_trans h.ch.size q))⟩
theorem cell_of {w w' : World} {a : Addr} (h : w'.heap[a.block]? = w.heap[a.block]?) : w'.cell? a = w.cell? a := by unfold World.cell?;rw [h]
theorem add_block (a : Addr) (n : Nat) : (a.add n).block = a.block := by unfold Addr.add;split <;> rfl
end Go.Proofs.Ythmbfcfomcaaaaa.Z
end
section
namespace Go.Proofs.Ythmbfcfomcaaaaa.Z
set_option linter.unusedVariables false
set_option linter.unusedSimpArgs false
open Go.RowKit Go.Proofs.YthmbfcfomcaaaaaW.PrintWords Go.Proofs.YthmbfcfomcaaaaaW.PrintLast Go.Proofs.YthmbfcfomcaaaaaW.PrintMore Go.Proofs.Ythmbfcfomcaaaaa.Cmp
theorem ent_getF {w : World} {ok : Nat → Prop} {A : Option Addr} {n : Nat} {L : List En} (h : Kd.F k34 w ok A n L) {i : Nat} (hi : i < n) {x : En} (hx : L[i]? = some x) :
  ∃ ad A0 c0,A = some ad ∧ w.cell? (ad.add (i * 2)) = some (.slice A0 x.f0.length c0) ∧ w.cell? ⟨(ad.add (i * 2)).block,(ad.add (i * 2)).off + 1,none⟩ = some (.int .i64 x.f1) ∧ x.f0.length ≤ c0 ∧ Kd.F k66 w ok A0 x.f0.length x.f0 := by
 obtain ⟨ad,cs,e1,hcl,hK,hcc,_⟩ := Kd.F_get h z34 (i : Int) (by omega) (by omega)
 simp only [Int.toNat_natCast] at hK hcc
 rw [List.getD_eq_getElem?_getD,hx] at hK
 obtain ⟨A0,c0,e2,hl,hF⟩ := k34_openF hK
 subst e2
 have hc : ∀ j u,[Value.slice A0 x.f0.length c0,Value.int .i64 x.f1][j]? = some u → w.cell? (ad.add (i * 2 + j)) = some u := hcc
 exact ⟨ad,A0,c0,e1,hc 0 _ rfl,by rw [← add_field _ _ 1 (by omega)];exact hc 1 _ rfl,hl,hF⟩
theorem BagCh.more {w w1 w2 : World} {b : Nat} {t t' : Tr} {D D' S : Nat → Prop} (h : BagCh w w1 b t t' D D') (k : Ch S w1 w2) (hs : ∀ k,S k → w.heap.size ≤ k) : BagCh w w2 b t t' D D' := ⟨h.ch.then_ k (fun k s => .inr (hs k s)),h.ids,h.dat⟩
structure AppI (N M NN : Nat) (w3 wr : World) (o b : Nat) (t : Tr) (D : Nat → Prop) (v : Value) (L T : List En) : Prop where
 ex : ∃ ti Di,docT ti = L ∧ OnceAt N wr o b ti Di ∧ BagCh w3 wr b t ti D Di ∧ Kd.N k34 34 wr M (fun k => M ≤ k ∧ ¬ BagOwn b ti Di k) v T ∧ ∀ k,v.ownBlock = some k → NN ≤ k
theorem N_bagged {w w1 : World} {b M : Nat} {t t' : Tr} {D D' : Nat → Prop} {v : Value} {T : List En} (h : Kd.N k34 34 w M (fun k => M ≤ k ∧ ¬ BagOwn b t D k) v T) (hc : BagCh w w1 b t t' D D') : Kd.N k34 34 w1 M (fun k => M ≤ k ∧ ¬ BagOwn b t' D' k) v T :=
 Kd.N_mono (Kd.N_step (Kd.N_bound h) (fun k hk hlt => hc.ch.block k hlt (fun s => hk.1.2 (s.elim .inl (fun q => .inr (.inl q)))))) (fun k hk => ⟨hk.1.1,fun ho => (hc.own k ho).elim hk.1.2 (fun q => by have := hk.2;omega)⟩)
theorem tell_snoc {L net : List En} {i : Nat} {x : En} (hx : net[i]? = some x) : tellD L (net.take (i + 1)) = tellD L (net.take i) ++ tell1 L x := by
 rw [List.take_add_one,hx]
 unfold tellD
 rw [List.flatMap_append]
 simp
theorem keep_cell {S : Nat → Prop} {w w1 : World} {a : Addr} {v : Value} (hc : Ch S w w1) (h : w.cell? a = some v) (hn : ¬ S a.block) : w1.cell? a = some v :=
 (cell_of (hc.block a.block (World.block_lt_of_cell? _ _ h) hn)).trans h
theorem of_inv0 (l : List En) : SrtD (ofD l []).2 ∧ OkD (ofD l []).2 ∧ (ofD l []).2.length ≤ l.length := by
 obtain ⟨h1,h2,h3⟩ := of_inv l [] List.Pairwise.nil (fun x hx => (by cases hx))
 exact ⟨h1,h2,by rw [List.length_nil,Nat.zero_add] at h3;exact h3⟩
theorem tell_len (L : List En) : ∀ net : List En,(tellD L net).length ≤ net.length
 | [] => Nat.le_refl _
 | e :: es => by
  have h := tell_len L es
  have h1 : (tell1 L e).length ≤ 1 := by unfold tell1;split;exact Nat.le_refl 1;split;exact Nat.le_refl 1;exact Nat.zero_le 1
  rw [tell_cons,List.length_append,List.length_cons]
  omega
theorem mul_take {L net : List En} (ho : SrtD net) (ko : OkD net) (hs : SrtD L) (hk : OkD L) (ha : allD 1 net L = true) {i : Nat} {x : En} (hx : net[i]? = some x) :
  addD x.f0 x.f1 (mulD 1 (net.take i) L) = (0,mulD 1 (net.take (i + 1)) L) ∧ manyD x.f0 (mulD 1 (net.take i) L) = manyD x.f0 L := by
 have hi : i < net.length := (List.getElem?_eq_some_iff.1 hx).1
 have e : net = net.take i ++ x :: net.drop (i + 1) := by
  have h1 := (List.take_append_drop i net).symm
  rw [List.drop_eq_getElem_cons hi] at h1
  rw [List.getElem?_eq_getElem hi] at hx
  rw [Option.some.inj hx] at h1
  exact h1
 have e2 : net.take (i + 1) = net.take i ++ [x] := by rw [List.take_add_one,hx];rfl
 generalize net.take i = T1 at e e2 ⊢
 generalize net.drop (i + 1) = T2 at e
 rw [e] at ho ko ha
 rw [e2]
 exact ⟨mul_step ho ko hs hk ha,many_mul ho ko hs hk ha⟩
set_option maxHeartbeats 8000000 in
set_option maxRecDepth 100000 in
theorem once_apply {N : Nat} {o b : Nat} {t : Tr} {D : Nat → Prop} (A : Option Addr) (n c : Nat) (l L : List En) (w : World) (h : OnceAt N w o b t D) (hd : docT t = L) (hL : OnceD L) (hl : Kd.C k34 w A n l) (hn : n ≤ 1000) (hNM : N ≤ w.heap.size) :
  Calls Try.prog 50 #[.pointer (some ⟨o,0,none⟩),.slice A n c] w fun e w' => ∃ v t' D',e = .returned (.tuple #[v,.int .i64 (appD l L).1]) ∧ docT t' = (appD l L).2.2 ∧ OnceAt N w' o b t' D' ∧ BagCh w w' b t t' D D' ∧ Kd.N k34 34 w' w.heap.size (fun k => w.heap.size ≤ k ∧ ¬ BagOwn b t' D' k) v (appD l L).2.1 := by
 have LN := Aside0.mk (show l.length = n from hl.1)
 have NT := Aside0.mk (net_at A n c l w hl hn)
 have HA := Aside0.mk h
 have DT := Aside0.mk hd
 have HL := Aside0.mk hL
 have OI := Aside0.mk (of_inv0 l)
 unfold appD
 unfold netD at NT
 obtain ⟨⟨q,nt⟩,hq⟩ : ∃ x,ofD l [] = x := ⟨_,rfl⟩
 rw [hq] at NT OI ⊢
 simp only at NT OI ⊢
 obtain ⟨M,hM⟩ : ∃ M,w.heap.size = M := ⟨_,rfl⟩
 have HM := Aside0.mk hM
 have NM := Aside0.mk (show N ≤ M from hM ▸ hNM)
 rw [hM] at NT
 have LTO := Aside0.mk (show ∀ k,OnceOwn o b t D k → k < M from fun k hk => by rw [← hM];exact h.lt k hk)
 by_cases h0 : q = 0
 case neg =>
  rw [if_neg h0]
  rw [if_neg h0] at NT
  have c0 : (q != 0) = true := by simp [h0]
  clear h hd hL hl hq h0 OI
  rw [hM]
  clear hM
  go_enter Try.func50,Try.ntmps50
  go_wp2_with (fail)
  refine NT.out.mono ?_
  rintro e w1 ⟨v,rfl,_,hb⟩
  have B1 := Aside0.mk hb
  clear hb
  go_wp2_with (fail)
  go_ret2
  have B0 : Below w.heap.size w w1 := HM.out ▸ B1.out
  exact ⟨_,t,D,rfl,DT.out,HA.out.below B0,BagCh.same B0,Kd.N_nil _ _ _ _ _⟩
 case pos =>
 subst h0
 rw [if_pos rfl]
 rw [if_pos rfl] at NT
 have hL2 := hL
 clear h hl hq
 by_cases hm : mayD L nt L.length = 0
 case neg =>
  rw [if_neg hm]
  obtain ⟨mc,hmc⟩ : ∃ mc,mayD L nt L.length = mc := ⟨_,rfl⟩
  have HMC := Aside0.mk hmc
  have c0 : (mc != 0) = true := by rw [← hmc];simp [hm]
  rw [hmc]
  clear hmc hm hd hL hL2
  rw [hM]
  clear hM
  go_enter Try.func50,Try.ntmps50
  go_wp2_with (fail)
  refine NT.out.mono ?_
  rintro e w1 ⟨v,rfl,hv,hb⟩
  have B1 := Aside0.mk (show Below w.heap.size w w1 from HM.out ▸ hb)
  obtain ⟨A1,c1,rfl⟩ := Kd.R_slice hv
  have CV := Aside0.mk (Kd.R_reads' hv).2.2
  clear hb hv NT
  go_wp2_with (fail)
  refine (once_may A1 nt.length c1 nt L w1 (HA.out.below B1.out) DT.out (by have := HL.out.few;omega) CV.out OI.out.2.1 (by have := OI.out.2.2;have := LN.out;omega)).mono ?_
  rintro e w2 ⟨rfl,hb⟩
  have B2 := Aside0.mk (B1.out.trans (hb.mono B1.out.size))
  rw [HMC.out]
  clear hb CV
  go_wp2_with (fail)
  go_ret2
  exact ⟨_,t,D,rfl,DT.out,HA.out.below B2.out,BagCh.same B2.out,Kd.N_nil _ _ _ _ _⟩
 case pos =>
 rw [if_pos hm]
 have HMC := Aside0.mk hm
 have AD := Aside0.mk (inB_all OI.out.2.1 ((may_iff _ _ _).1 hm).1)
 clear hm hd hL hL2
 rw [hM]
 clear hM
 go_enter Try.func50,Try.ntmps50
 go_wp2_with (fail)
 refine NT.out.mono ?_
 rintro e w1 ⟨v,rfl,hv,hb⟩
 have B1 := Aside0.mk (show Below w.heap.size w w1 from HM.out ▸ hb)
 obtain ⟨A1,c1,rfl⟩ := Kd.R_slice hv
 have CV := Aside0.mk (Kd.R_reads' hv).2.2
 have FV := Aside0.mk (show Kd.F k34 w1 (fun k => M ≤ k ∧ k < w1.heap.size) A1 nt.length nt from Kd.F_mono (Kd.R_F (Kd.R_bound hv)) (fun k hk => ⟨hk.2.1,hk.2.2.1⟩))
 clear hb hv NT
 go_wp2_with (fail)
 refine (once_may A1 nt.length c1 nt L w1 (HA.out.below B1.out) DT.out (by have := HL.out.few;omega) CV.out OI.out.2.1 (by have := OI.out.2.2;have := LN.out;omega)).mono ?_
 rintro e w3 ⟨rfl,hb⟩
 have B3 := Aside0.mk (B1.out.trans (hb.mono B1.out.size))
 have FV3 := Aside0.mk (show Kd.F k34 w3 (fun k => M ≤ k ∧ k < w3.heap.size) A1 nt.length nt from Kd.F_mono (Kd.F_below FV.out hb) (fun k hk => ⟨hk.1,Nat.lt_of_lt_of_le hk.2 hb.size⟩))
 have HA3 := Aside0.mk (HA.out.below B3.out)
 rw [HMC.out]
 have NB := Aside0.mk (show nt.length ≤ 1000 by have := OI.out.2.2;have := LN.out;omega)
 have MN := Aside0.mk (show M ≤ w3.heap.size from HM.out ▸ B3.out.size)
 clear hb CV FV B1
 obtain ⟨m,hm⟩ : ∃ m,nt.length = m := ⟨_,rfl⟩
 have LM := Aside0.mk hm
 rw [hm]
 rw [hm] at FV3 NB
 have m0 : m ≤ 1000 := NB.out
 clear hm
 go_wp2_with (fail)
 go_loopw [9,31] (fun v iv wr => ∃ i : Nat,iv = .int .i64 (i : Int) ∧ i ≤ m ∧ Aside0 (AppI N M w3.heap.size w3 wr o b t D v (mulD 1 (nt.take i) L) (tellD L (nt.take i)))) (fun _ iv _ => m - (intOf iv).toNat)
 case atStart => exact ⟨0,rfl,Nat.zero_le _,⟨⟨t,D,DT.out,HA3.out,BagCh.same (Below.refl _ _),Kd.N_nil _ _ _ _ _,fun k hk => by simp [Value.ownBlock] at hk⟩⟩⟩
 case round =>
  rename World => wr
  rename Value => vb
  obtain ⟨i,rfl,hi,AI⟩ := hrel
  obtain ⟨ti,Di,hdi,hoi,hci,hni,hvi⟩ := AI.out.ex
  have DTI := Aside0.mk hdi
  have OAI := Aside0.mk hoi
  have CHI := Aside0.mk hci
  have NVI := Aside0.mk hni
  have OVI := Aside0.mk hvi
  obtain ⟨Ab,cb,eb⟩ := Kd.N_slice hni
  obtain ⟨Lb,hLb⟩ : ∃ Lb,tellD L (nt.take i) = Lb := ⟨_,rfl⟩
  have HLB := Aside0.mk hLb
  rw [hLb] at NVI eb
  have LBL := Aside0.mk (show Lb.length ≤ 100000 by have := tell_len L (nt.take i);rw [hLb,List.length_take] at this;omega)
  subst eb
  clear AI hdi hoi hci hni hvi hLb
  by_cases hin : i < m
  ·have k0 : decide ((i : Int) < (m : Int)) = true := decide_eq_true (by omega)
   have k0' : decide (i < m) = true := decide_eq_true hin
   have p0 : (0 : Int) ≤ (i : Int) := by omega
   have p1 : (i : Int) < (m : Int) := by omega
   obtain ⟨x,hx⟩ : ∃ x,nt[i]? = some x := ⟨nt[i]'(by have := LM.out;omega),List.getElem?_eq_getElem _⟩
   have FVR := Aside0.mk (show Kd.F k34 wr (fun k => M ≤ k ∧ k < w3.heap.size) A1 m nt from Kd.F_step FV3.out (fun k hk hlt => CHI.out.ch.block k hk.2 (fun s => by have := LTO.out k (.inr (s.elim .inl (fun q => .inr (.inl q))));have := hk.1;omega)))
   obtain ⟨ad,Ax,cx,e1,x0,x1,hxk,hxf⟩ := ent_getF FVR.out hin hx
   subst e1
   have XK := Aside0.mk hxk
   have XF := Aside0.mk hxf
   have XO := Aside0.mk (OI.out.2.1 x (List.mem_of_getElem? hx))
   have MT := Aside0.mk (mul_take OI.out.1 OI.out.2.1 HL.out.srt HL.out.ok AD.out hx)
   have TS := Aside0.mk (tell_snoc (L := L) hx)
   rw [HLB.out] at TS
   clear hx hxk hxf
   obtain ⟨xr,xm⟩ := x
   simp only at *
   obtain ⟨q,hq⟩ : ∃ q,manyD xr L = q := ⟨_,rfl⟩
   rw [hq] at MT
   have QB := Aside0.mk (many_bd (r := xr) HL.out.ok)
   rw [hq] at QB
   have TE := Aside0.mk (show tell1 L ⟨xr,xm⟩ = if q = 0 then [⟨xr,1⟩] else if q + xm = 0 then [⟨xr,-1⟩] else [] by unfold tell1;simp only;rw [hq])
   have q0 := QB.out.1
   have q1 := QB.out.2
   have m1 := XO.out.2.2.1
   have m2 := XO.out.2.2.2
   clear hq
   go_wp2_with (fail)
   have BA := q0b (Below.refl wr.heap.size wr) (Obj.cells #[.slice Ax xr.length cx,.int .i64 xm] 34)
   have XF5 := Aside0.mk (Kd.F_below XF.out BA)
   have OA5 := Aside0.mk (OAI.out.below BA)
   have BC5 := Aside0.mk (CHI.out.trans (BagCh.same BA))
   have NV5 := Aside0.mk (N_bagged NVI.out (BagCh.same BA))
   have e0 := (q0e (blk_new wr (Obj.cells #[.slice Ax xr.length cx,.int .i64 xm] 34)) 0).trans rfl
   have e1 := (q0e (blk_new wr (Obj.cells #[.slice Ax xr.length cx,.int .i64 xm] 34)) 1).trans rfl
   have GW := Aside0.mk (fun k (hk : BagOwn b ti Di k) => Nat.ne_of_lt (OAI.out.bag.bag.own_lt k hk))
   obtain ⟨g,hg⟩ : ∃ g,wr.heap.size = g := ⟨_,rfl⟩
   rw [hg] at e0 e1 GW ⊢
   clear BA x0 x1 XF OAI CHI NVI FVR hg
   generalize wr.alloc (Obj.cells #[.slice Ax xr.length cx,.int .i64 xm] 34) = w5 at *
   have o5 := (q0e OA5.out.blk 0).trans rfl
   have BM := Aside0.mk (bag_many b ti Ax cx xr w5.drew (OA5.out.bag.bag.below ((SameW.drew w5).below _)) ⟨XK.out,Kd.F_now (Kd.F_below XF5.out ((SameW.drew w5).below _))⟩)
   rw [DTI.out,MT.out.2] at BM
   go_region_held3 (fun w' => w'.cell? ⟨o,0,none⟩ = some (.pointer (some ⟨b,0,none⟩)) ∧ w'.cell? ⟨g,0,none⟩ = some (.slice Ax xr.length cx)) (first | go_keep | exact ⟨by assumption,by assumption⟩) (first
    | (go_at_call 18;(with_reducible refine BM.out.mono ?_);rintro e w6 ⟨rfl,hb⟩;replace o5 := (hb.cell (World.block_lt_of_cell? _ _ o5)).trans o5;replace e0 := (hb.cell (World.block_lt_of_cell? _ _ e0)).trans e0;replace e1 := (hb.cell (World.block_lt_of_cell? _ _ e1)).trans e1;have B6 := Aside0.mk (show Below w5.heap.size w5 w6 from ((SameW.drew w5).below _).trans hb);clear hb))
   have XF6 := Aside0.mk (Kd.F_below XF5.out B6.out)
   have OA6 := Aside0.mk (OA5.out.below B6.out)
   have BC6 := Aside0.mk (BC5.out.trans (BagCh.same B6.out))
   have NV6 := Aside0.mk (N_bagged NV5.out (BagCh.same B6.out))
   clear XF5 OA5 BC5 NV5 B6 BM
   go_wp2_with (fail)
   have BAD := Aside0.mk (bag_add b ti Ax cx xr xm w6.drew (OA6.out.bag.bag.below ((SameW.drew w6).below _)) ⟨XK.out,Kd.F_now (Kd.F_below XF6.out ((SameW.drew w6).below _))⟩ (by rw [← doc_len,DTI.out];have := mul_len 1 (nt.take i) L HL.out.srt HL.out.ok;have := HL.out.few;rw [List.length_take] at *;omega))
   rw [DTI.out,MT.out.1] at BAD
   simp only at BAD
   go_region_held3 (fun w' => w'.cell? ⟨o,0,none⟩ = some (.pointer (some ⟨b,0,none⟩)) ∧ w'.cell? ⟨g,0,none⟩ = some (.slice Ax xr.length cx) ∧ w'.cell? ⟨g,1,none⟩ = some (.int .i64 xm)) (first | go_keep | exact ⟨by assumption,by assumption,by assumption⟩) (first
    | (go_at_call 16;(with_reducible refine BAD.out.mono ?_);rintro e w7 ⟨t7,D7,rfl,hd7,hb7,hc7⟩;have HC7 := Aside0.mk hc7.ch;replace o5 := keep_cell HC7.out (show w6.drew.cell? ⟨o,0,none⟩ = _ from o5) (fun s => OA6.out.o_not (s.elim .inl (fun q => .inr (.inl q))));replace e0 := keep_cell HC7.out (show w6.drew.cell? ⟨g,0,none⟩ = _ from e0) (fun s => GW.out g (s.elim .inl (fun q => .inr (.inl q))) rfl);replace e1 := keep_cell HC7.out (show w6.drew.cell? ⟨g,1,none⟩ = _ from e1) (fun s => GW.out g (s.elim .inl (fun q => .inr (.inl q))) rfl);have DT7 := Aside0.mk hd7;have BB7 := Aside0.mk hb7;have BCC := Aside0.mk (show BagCh w6 w7 b ti t7 Di D7 from (BagCh.same ((SameW.drew w6).below _)).trans hc7);clear hd7 hb7 hc7))
   have OA7 := Aside0.mk (show OnceAt N w7 o b t7 D7 from ⟨BCC.out.ch.blk OA6.out.blk (fun s => OA6.out.o_not (s.elim .inl (fun q => .inr (.inl q)))),⟨BB7.out,fun k hk => (BCC.out.own k hk).elim (OA6.out.bag.own k) (fun q => Nat.le_trans (Nat.le_trans (Nat.le_trans NM.out MN.out) BC6.out.ch.size) q)⟩,OA6.out.o_le,fun ho => (BCC.out.own o ho).elim OA6.out.o_not (fun q => by have := q0t OA6.out.blk;omega)⟩)
   have BC7 := Aside0.mk (BC6.out.trans BCC.out)
   have NV7 := Aside0.mk (N_bagged NV6.out BCC.out)
   have XF7 := Aside0.mk (show Kd.F k66 w7 (fun k => M ≤ k ∧ k < w3.heap.size) Ax xr.length xr from Kd.F_step XF6.out (fun k hk hlt => BCC.out.ch.block k hlt (fun s => (BC6.out.own k (s.elim .inl (fun q => .inr (.inl q)))).elim (fun q => by have := LTO.out k (.inr q);have := hk.1;omega) (fun q => by have := hk.2;omega))))
   have MW7 := Aside0.mk (show M ≤ w7.heap.size from Nat.le_trans MN.out BC7.out.ch.size)
   have HOK := Aside0.mk (show ∀ k,(M ≤ k ∧ k < w3.heap.size) → (M ≤ k ∧ ¬ BagOwn b t7 D7 k) ∧ some k ≠ (Value.slice Ab Lb.length cb).ownBlock from fun k hk => ⟨⟨hk.1,fun ho => (BC7.out.own k ho).elim (fun q => by have := LTO.out k (.inr q);have := hk.1;omega) (fun q => by have := hk.2;omega)⟩,fun e => by have := OVI.out k e.symm;have := hk.2;omega⟩)
   have HFR := Aside0.mk (show ∀ k,w7.heap.size ≤ k → M ≤ k ∧ ¬ BagOwn b t7 D7 k from fun k hk => ⟨Nat.le_trans MW7.out hk,fun ho => by have := OA7.out.bag.bag.own_lt k ho;omega⟩)
   clear BAD OA6 BC6 NV6 XF6 BCC BB7
   by_cases c2 : q = 0
   ·have d2 : (q == 0) = true := by simp [c2]
    have TE2 := Aside0.mk (show tellD L (nt.take (i + 1)) = Lb ++ [⟨xr,1⟩] by rw [TS.out,TE.out,if_pos c2])
    clear c2
    go_wp2_with (((with_reducible refine gate_builtin (b := .append) (xs := #[.tmp 54,.tmp 58]) rfl ?_);at_builtin;refine Kd.N_append k34 (w0 := w7) M rfl (.tmp 54) (.tmp 58) 22 34 (.agg #[(.slice none 0 0),(.int .i64 0)]) 32 rfl Try.underlying22 info34 rfl (by decide) (by omega) (.slice Ab Lb.length cb) Lb (⟨xr,1⟩ : En) [.slice Ax xr.length cx,.int .i64 1] (fun k => M ≤ k ∧ ¬ BagOwn b t7 D7 k) (fun k => M ≤ k ∧ k < w3.heap.size) rfl rfl (k34_mkF _ _ (⟨xr,1⟩ : En) XK.out XF7.out) HOK.out HFR.out NV7.out (Below.refl _ _) MW7.out (by have := LBL.out;omega) ?_;intro v8 w8 hv _ hg hat;have NV8 := Aside0.mk hv;have GR8 := Aside0.mk hg;have AT8 := Aside0.mk hat;clear hv hg hat))
    have CH8 := Aside0.mk (ch_grown (S := fun k => some k = (Value.slice Ab Lb.length cb).ownBlock) GR8.out (fun k e => e.symm))
    have OA8 := Aside0.mk (OA7.out.keep CH8.out (fun k s ho => by
     have h1 := NV7.out.1 k s.symm
     rcases ho with rfl | q2
     ·have := LTO.out _ (.inl rfl);have := h1.1;omega
     ·exact h1.2 q2))
    have BC8 := Aside0.mk (BC7.out.more CH8.out (fun k s => OVI.out k s.symm))
    have OV8 := Aside0.mk (own_new2 OVI.out (Nat.le_trans BC7.out.ch.size (Nat.le_refl _)) AT8.out)
    go_roundw
    case rel => exact ⟨i + 1,by go_num,hin,⟨⟨t7,D7,DT7.out,OA8.out,BC8.out,by rw [TE2.out];exact NV8.out,OV8.out⟩⟩⟩
    case measure => simp [intOf];omega
   ·have d2 : (q == 0) = false := by simp [c2]
    by_cases c3 : q + xm = 0
    ·have d3 : (q + xm == 0) = true := by simp [c3]
     have TE2 := Aside0.mk (show tellD L (nt.take (i + 1)) = Lb ++ [⟨xr,-1⟩] by rw [TS.out,TE.out,if_neg c2,if_pos c3])
     clear c2 c3
     go_wp2_with (((with_reducible refine gate_builtin (b := .append) (xs := #[.tmp 66,.tmp 70]) rfl ?_);at_builtin;refine Kd.N_append k34 (w0 := w7) M rfl (.tmp 66) (.tmp 70) 22 34 (.agg #[(.slice none 0 0),(.int .i64 0)]) 32 rfl Try.underlying22 info34 rfl (by decide) (by omega) (.slice Ab Lb.length cb) Lb (⟨xr,(-1)⟩ : En) [.slice Ax xr.length cx,.int .i64 (-1)] (fun k => M ≤ k ∧ ¬ BagOwn b t7 D7 k) (fun k => M ≤ k ∧ k < w3.heap.size) rfl rfl (k34_mkF _ _ (⟨xr,(-1)⟩ : En) XK.out XF7.out) HOK.out HFR.out NV7.out (Below.refl _ _) MW7.out (by have := LBL.out;omega) ?_;intro v8 w8 hv _ hg hat;have NV8 := Aside0.mk hv;have GR8 := Aside0.mk hg;have AT8 := Aside0.mk hat;clear hv hg hat))
     have CH8 := Aside0.mk (ch_grown (S := fun k => some k = (Value.slice Ab Lb.length cb).ownBlock) GR8.out (fun k e => e.symm))
     have OA8 := Aside0.mk (OA7.out.keep CH8.out (fun k s ho => by
      have h1 := NV7.out.1 k s.symm
      rcases ho with rfl | q2
      ·have := LTO.out _ (.inl rfl);have := h1.1;omega
      ·exact h1.2 q2))
     have BC8 := Aside0.mk (BC7.out.more CH8.out (fun k s => OVI.out k s.symm))
     have OV8 := Aside0.mk (own_new2 OVI.out (Nat.le_trans BC7.out.ch.size (Nat.le_refl _)) AT8.out)
     go_roundw
     case rel => exact ⟨i + 1,by go_num,hin,⟨⟨t7,D7,DT7.out,OA8.out,BC8.out,by rw [TE2.out];exact NV8.out,OV8.out⟩⟩⟩
     case measure => simp [intOf];omega
    ·have d3 : (q + xm == 0) = false := by simp [c3]
     have TE2 := Aside0.mk (show tellD L (nt.take (i + 1)) = Lb by rw [TS.out,TE.out,if_neg c2,if_neg c3,List.append_nil])
     clear c2 c3
     go_wp2_with (fail)
     go_roundw
     case rel => exact ⟨i + 1,by go_num,hin,⟨⟨t7,D7,DT7.out,OA7.out,BC7.out,by rw [TE2.out];exact NV7.out,OVI.out⟩⟩⟩
     case measure => simp [intOf];omega
  ·have k0 : decide ((i : Int) < (m : Int)) = false := decide_eq_false (by omega)
   have k0' : decide (i < m) = false := decide_eq_false hin
   have TK := Aside0.mk (show nt.take i = nt from List.take_of_length_le (by have := LM.out;omega))
   rw [TK.out] at DTI HLB
   go_wp2_with (fail)
   go_ret2
   exact ⟨_,ti,Di,rfl,DTI.out,OAI.out,(BagCh.same B3.out).trans CHI.out,by rw [HLB.out];exact NVI.out⟩
end Go.Proofs.Ythmbfcfomcaaaaa.Z
end
section
namespace Go.Proofs.Ythmbfcfomcaaaaa.Z
set_option linter.unusedVariables false
set_option linter.unusedSimpArgs false
open Go.RowKit Go.Proofs.YthmbfcfomcaaaaaW.PrintWords Go.Proofs.YthmbfcfomcaaaaaW.PrintLast Go.Proofs.YthmbfcfomcaaaaaW.PrintMore Go.Proofs.Ythmbfcfomcaaaaa.Cmp
end Go.Proofs.Ythmbfcfomcaaaaa.Z
end
section
namespace Go.Proofs.Ythmbfcfomcaaaaa.Z
set_option linter.unusedVariables false
set_option linter.unusedSimpArgs false
open Go.RowKit Go.Proofs.YthmbfcfomcaaaaaW.PrintWords Go.Proofs.YthmbfcfomcaaaaaW.PrintLast Go.Proofs.YthmbfcfomcaaaaaW.PrintMore Go.Proofs.Ythmbfcfomcaaaaa.Cmp
theorem ent_one {w : World} {g c : Nat} {A : Option Addr} {x : En} (h : w.heap[g]? = some (.cells #[.slice A x.f0.length c,.int .i64 x.f1] 34 (0,0))) (hr : RowC w A c x.f0) : Kd.C k34 w (some ⟨g,0,none⟩) 1 [x] :=
 ⟨rfl,by simp,fun _ => ⟨_,rfl,fun j p hj => by
  cases j with
  | succ j => simp at hj
  | zero =>
   simp only [List.getElem?_cons_zero,Option.some.injEq] at hj
   subst hj
   refine ⟨_,rfl,k34_mk w x hr.cap hr.row,fun i u hi => ?_⟩
   rw [Nat.zero_mul,Nat.zero_add,add_plain]
   have h1 := q0e h i
   rw [h1,← hi]
   simp⟩⟩
theorem n_one {w : World} {M : Nat} {ok : Nat → Prop} {v : Value} {x : En} (h : Kd.N k34 34 w M ok v [x]) : ∃ g c,v = .slice (some ⟨g,0,none⟩) 1 c ∧ w.cell? ⟨g,1,none⟩ = some (.int .i64 x.f1) := by
 obtain ⟨g,c,rfl,_⟩ := Kd.N_form h (by simp)
 have hC := (Kd.N_reads' h).2.2
 obtain ⟨ad,A0,c0,e1,h0,h1,_⟩ := ent_get hC (i := 0) (by simp) (x := x) rfl
 injection e1 with e1
 subst e1
 exact ⟨g,c,rfl,by simpa [Addr.add] using h1⟩
theorem ap1 : appD [⟨[knV 1],2⟩] [] = (0,[⟨[knV 1],1⟩],[⟨[knV 1],2⟩]) := by kernel_rfl
theorem ap2 : appD [⟨[knV 1],-1⟩] [⟨[knV 1],2⟩] = (0,[],[⟨[knV 1],1⟩]) := by kernel_rfl
theorem ap3 : appD [⟨[knV 1],-1⟩] [⟨[knV 1],1⟩] = (0,[⟨[knV 1],-1⟩],[]) := by kernel_rfl
theorem apply_one {N : Nat} {o b g c : Nat} {t : Tr} {D : Nat → Prop} {x : En} {L : List En} {A : Option Addr} {w W : World} {q : Int} {T L' : List En} (h : OnceAt N w o b t D) (hd : docT t = L) (hL : OnceD L) (hNM : N ≤ w.heap.size) (hr : RowC w A c x.f0) (hW : w.alloc (.cells #[.slice A x.f0.length c,.int .i64 x.f1] 34) = W) (hg : w.heap.size = g) (ha : appD [x] L = (q,T,L')) :
  Calls Try.prog 50 #[.pointer (some ⟨o,0,none⟩),.slice (some ⟨g,0,none⟩) 1 1] W fun e w' => ∃ v t' D',e = .returned (.tuple #[v,.int .i64 q]) ∧ docT t' = L' ∧ OnceD L' ∧ OnceAt N w' o b t' D' ∧ BagCh w w' b t t' D D' ∧ Kd.N k34 34 w' w.heap.size (fun k => w.heap.size ≤ k ∧ ¬ BagOwn b t' D' k) v T := by
 have BA : Below w.heap.size w W := hW ▸ q0b (Below.refl _ _) _
 have HB : W.heap[g]? = some (.cells #[.slice A x.f0.length c,.int .i64 x.f1] 34 (0,0)) := by rw [← hW,← hg];exact blk_new w _
 have h1 := once_apply (some ⟨g,0,none⟩) 1 1 [x] L W (h.below BA) hd hL (ent_one HB (hr.below BA)) (by omega) (Nat.le_trans hNM BA.size)
 have hl := (app_law (l := [x]) hL).1
 rw [ha] at h1 hl
 refine h1.mono ?_
 rintro e w' ⟨v,t',D',rfl,h2,h3,h4,h5⟩
 exact ⟨v,t',D',rfl,h2,hl,h3,(BagCh.same BA).trans h4,Kd.N_mono (Kd.N_lower h5 BA.size) (fun k hk => ⟨Nat.le_trans BA.size hk.1,hk.2⟩)⟩
set_option maxHeartbeats 4000000 in
set_option maxRecDepth 100000 in
theorem known20_at (w : World) : Calls Try.prog 49 #[] w fun e w' => e = .returned (.bool true) ∧ Below w.heap.size w w' := by
 obtain ⟨N,hN⟩ : ∃ N,w.heap.size = N := ⟨_,rfl⟩
 have I0 := Aside0.mk (NextW.refl w)
 have ON := Aside0.mk (once_new w)
 rw [hN] at I0 ON ⊢
 clear hN
 go_enter Try.func49,Try.ntmps49
 go_wp2_with (fail)
 refine ON.out.mono ?_
 rintro e w1 ⟨o,b,rfl,hA,hb⟩
 have I1 := Aside0.mk (NextW.mk hb (Nat.le_trans hA.o_le (Nat.le_of_lt (q0t hA.blk))))
 have HA := Aside0.mk hA
 clear hA hb I0 ON
 go_upto_region 3 with (fail)
 have B2 : Below w1.heap.size w1 (w1.alloc (Obj.cells #[.int .i64 2,.bool false,.int .i64 1,.string ⟨#[]⟩] 66)) := q0b (Below.refl w1.heap.size w1) _
 have I2 := Aside0.mk (I1.out.next B2)
 have R2 := Aside0.mk (show Lit (w1.alloc (Obj.cells #[.int .i64 2,.bool false,.int .i64 1,.string ⟨#[]⟩] 66)) (BagOwn b .nil fun _ => False) w1.heap.size (knV 1) from ⟨blk_new w1 _,fun ho => absurd (HA.out.bag.bag.own_lt _ ho) (Nat.lt_irrefl _)⟩)
 have HA2 := Aside0.mk (HA.out.below B2)
 obtain ⟨x1,hx1⟩ : ∃ x1,w1.heap.size = x1 := ⟨_,rfl⟩
 rw [hx1] at R2 ⊢
 clear hx1 I1 HA B2
 generalize w1.alloc (Obj.cells #[.int .i64 2,.bool false,.int .i64 1,.string ⟨#[]⟩] 66) = w2 at *
 go_wp2_with (fail)
 refine (apply_one (x := ⟨[knV 1],2⟩) HA2.out rfl once_nil I2.out.le R2.out.row rfl rfl ap1).mono ?_
 rintro e w3 ⟨v3,t3,D3,rfl,hd,hl,hA,hc,hv⟩
 have D3E := Aside0.mk hd
 have L3 := Aside0.mk hl
 have HA3 := Aside0.mk hA
 have R3 := Aside0.mk (R2.out.step hc.off)
 have I3 := Aside0.mk (I2.out.nextN (hc.ch.toBelow I2.out.le (fun k s => HA2.out.bag.own k (s.elim .inl (fun q => .inr (.inl q))))))
 have V3 := Aside0.mk (Kd.N_mono (Kd.N_lower hv (Nat.zero_le _)) (fun k hk => (⟨Nat.zero_le k,hk.2⟩ : 0 ≤ k ∧ ¬ BagOwn b t3 D3 k)))
 clear hd hl hA hc hv HA2 R2 I2
 go_wp2_with (fail)
 refine (apply_one (x := ⟨[knV 1],-1⟩) HA3.out D3E.out L3.out I3.out.le R3.out.row rfl rfl ap2).mono ?_
 rintro e w4 ⟨v4,t4,D4,rfl,hd,hl,hA,hc,hv⟩
 have D4E := Aside0.mk hd
 have L4 := Aside0.mk hl
 have HA4 := Aside0.mk hA
 have R4 := Aside0.mk (R3.out.step hc.off)
 have I4 := Aside0.mk (I3.out.nextN (hc.ch.toBelow I3.out.le (fun k s => HA3.out.bag.own k (s.elim .inl (fun q => .inr (.inl q))))))
 have V4 := Aside0.mk (N_bagged V3.out hc)
 obtain ⟨A4,c4,rfl⟩ := Kd.N_slice hv
 clear hd hl hA hc hv HA3 R3 I3 V3
 go_wp2_with (fail)
 refine (apply_one (x := ⟨[knV 1],-1⟩) HA4.out D4E.out L4.out I4.out.le R4.out.row rfl rfl ap3).mono ?_
 rintro e w5 ⟨v5,t5,D5,rfl,hd,hl,hA,hc,hv⟩
 have I5 := Aside0.mk (I4.out.nextN (hc.ch.toBelow I4.out.le (fun k s => HA4.out.bag.own k (s.elim .inl (fun q => .inr (.inl q))))))
 obtain ⟨g3,c3,e3,z3⟩ := n_one (N_bagged V4.out hc)
 obtain ⟨g5,c5,e5,z5⟩ := n_one hv
 subst e3 e5
 clear hd hl hA hc hv HA4 R4 I4 V4
 go_wp2_with (fail)
 go_ret
 exact ⟨rfl,I5.out.at_⟩
end Go.Proofs.Ythmbfcfomcaaaaa.Z
end
section
namespace Go.Proofs.Ythmbfcfomcaaaaa.Z
set_option linter.unusedVariables false
set_option linter.unusedSimpArgs false
open Go.RowKit Go.Proofs.YthmbfcfomcaaaaaW.PrintWords Go.Proofs.YthmbfcfomcaaaaaW.PrintLast Go.Proofs.YthmbfcfomcaaaaaW.PrintMore Go.Proofs.Ythmbfcfomcaaaaa.Cmp
end Go.Proofs.Ythmbfcfomcaaaaa.Z
end
section
namespace Go.Proofs.Ythmbfcfomcaaaaa.Z
open Go.RowKit Go.Proofs.YthmbfcfomcaaaaaW.PrintWords Go.Proofs.YthmbfcfomcaaaaaW.PrintLast Go.Proofs.YthmbfcfomcaaaaaW.PrintMore
attribute [local go_sem] max2_int min2_int max_two min_two max_three min_three max_four min_four
set_option linter.unusedVariables false
set_option linter.unusedSimpArgs false
def verdererlaw20_few.l0 : Nat → List (S34) → Int → Option (Bool)
 | 0,_,_ => none
 | k + 1,x0,x3 => if x3 < (x0.length : Int) then (if 0 ≤ x3 then (if (((q0s x0 x3).f0).length : Int) > 50 then (some false) else (verdererlaw20_few.l0 k x0 (wrap64 (x3 + 1)))) else (none)) else (some true)
def verdererlaw20_few.f (k : Nat) (l0 : List (S34)) : Option (Bool) := if (l0.length : Int) > 60 then (some false) else (verdererlaw20_few.l0 k l0 0)
theorem verdererlaw20_few.mono_l : ∀ k,(∀ y0 y1,LeO (verdererlaw20_few.l0 k y0 y1) (verdererlaw20_few.l0 (k + 1) y0 y1))
 | 0 => fun _ _ r h => by simp [verdererlaw20_few.l0] at h
 | k + 1 => by
  have ih0 := verdererlaw20_few.mono_l k
  ·intro y0 y1
   unfold verdererlaw20_few.l0
   repeat' first
   | (with_reducible exact ih0 _ _)
   | (with_reducible exact LeO.refl _)
   | (with_reducible exact LeO.none _)
   | (with_reducible refine LeO.ite ?_ ?_)
   | (with_reducible refine LeO.bind ?_ (fun _ => ?_))
   | exact ih0 _ _
   | exact LeO.none _
   | refine LeO.ite ?_ ?_
   | refine LeO.bind ?_ (fun _ => ?_)
theorem verdererlaw20_few.mono : ∀ a0 k,LeO (verdererlaw20_few.f k a0) (verdererlaw20_few.f (k + 1) a0) := by
 intro a0 k
 have ih0 := verdererlaw20_few.mono_l k
 unfold verdererlaw20_few.f
 repeat' first
   | (with_reducible exact ih0 _ _)
   | (with_reducible exact LeO.refl _)
   | (with_reducible exact LeO.none _)
   | (with_reducible refine LeO.ite ?_ ?_)
   | (with_reducible refine LeO.bind ?_ (fun _ => ?_))
   | exact ih0 _ _
   | exact LeO.none _
   | refine LeO.ite ?_ ?_
   | refine LeO.bind ?_ (fun _ => ?_)
set_option maxHeartbeats 8000000 in
set_option maxRecDepth 100000 in
theorem verdererlaw20_few.calls (k : Nat) (A0 : Option Addr) (c0 : Nat) (l0 : List (S34)) (r : Bool) (w : World) (hr0 : Kd.C k34 w A0 l0.length l0) (hc0 : l0.length ≤ c0) (h : verdererlaw20_few.f k l0 = some r) :
  Calls Try.prog 48 #[.slice A0 l0.length c0] w fun e w' => e = .returned (.bool r) ∧ Drawn0 w w' := by
 have HR0 := Aside0.mk hr0
 have HC0 := Aside0.mk hc0
 clear hr0 hc0
 have H : (if (l0.length : Int) > 60 then (some false) else (verdererlaw20_few.l0 k l0 0)) = some r := h
 clear h
 by_cases c2 : (l0.length : Int) > 60
 ·rw [if_pos c2] at H
  have c2b0 : decide (60 < (l0.length : Int)) = true := decide_eq_true c2
  have c2b1 : decide (60 < l0.length) = true := decide_eq_true (by omega)
  clear c2
  obtain rfl := Option.some.inj H
  go_enter Try.func48,Try.ntmps48
  go_wp2
  go_ret
  exact ⟨by first | rfl | (simp;done) | (simp [*];done),by repeat (first | exact Drawn0.refl _ | apply Drawn0.step)⟩
 ·rw [if_neg c2] at H
  have c2b0 : decide (60 < (l0.length : Int)) = false := decide_eq_false c2
  have c2b1 : decide (60 < l0.length) = false := decide_eq_false (by omega)
  clear c2
  have H' := Aside0.mk H
  clear H
  go_enter Try.func48,Try.ntmps48
  go_wp2
  go_loopg [3] k (fun kq v3 w' => ∃ (x3_1 : Int),v3 = .int .i64 x3_1 ∧ Aside0 (verdererlaw20_few.l0 kq l0 x3_1 = some r) ∧ Aside0 (kq ≤ k) ∧ Drawn0 w w')
  case atStart => exact ⟨(0),(by first | rfl | (simp;done) | (simp [*];done)),H',⟨Nat.le_refl _⟩,by repeat (first | exact Drawn0.refl _ | apply Drawn0.step)⟩
  case round =>
   clear H'
   try clear c2
   try clear c2b0
   try clear c2b1
   try clear p2
   obtain ⟨x3_1,rfl,HA,HK1,⟨m1,rfl⟩⟩ := hrel
   cases gk with
   | zero => exact absurd HA.out (by simp [verdererlaw20_few.l0])
   | succ k1 =>
    have H := HA.out
    clear HA
    simp only [verdererlaw20_few.l0] at H
    by_cases c3 : x3_1 < (l0.length : Int)
    ·rw [if_pos c3] at H
     have c3b0 : decide (x3_1 < (l0.length : Int)) = true := decide_eq_true c3
     clear c3
     by_cases c4 : 0 ≤ x3_1
     ·rw [if_pos c4] at H
      have c4b0 : decide (0 ≤ x3_1) = true := decide_eq_true c4
      clear c4
      by_cases c5 : (((q0s l0 x3_1).f0).length : Int) > 50
      ·rw [if_pos c5] at H
       have c5b0 : decide (50 < (((q0s l0 x3_1).f0).length : Int)) = true := decide_eq_true c5
       have c5b1 : decide (50 < ((q0s l0 x3_1).f0).length) = true := decide_eq_true (by omega)
       clear c5
       obtain rfl := Option.some.inj H
       have p235 : 0 ≤ (x3_1 : Int) := of_decide_eq_true (by first | (with_reducible assumption) | assumption)
       have q235 : x3_1 < (l0.length : Int) := of_decide_eq_true (by first | (with_reducible assumption) | assumption)
       obtain ⟨ad235,A235_0,c235_0,e235,hx235_0,hx235_1,hl235_0,hi235_0⟩ := at_T34 HR0.out x3_1 p235 q235
       cases e235
       have HR235_0 := Aside0.mk hi235_0
       have HC235_0 := Aside0.mk hl235_0
       clear hi235_0 hl235_0
       replace p235 := eq_true p235
       replace q235 := eq_true q235
       go_wp2
       go_ret
       exact ⟨by first | rfl | (simp;done) | (simp [*];done),by repeat (first | exact Drawn0.refl _ | apply Drawn0.step)⟩
      ·rw [if_neg c5] at H
       have c5b0 : decide (50 < (((q0s l0 x3_1).f0).length : Int)) = false := decide_eq_false c5
       have c5b1 : decide (50 < ((q0s l0 x3_1).f0).length) = false := decide_eq_false (by omega)
       clear c5
       have H' := Aside0.mk H
       clear H
       have p235 : 0 ≤ (x3_1 : Int) := of_decide_eq_true (by first | (with_reducible assumption) | assumption)
       have q235 : x3_1 < (l0.length : Int) := of_decide_eq_true (by first | (with_reducible assumption) | assumption)
       obtain ⟨ad235,A235_0,c235_0,e235,hx235_0,hx235_1,hl235_0,hi235_0⟩ := at_T34 HR0.out x3_1 p235 q235
       cases e235
       have HR235_0 := Aside0.mk hi235_0
       have HC235_0 := Aside0.mk hl235_0
       clear hi235_0 hl235_0
       replace p235 := eq_true p235
       replace q235 := eq_true q235
       go_wp2
       go_roundg k1
       case measure => have := HK1.out;omega
       case rel => exact ⟨(wrap64 (x3_1 + 1)),(by first | rfl | (simp;done) | (simp [*];done)),H',⟨by have := HK1.out;omega⟩,by repeat (first | exact Drawn0.refl _ | apply Drawn0.step)⟩
     ·rw [if_neg c4] at H
      exact absurd H (by simp)
    ·rw [if_neg c3] at H
     have c3b0 : decide (x3_1 < (l0.length : Int)) = false := decide_eq_false c3
     clear c3
     obtain rfl := Option.some.inj H
     go_wp2
     go_ret
     exact ⟨by first | rfl | (simp;done) | (simp [*];done),by repeat (first | exact Drawn0.refl _ | apply Drawn0.step)⟩
end Go.Proofs.Ythmbfcfomcaaaaa.Z
end
section
namespace Go.Proofs.Ythmbfcfomcaaaaa.Z
set_option linter.unusedVariables false
set_option linter.unusedSimpArgs false
open Go.RowKit Go.Proofs.YthmbfcfomcaaaaaW.PrintWords Go.Proofs.YthmbfcfomcaaaaaW.PrintLast Go.Proofs.YthmbfcfomcaaaaaW.PrintMore Go.Proofs.Ythmbfcfomcaaaaa.Cmp
theorem few20_l0 (l : List En) (hl : l.length ≤ 60) : ∀ d i k,l.length - i = d → i ≤ l.length → d < k → ∃ r,verdererlaw20_few.l0 k l (i : Int) = some r := by
 intro d
 induction d with
 | zero =>
  intro i k hd hi hk
  obtain ⟨k,rfl⟩ : ∃ m,k = m + 1 := ⟨k - 1,by omega⟩
  simp only [verdererlaw20_few.l0]
  rw [if_neg (by omega)]
  exact ⟨_,rfl⟩
 | succ d ih =>
  intro i k hd hi hk
  obtain ⟨k,rfl⟩ : ∃ m,k = m + 1 := ⟨k - 1,by omega⟩
  simp only [verdererlaw20_few.l0]
  rw [if_pos (by omega),if_pos (by omega),show wrap64 ((i : Int) + 1) = ((i + 1 : Nat) : Int) by unfold wrap64;omega]
  split
  ·exact ⟨_,rfl⟩
  ·exact ih (i + 1) k (by omega) (by omega) (by omega)
theorem few20_some (l : List En) : ∃ r,verdererlaw20_few.f 200 l = some r ∧ (r = true → l.length ≤ 60) := by
 unfold verdererlaw20_few.f
 by_cases h : (l.length : Int) > 60
 ·rw [if_pos h];exact ⟨false,rfl,fun h => by cases h⟩
 ·rw [if_neg h]
  obtain ⟨r,hr⟩ := few20_l0 l (by omega) l.length 0 200 (by omega) (by omega) (by omega)
  exact ⟨r,hr,fun _ => by omega⟩
theorem few20_at {l : List En} {r : Bool} (hf : verdererlaw20_few.f 200 l = some r) (A : Option Addr) (c : Nat) (w : World) (h : EnsC w A c l) : Calls Try.prog 48 #[.slice A l.length c] w fun e w' => e = .returned (.bool r) ∧ Below w.heap.size w w' := by
 refine (verdererlaw20_few.calls 200 A c l r w h.row h.cap hf).mono ?_
 rintro e w' ⟨rfl,hd⟩
 exact ⟨rfl,hd.below⟩
set_option maxHeartbeats 2000000 in
set_option maxRecDepth 100000 in
theorem ref_net (A : Option Addr) (n c : Nat) (l : List En) (w : World) (hl : Kd.C k34 w A n l) (hn : n ≤ 1000) (h0 : (ofD l []).1 = 0) :
  Calls Try.prog 52 #[.slice A n c] w fun e w' => ∃ A' c',e = .returned (.tuple #[.slice A' (ofD l []).2.length c',.int .i64 0]) ∧ EnsC w' A' c' (ofD l []).2 ∧ Below w.heap.size w w' := by
 have HO := Aside0.mk (ref_of A n c l w hl hn)
 obtain ⟨⟨q,L⟩,hq⟩ : ∃ x,ofD l [] = x := ⟨_,rfl⟩
 rw [hq] at HO h0 ⊢
 simp only at HO h0 ⊢
 subst h0
 clear hl hq
 go_enter Try.func52,Try.ntmps52
 go_wp2_with (fail)
 refine HO.out.mono ?_
 rintro e w1 ⟨p,q',L',he,rfl,hb,h1,h2⟩
 obtain ⟨rfl,rfl⟩ : 0 = q' ∧ L = L' := by injection he with e1 e2;exact ⟨e1,e2⟩
 obtain ⟨g,A',c',E,rfl,_,_,_,hR⟩ := h2 rfl
 have g0 := (q0e hR.ref.blk 0).trans rfl
 have HC := Aside0.mk (show EnsC w1 A' c' L from ⟨hR.ref.cap,Kd.F_now hR.ref.row⟩)
 have B1 := Aside0.mk hb
 clear he h1 h2 hR hb HO
 go_wp2_with (fail)
 go_ret2
 exact ⟨A',c',rfl,HC.out,B1.out⟩
structure OnceR (N : Nat) (w : World) (o b : Nat) (t : Tr) (D : Nat → Prop) (g : Nat) (A : Option Addr) (c : Nat) (L : List En) (E : Nat → Prop) : Prop where
 once : OnceAt N w o b t D
 ref : RefV w g A c L E
 sep : ∀ k,OnceOwn o b t D k → k ≠ g ∧ ¬ E k
 g_le : N ≤ g
 e_le : ∀ k,E k → N ≤ k
section
variable {N : Nat} {w w1 : World} {o b : Nat} {t t' : Tr} {D D' : Nat → Prop} {g : Nat} {A A' : Option Addr} {c c' : Nat} {L L' : List En} {E E' : Nat → Prop}
theorem OnceR.below (h : OnceR N w o b t D g A c L E) (hb : Below w.heap.size w w1) : OnceR N w1 o b t D g A c L E := ⟨h.once.below hb,h.ref.below hb,h.sep,h.g_le,h.e_le⟩
theorem OnceR.bagged (h : OnceR N w o b t D g A c L E) (ho : OnceAt N w1 o b t' D') (hc : BagCh w w1 b t t' D D') : OnceR N w1 o b t' D' g A c L E := by
 have hg := h.ref.g_lt
 refine ⟨ho,h.ref.keep hc.ch (fun s => (h.sep g (.inr (s.elim .inl (fun q => .inr (.inl q))))).1 rfl) (fun k hk s => (h.sep k (.inr (s.elim .inl (fun q => .inr (.inl q))))).2 hk),fun k hk => ?_,h.g_le,h.e_le⟩
 rcases hk with q | q
 ·exact h.sep k (.inl q)
 ·rcases hc.own k q with q | q
  ·exact h.sep k (.inr q)
  ·exact ⟨by omega,fun he => by have := h.ref.lt k he;omega⟩
theorem OnceR.reffed (h : OnceR N w o b t D g A c L E) (hN : N ≤ w.heap.size) (ha : RefV w1 g A' c' L' E') (hc : RefCh w w1 g E E') : OnceR N w1 o b t D g A' c' L' E' := by
 refine ⟨h.once.keep hc.ch (fun k s hk => (h.sep k hk).1 s),ha,fun k hk => ⟨(h.sep k hk).1,fun he => ?_⟩,h.g_le,fun k hk => ?_⟩
 ·rcases hc.dat k he with q | q
  ·exact (h.sep k hk).2 q
  ·have := h.once.lt k hk;omega
 ·rcases hc.dat k hk with q | q
  ·exact h.e_le k q
  ·omega
end
end Go.Proofs.Ythmbfcfomcaaaaa.Z
end
section
namespace Go.Proofs.Ythmbfcfomcaaaaa.Z
set_option linter.unusedVariables false
set_option linter.unusedSimpArgs false
open Go.RowKit Go.Proofs.YthmbfcfomcaaaaaW.PrintWords Go.Proofs.YthmbfcfomcaaaaaW.PrintLast Go.Proofs.YthmbfcfomcaaaaaW.PrintMore Go.Proofs.Ythmbfcfomcaaaaa.Cmp
theorem known20_end (w : World) (N : Nat) (w0 : World) (h : NextW N w0 w) : Calls Try.prog 49 #[] w fun e w' => e = .returned (.bool true) ∧ Below N w0 w' := by
 refine (known20_at w).mono ?_
 rintro e w' ⟨rfl,hb⟩
 exact ⟨rfl,(h.next hb).at_⟩
end Go.Proofs.Ythmbfcfomcaaaaa.Z
end
section
namespace Go.Proofs.Ythmbfcfomcaaaaa.Z
set_option linter.unusedVariables false
set_option linter.unusedSimpArgs false
open Go.RowKit Go.Proofs.YthmbfcfomcaaaaaW.PrintWords Go.Proofs.YthmbfcfomcaaaaaW.PrintLast Go.Proofs.YthmbfcfomcaaaaaW.PrintMore Go.Proofs.Ythmbfcfomcaaaaa.Cmp
def takeF (cols : List Int) : List En → List En → Int × List En
 | [],acc => (0,acc)
 | e :: es,acc => if (pickF e.f0 cols []).2 = 0 then takeF cols es (acc ++ [⟨(pickF e.f0 cols []).1,e.f1⟩]) else ((pickF e.f0 cols []).2,[])
def takeD (cols : List Int) (l : List En) : Int × List En := if (takeF cols l []).1 = 0 then ((ofD (takeF cols l []).2 []).1,netD (takeF cols l []).2) else ((takeF cols l []).1,[])
theorem takeF_len (cols : List Int) : ∀ l acc : List En,(takeF cols l acc).2.length ≤ acc.length + l.length
 | [],acc => Nat.le_refl _
 | e :: es,acc => by
  simp only [takeF]
  split
  ·have := takeF_len cols es (acc ++ [⟨(pickF e.f0 cols []).1,e.f1⟩])
   rw [List.length_append,List.length_singleton] at this
   simp only [List.length_cons]
   omega
  ·exact Nat.zero_le _
theorem ens_nil (w : World) : EnsC w none 0 [] := ⟨Nat.le_refl 0,⟨rfl,by simp,fun h => absurd h (Nat.lt_irrefl 0)⟩⟩
set_option maxHeartbeats 2000000 in
set_option maxRecDepth 100000 in
theorem ref_net2 (A : Option Addr) (n c : Nat) (l : List En) (w : World) (hl : Kd.C k34 w A n l) (hn : n ≤ 1000) :
  Calls Try.prog 52 #[.slice A n c] w fun e w' => ∃ A' c',e = .returned (.tuple #[.slice A' (netD l).length c',.int .i64 (ofD l []).1]) ∧ EnsC w' A' c' (netD l) ∧ Below w.heap.size w w' := by
 by_cases h0 : (ofD l []).1 = 0
 ·have h := ref_net A n c l w hl hn h0
  unfold netD
  rw [if_pos h0,h0]
  exact h
 ·have HO := Aside0.mk (ref_of A n c l w hl hn)
  unfold netD
  rw [if_neg h0]
  obtain ⟨⟨q,L⟩,hq⟩ : ∃ x,ofD l [] = x := ⟨_,rfl⟩
  rw [hq] at HO h0 ⊢
  simp only at HO h0 ⊢
  have c1 : (q != 0) = true := by simp [h0]
  have H0 := Aside0.mk h0
  clear hl hq h0
  go_enter Try.func52,Try.ntmps52
  go_wp2_with (fail)
  refine HO.out.mono ?_
  rintro e w1 ⟨p,q',L',he,rfl,hb,h1,h2⟩
  obtain ⟨rfl,rfl⟩ : q = q' ∧ L = L' := by injection he with e1 e2;exact ⟨e1,e2⟩
  obtain rfl := h1 H0.out
  have B1 := Aside0.mk hb
  clear he h1 h2 hb HO
  go_wp2_with (fail)
  go_ret2
  exact ⟨_,_,rfl,ens_nil _,B1.out⟩
set_option maxHeartbeats 4000000 in
set_option maxRecDepth 100000 in
theorem take_at (A A1 : Option Addr) (n c c1 : Nat) (l : List En) (cols : List Int) (w : World) (hl : Kd.C k34 w A n l) (hn : n ≤ 1000) (hcl : Kd.C (Kd.int .i64) w A1 cols.length cols) (hc1 : cols.length ≤ c1) (hm : cols.length ≤ 1000) :
  Calls Try.prog 54 #[.slice A n c,.slice A1 cols.length c1] w fun e w' => ∃ A' c',e = .returned (.tuple #[.slice A' (takeD cols l).2.length c',.int .i64 (takeD cols l).1]) ∧ EnsC w' A' c' (takeD cols l).2 ∧ Below w.heap.size w w' := by
 have HL := Aside0.mk hl
 have CL := Aside0.mk hcl
 have CC := Aside0.mk hc1
 have CM := Aside0.mk hm
 have LN := Aside0.mk (show l.length = n from hl.1)
 obtain ⟨N,hN⟩ : ∃ N,w.heap.size = N := ⟨_,rfl⟩
 have I0 := Aside0.mk (NextW.refl w)
 have HN := Aside0.mk hN
 rw [hN] at I0 ⊢
 obtain ⟨⟨fc,fl⟩,hf⟩ : ∃ x,takeF cols l [] = x := ⟨_,rfl⟩
 have FE := Aside0.mk hf
 have FL := Aside0.mk (show fl.length ≤ 1000 by have := takeF_len cols l [];rw [hf,List.length_nil,Nat.zero_add] at this;have := LN.out;simp only at *;omega)
 obtain ⟨⟨rc,rl⟩,hr⟩ : ∃ x,takeD cols l = x := ⟨_,rfl⟩
 have RE := Aside0.mk (show (if fc = 0 then ((ofD fl []).1,netD fl) else (fc,[])) = (rc,rl) by rw [← hr];unfold takeD;rw [hf])
 rw [hr]
 simp only
 clear hl hcl hc1 hm hN hf hr
 go_enter Try.func54,Try.ntmps54
 go_wp2_with (fail)
 go_loopw [6,13] (fun vb iv wr => ∃ (i : Nat) (acc : List En),iv = .int .i64 (i : Int) ∧ i ≤ n ∧ Aside0 (takeF cols (l.drop i) acc = (fc,fl) ∧ acc.length ≤ i) ∧ Aside0 (Kd.N k34 34 wr N (fun _ => True) vb acc) ∧ Aside0 (∀ k,vb.ownBlock = some k → N ≤ k) ∧ Aside0 (NextW N w wr)) (fun _ iv _ => n - (intOf iv).toNat)
 case atStart => exact ⟨0,[],rfl,Nat.zero_le _,⟨FE.out,Nat.le_refl 0⟩,⟨Kd.N_nil _ _ _ _ _⟩,⟨fun k h => by simp [Value.ownBlock] at h⟩,I0⟩
 case round =>
  clear I0
  rename World => wr
  rename Value => vb
  obtain ⟨i,acc,rfl,hi,TF,NV,OV,I4⟩ := hrel
  obtain ⟨Ab,cb,eb⟩ := Kd.N_slice NV.out
  subst eb
  by_cases hin : i < n
  ·have k0 : decide ((i : Int) < (n : Int)) = true := decide_eq_true (by omega)
   have k0' : decide (i < n) = true := decide_eq_true hin
   have p0 : (0 : Int) ≤ (i : Int) := by omega
   have p1 : (i : Int) < (n : Int) := by omega
   obtain ⟨x,hx⟩ : ∃ x,l[i]? = some x := ⟨l[i]'(by have := LN.out;omega),List.getElem?_eq_getElem _⟩
   obtain ⟨ad,Ax,cx,e1,x0,x1,hxc⟩ := ent_get HL.out hin hx
   subst e1
   have XC := Aside0.mk (fun W (hb : Below N w W) => show RowC W Ax cx x.f0 from hxc.below (HN.out ▸ hb))
   have X0 := Aside0.mk (And.intro x0 x1)
   have LD := Aside0.mk (show l.drop i = x :: l.drop (i + 1) by
    have hil : i < l.length := by have := LN.out;omega
    rw [List.drop_eq_getElem_cons hil]
    rw [List.getElem?_eq_getElem hil] at hx
    rw [Option.some.inj hx])
   clear hx hxc
   obtain ⟨xr,xm⟩ := x
   simp only at *
   obtain ⟨⟨pr,pc⟩,hp⟩ : ∃ q,pickF xr cols [] = q := ⟨_,rfl⟩
   have PK := Aside0.mk (show row_Pick.f (cols.length + 1) xr cols = some (pr,pc) by rw [← hp];exact pick_f xr cols (by have := CM.out;omega) _ (by omega))
   have TF2 := Aside0.mk (show (if pc = 0 then takeF cols (l.drop (i + 1)) (acc ++ [⟨pr,xm⟩]) else (pc,[])) = (fc,fl) by
    have := TF.out.1
    rw [LD.out] at this
    simp only [takeF] at this
    rw [hp] at this
    exact this)
   replace x0 := (I4.out.below.cell (HN.out ▸ World.block_lt_of_cell? w _ X0.out.1)).trans X0.out.1
   replace x1 := (I4.out.below.cell (HN.out ▸ World.block_lt_of_cell? w _ X0.out.2)).trans X0.out.2
   clear hp
   go_wp2_with (fail)
   have BA := q0b (Below.refl wr.heap.size wr) (Obj.cells #[.slice Ax xr.length cx,.int .i64 xm] 34)
   have I5 := Aside0.mk (I4.out.next BA)
   have NV5 := Aside0.mk (Kd.N_below NV.out BA)
   have e0 := (q0e (blk_new wr (Obj.cells #[.slice Ax xr.length cx,.int .i64 xm] 34)) 0).trans rfl
   have e1 := (q0e (blk_new wr (Obj.cells #[.slice Ax xr.length cx,.int .i64 xm] 34)) 1).trans rfl
   obtain ⟨g,hg⟩ : ∃ g,wr.heap.size = g := ⟨_,rfl⟩
   rw [hg] at e0 e1 ⊢
   clear BA x0 x1 I4 NV hg
   generalize wr.alloc (Obj.cells #[.slice Ax xr.length cx,.int .i64 xm] 34) = W5 at *
   refine (row_Pick.calls (cols.length + 1) Ax cx xr A1 c1 cols pr pc W5 (XC.out _ I5.out.below).row (XC.out _ I5.out.below).cap (Kd.C_below CL.out (HN.out ▸ I5.out.below)) CC.out PK.out).mono ?_
   rintro e w6 ⟨v6,rfl,hv,hb⟩
   have I6 := Aside0.mk (I5.out.next hb)
   have NV6 := Aside0.mk (Kd.N_below NV5.out hb)
   have OLT := Aside0.mk (Kd.N_lt NV5.out)
   obtain ⟨A6,c6,rfl⟩ := Kd.R_slice hv
   have P6 := Aside0.mk (show pr.length ≤ c6 from (Kd.R_reads' hv).2.1)
   have F6 := Aside0.mk (show Kd.F k66 w6 (fun k => W5.heap.size ≤ k) A6 pr.length pr from Kd.F_mono (Kd.R_F (Kd.R_bound hv)) (fun k hk => hk.2.1))
   replace e0 := (hb.cell (World.block_lt_of_cell? _ _ e0)).trans e0
   replace e1 := (hb.cell (World.block_lt_of_cell? _ _ e1)).trans e1
   clear hv hb I5 NV5
   by_cases hpc : pc = 0
   ·subst hpc
    have TF3 := Aside0.mk (show takeF cols (l.drop (i + 1)) (acc ++ [⟨pr,xm⟩]) = (fc,fl) from TF2.out)
    clear TF2
    go_wp2_with (((with_reducible refine gate_builtin (b := .append) (xs := #[.tmp 27,.tmp 32]) rfl ?_);at_builtin;refine Kd.N_append k34 (w0 := w) N rfl (.tmp 27) (.tmp 32) 22 34 (.agg #[(.slice none 0 0),(.int .i64 0)]) 32 rfl Try.underlying22 info34 rfl (by decide) (by omega) (.slice Ab acc.length cb) acc (⟨pr,xm⟩ : En) [.slice A6 pr.length c6,.int .i64 xm] (fun _ => True) (fun k => W5.heap.size ≤ k) rfl rfl (k34_mkF _ _ (⟨pr,xm⟩ : En) P6.out F6.out) (fun k hk => ⟨trivial,fun e => by have := OLT.out k e.symm;omega⟩) (fun _ _ => trivial) NV6.out I6.out.below I6.out.le (by have := TF.out.2;omega) ?_;intro v2 w7 hv hb3 hg hat;have NV7 := Aside0.mk hv;have I7 := Aside0.mk (NextW.mk hb3 (Nat.le_trans I6.out.le hg.size));have OV7 := Aside0.mk (own_new2 OV.out I6.out.le hat);clear hv hb3 hg hat))
    go_roundw
    case rel => exact ⟨i + 1,acc ++ [⟨pr,xm⟩],by go_num,hin,⟨TF3.out,by have := TF.out.2;rw [List.length_append,List.length_singleton];omega⟩,NV7,OV7,I7⟩
    case measure => simp [intOf];omega
   ·have c0 : (pc != 0) = true := by simp [hpc]
    obtain ⟨rfl,rfl⟩ : pc = rc ∧ [] = rl := by
     have h1 := TF2.out
     rw [if_neg hpc] at h1
     injection h1 with h1 h2
     have h3 := RE.out
     rw [← h1,if_neg hpc] at h3
     injection h3 with h3 h4
     exact ⟨h3,h4⟩
    clear hpc
    go_wp2_with (fail)
    go_ret2
    exact ⟨_,_,rfl,ens_nil _,I6.out.at_⟩
  ·have k0 : decide ((i : Int) < (n : Int)) = false := decide_eq_false (by omega)
   have k0' : decide (i < n) = false := decide_eq_false hin
   obtain ⟨rfl,rfl⟩ : 0 = fc ∧ acc = fl := by
    have := TF.out.1
    rw [List.drop_of_length_le (by have := LN.out;omega)] at this
    injection this with h1 h2
    exact ⟨h1,h2⟩
   obtain ⟨hRc,hRl⟩ : (ofD acc []).1 = rc ∧ netD acc = rl := by
    have h3 := RE.out
    rw [if_pos rfl] at h3
    injection h3 with h3 h4
    exact ⟨h3,h4⟩
   have CB := Aside0.mk (Kd.N_reads' NV.out).2.2
   have NT := Aside0.mk (net_at Ab acc.length cb acc wr CB.out (by have := FL.out;omega))
   rw [hRl,hRc] at NT
   clear RE hRl hRc
   go_wp2_with (fail)
   refine NT.out.mono ?_
   rintro e w6 ⟨v,rfl,hv,hb⟩
   obtain ⟨A6,c6,rfl⟩ := Kd.R_slice hv
   have EC := Aside0.mk (show EnsC w6 A6 c6 rl from ⟨(Kd.R_reads' hv).2.1,(Kd.R_reads' hv).2.2⟩)
   have I6 := Aside0.mk (I4.out.next hb)
   clear hv hb NT
   go_wp2_with (fail)
   go_ret2
   exact ⟨_,_,rfl,EC.out,I6.out.at_⟩
set_option maxHeartbeats 4000000 in
set_option maxRecDepth 100000 in
theorem rtake_at (A A1 : Option Addr) (n c c1 : Nat) (l : List En) (cols : List Int) (w : World) (hl : Kd.C k34 w A n l) (hn : n ≤ 1000) (hcl : Kd.C (Kd.int .i64) w A1 cols.length cols) (hc1 : cols.length ≤ c1) (hm : cols.length ≤ 1000) :
  Calls Try.prog 55 #[.slice A n c,.slice A1 cols.length c1] w fun e w' => ∃ A' c',e = .returned (.tuple #[.slice A' (takeD cols l).2.length c',.int .i64 (takeD cols l).1]) ∧ EnsC w' A' c' (takeD cols l).2 ∧ Below w.heap.size w w' := by
 have HL := Aside0.mk hl
 have CL := Aside0.mk hcl
 have CC := Aside0.mk hc1
 have CM := Aside0.mk hm
 have LN := Aside0.mk (show l.length = n from hl.1)
 obtain ⟨N,hN⟩ : ∃ N,w.heap.size = N := ⟨_,rfl⟩
 have I0 := Aside0.mk (NextW.refl w)
 have HN := Aside0.mk hN
 rw [hN] at I0 ⊢
 obtain ⟨⟨fc,fl⟩,hf⟩ : ∃ x,takeF cols l [] = x := ⟨_,rfl⟩
 have FE := Aside0.mk hf
 have FL := Aside0.mk (show fl.length ≤ 1000 by have := takeF_len cols l [];rw [hf,List.length_nil,Nat.zero_add] at this;have := LN.out;simp only at *;omega)
 obtain ⟨⟨rc,rl⟩,hr⟩ : ∃ x,takeD cols l = x := ⟨_,rfl⟩
 have RE := Aside0.mk (show (if fc = 0 then ((ofD fl []).1,netD fl) else (fc,[])) = (rc,rl) by rw [← hr];unfold takeD;rw [hf])
 rw [hr]
 simp only
 clear hl hcl hc1 hm hN hf hr
 go_enter Try.func55,Try.ntmps55
 go_wp2_with (fail)
 go_loopw [6,7] (fun vb iv wr => ∃ (i : Nat) (acc : List En),iv = .int .i64 (i : Int) ∧ i ≤ n ∧ Aside0 (takeF cols (l.drop i) acc = (fc,fl) ∧ acc.length ≤ i) ∧ Aside0 (Kd.N k34 34 wr N (fun _ => True) vb acc) ∧ Aside0 (∀ k,vb.ownBlock = some k → N ≤ k) ∧ Aside0 (NextW N w wr)) (fun _ iv _ => n - (intOf iv).toNat)
 case atStart => exact ⟨0,[],rfl,Nat.zero_le _,⟨FE.out,Nat.le_refl 0⟩,⟨Kd.N_nil _ _ _ _ _⟩,⟨fun k h => by simp [Value.ownBlock] at h⟩,I0⟩
 case round =>
  clear I0
  rename World => wr
  rename Value => vb
  obtain ⟨i,acc,rfl,hi,TF,NV,OV,I4⟩ := hrel
  obtain ⟨Ab,cb,eb⟩ := Kd.N_slice NV.out
  subst eb
  by_cases hin : i < n
  ·have k0 : decide ((i : Int) < (n : Int)) = true := decide_eq_true (by omega)
   have k0' : decide (i < n) = true := decide_eq_true hin
   have p0 : (0 : Int) ≤ (i : Int) := by omega
   have p1 : (i : Int) < (n : Int) := by omega
   obtain ⟨x,hx⟩ : ∃ x,l[i]? = some x := ⟨l[i]'(by have := LN.out;omega),List.getElem?_eq_getElem _⟩
   obtain ⟨ad,Ax,cx,e1,x0,x1,hxc⟩ := ent_get HL.out hin hx
   subst e1
   have XC := Aside0.mk (fun W (hb : Below N w W) => show RowC W Ax cx x.f0 from hxc.below (HN.out ▸ hb))
   have X0 := Aside0.mk (And.intro x0 x1)
   have LD := Aside0.mk (show l.drop i = x :: l.drop (i + 1) by
    have hil : i < l.length := by have := LN.out;omega
    rw [List.drop_eq_getElem_cons hil]
    rw [List.getElem?_eq_getElem hil] at hx
    rw [Option.some.inj hx])
   clear hx hxc
   obtain ⟨xr,xm⟩ := x
   simp only at *
   obtain ⟨⟨pr,pc⟩,hp⟩ : ∃ q,pickF xr cols [] = q := ⟨_,rfl⟩
   have PK := Aside0.mk (show verdererref02_Pick.f (cols.length + 1) xr cols = some (pr,pc) by rw [← hp];exact pickR_f xr cols (by have := CM.out;omega) _ (by omega))
   have TF2 := Aside0.mk (show (if pc = 0 then takeF cols (l.drop (i + 1)) (acc ++ [⟨pr,xm⟩]) else (pc,[])) = (fc,fl) by
    have := TF.out.1
    rw [LD.out] at this
    simp only [takeF] at this
    rw [hp] at this
    exact this)
   replace x0 := (I4.out.below.cell (HN.out ▸ World.block_lt_of_cell? w _ X0.out.1)).trans X0.out.1
   replace x1 := (I4.out.below.cell (HN.out ▸ World.block_lt_of_cell? w _ X0.out.2)).trans X0.out.2
   clear hp
   go_wp2_with (fail)
   have I5 := I4
   have NV5 := NV
   obtain ⟨W5,hW5⟩ : ∃ W,W = wr := ⟨_,rfl⟩
   subst hW5
   clear I4 NV
   refine (verdererref02_Pick.calls (cols.length + 1) Ax cx xr A1 c1 cols pr pc W5 (XC.out _ I5.out.below).row (XC.out _ I5.out.below).cap (Kd.C_below CL.out (HN.out ▸ I5.out.below)) CC.out PK.out).mono ?_
   rintro e w6 ⟨v6,rfl,hv,hb⟩
   have I6 := Aside0.mk (I5.out.next hb)
   have NV6 := Aside0.mk (Kd.N_below NV5.out hb)
   have OLT := Aside0.mk (Kd.N_lt NV5.out)
   obtain ⟨A6,c6,rfl⟩ := Kd.R_slice hv
   have P6 := Aside0.mk (show pr.length ≤ c6 from (Kd.R_reads' hv).2.1)
   have F6 := Aside0.mk (show Kd.F k66 w6 (fun k => W5.heap.size ≤ k) A6 pr.length pr from Kd.F_mono (Kd.R_F (Kd.R_bound hv)) (fun k hk => hk.2.1))
   replace x0 := (hb.cell (World.block_lt_of_cell? _ _ x0)).trans x0
   replace x1 := (hb.cell (World.block_lt_of_cell? _ _ x1)).trans x1
   clear hv hb I5 NV5
   by_cases hpc : pc = 0
   ·subst hpc
    have TF3 := Aside0.mk (show takeF cols (l.drop (i + 1)) (acc ++ [⟨pr,xm⟩]) = (fc,fl) from TF2.out)
    clear TF2
    go_wp2_with (((with_reducible refine gate_builtin (b := .append) (xs := #[.tmp 29,.tmp 37]) rfl ?_);at_builtin;refine Kd.N_append k34 (w0 := w) N rfl (.tmp 29) (.tmp 37) 22 34 (.agg #[(.slice none 0 0),(.int .i64 0)]) 32 rfl Try.underlying22 info34 rfl (by decide) (by omega) (.slice Ab acc.length cb) acc (⟨pr,xm⟩ : En) [.slice A6 pr.length c6,.int .i64 xm] (fun _ => True) (fun k => W5.heap.size ≤ k) rfl rfl (k34_mkF _ _ (⟨pr,xm⟩ : En) P6.out F6.out) (fun k hk => ⟨trivial,fun e => by have := OLT.out k e.symm;omega⟩) (fun _ _ => trivial) NV6.out I6.out.below I6.out.le (by have := TF.out.2;omega) ?_;intro v2 w7 hv hb3 hg hat;have NV7 := Aside0.mk hv;have I7 := Aside0.mk (NextW.mk hb3 (Nat.le_trans I6.out.le hg.size));have OV7 := Aside0.mk (own_new2 OV.out I6.out.le hat);clear hv hb3 hg hat))
    go_roundw
    case rel => exact ⟨i + 1,acc ++ [⟨pr,xm⟩],by go_num,hin,⟨TF3.out,by have := TF.out.2;rw [List.length_append,List.length_singleton];omega⟩,NV7,OV7,I7⟩
    case measure => simp [intOf];omega
   ·have c0 : (pc != 0) = true := by simp [hpc]
    obtain ⟨rfl,rfl⟩ : pc = rc ∧ [] = rl := by
     have h1 := TF2.out
     rw [if_neg hpc] at h1
     injection h1 with h1 h2
     have h3 := RE.out
     rw [← h1,if_neg hpc] at h3
     injection h3 with h3 h4
     exact ⟨h3,h4⟩
    clear hpc
    go_wp2_with (fail)
    go_ret2
    exact ⟨_,_,rfl,ens_nil _,I6.out.at_⟩
  ·have k0 : decide ((i : Int) < (n : Int)) = false := decide_eq_false (by omega)
   have k0' : decide (i < n) = false := decide_eq_false hin
   obtain ⟨rfl,rfl⟩ : 0 = fc ∧ acc = fl := by
    have := TF.out.1
    rw [List.drop_of_length_le (by have := LN.out;omega)] at this
    injection this with h1 h2
    exact ⟨h1,h2⟩
   obtain ⟨hRc,hRl⟩ : (ofD acc []).1 = rc ∧ netD acc = rl := by
    have h3 := RE.out
    rw [if_pos rfl] at h3
    injection h3 with h3 h4
    exact ⟨h3,h4⟩
   have CB := Aside0.mk (Kd.N_reads' NV.out).2.2
   have NT := Aside0.mk (ref_net2 Ab acc.length cb acc wr CB.out (by have := FL.out;omega))
   rw [hRl,hRc] at NT
   clear RE hRl hRc
   go_wp2_with (fail)
   refine NT.out.mono ?_
   rintro e w6 ⟨A6,c6,rfl,hC,hb⟩
   have EC := Aside0.mk hC
   have I6 := Aside0.mk (I4.out.next hb)
   clear hC hb NT
   go_wp2_with (fail)
   go_ret2
   exact ⟨_,_,rfl,EC.out,I6.out.at_⟩
end Go.Proofs.Ythmbfcfomcaaaaa.Z
end
section
namespace Go.Proofs.Ythmbfcfomcaaaaa.Z
open Go.RowKit Go.Proofs.YthmbfcfomcaaaaaW.PrintWords Go.Proofs.YthmbfcfomcaaaaaW.PrintLast Go.Proofs.YthmbfcfomcaaaaaW.PrintMore
attribute [local go_sem] max2_int min2_int max_two min_two max_three min_three max_four min_four
set_option linter.unusedVariables false
set_option linter.unusedSimpArgs false
def value_Test.f (a0 : Int) (a1_0 : Int) (a1_1 : Bool) (a1_2 : Int) (a1_3 : ByteArray) (a2_0 : Int) (a2_1 : Bool) (a2_2 : Int) (a2_3 : ByteArray) : Option (Bool) := (value_Compare.f a1_0 a1_1 a1_2 a1_3 a2_0 a2_1 a2_2 a2_3).bind fun t193 => (if a0 = 1 then (some (t193 == 0)) else (if a0 = 2 then (some (t193 != 0)) else (if a0 = 4 then (if t193 < 0 then (some true) else (some (t193 == 0))) else (if a0 = 3 then (if t193 < 0 then (some true) else (some false)) else (if a0 = 6 then (if t193 > 0 then (some true) else (some (t193 == 0))) else (if a0 = 5 then (if t193 > 0 then (some true) else (some false)) else (some false)))))))
set_option maxHeartbeats 8000000 in
set_option maxRecDepth 100000 in
theorem value_Test.calls (a0 : Int) (a1_0 : Int) (a1_1 : Bool) (a1_2 : Int) (a1_3 : ByteArray) (a2_0 : Int) (a2_1 : Bool) (a2_2 : Int) (a2_3 : ByteArray) (r : Bool) (w : World) (h : value_Test.f a0 a1_0 a1_1 a1_2 a1_3 a2_0 a2_1 a2_2 a2_3 = some r) :
  Calls Try.prog 118 #[.int .i64 a0,.agg #[.int .i64 a1_0,.bool a1_1,.int .i64 a1_2,.string a1_3],.agg #[.int .i64 a2_0,.bool a2_1,.int .i64 a2_2,.string a2_3]] w fun e w' => e = .returned (.bool r) ∧ Below w.heap.size w w' := by
 have hu66 := Try.underlying66
 have HB := Aside0.mk (Below.refl w.heap.size w)
 have H : ((value_Compare.f a1_0 a1_1 a1_2 a1_3 a2_0 a2_1 a2_2 a2_3).bind fun t193 => (if a0 = 1 then (some (t193 == 0)) else (if a0 = 2 then (some (t193 != 0)) else (if a0 = 4 then (if t193 < 0 then (some true) else (some (t193 == 0))) else (if a0 = 3 then (if t193 < 0 then (some true) else (some false)) else (if a0 = 6 then (if t193 > 0 then (some true) else (some (t193 == 0))) else (if a0 = 5 then (if t193 > 0 then (some true) else (some false)) else (some false)))))))) = some r := h
 clear h
 replace H := Option.bind_eq_some_iff.mp H
 obtain ⟨t193,A40,H⟩ := H
 replace H : (if a0 = 1 then (some (t193 == 0)) else (if a0 = 2 then (some (t193 != 0)) else (if a0 = 4 then (if t193 < 0 then (some true) else (some (t193 == 0))) else (if a0 = 3 then (if t193 < 0 then (some true) else (some false)) else (if a0 = 6 then (if t193 > 0 then (some true) else (some (t193 == 0))) else (if a0 = 5 then (if t193 > 0 then (some true) else (some false)) else (some false))))))) = some r := H
 have A4 := Aside0.mk A40
 clear A40
 by_cases c5 : a0 = 1
 ·rw [if_pos c5] at H
  have c5b0 : (a0 == 1) = true := beq_iff_eq.mpr c5
  have c5b1 : (a0 != 1) = false := bne_eq_false_iff_eq.mpr c5
  clear c5
  obtain rfl := Option.some.inj H
  go_enter Try.func118,Try.ntmps118
  go_wp2_with (first | ((with_reducible refine q0q (N := 4) rfl ?_);refine q0o ?hg (N := 4) ?hd (cs := #[.int .i64 a1_0,.bool a1_1,.int .i64 a1_2,.string a1_3]) (t := 66) ?hr ?_;(case hd => rfl);(case hg => rfl);(case hr => first | (go_simp;done) | (go_simp;rfl));intro gb191 hg w6 hbox hb;have n0_ := Aside0.mk (q0l (by repeat (first | (with_reducible first | exact HB.out | apply q0b | apply q0a | apply q0c) | exact HB.out)) hb);have n1_ := Aside0.mk (hbox);have n2_ := Aside0.mk ((by rw [hg];exact (q0j (by repeat (first | (with_reducible first | exact HB.out | apply q0b | apply q0a | apply q0c) | exact HB.out))) : w.heap.size ≤ gb191));have n3_ := Aside0.mk ((by rw [hg];exact (q0j (by repeat (first | (with_reducible first | exact HB.out | apply q0b | apply q0a | apply q0c) | exact HB.out))) : w.heap.size ≤ gb191));clear HB;have HB := n0_;have BK191 := n1_;have GW191 := n2_;have GE191 := n3_;clear n0_ n1_ n2_ n3_;clear hb hbox hg) | ((with_reducible refine q0q (N := 5) rfl ?_);refine q0o ?hg (N := 5) ?hd (cs := #[.int .i64 a2_0,.bool a2_1,.int .i64 a2_2,.string a2_3]) (t := 66) ?hr ?_;(case hd => rfl);(case hg => rfl);(case hr => first | (go_simp;done) | (go_simp;rfl));intro gb192 hg w7 hbox hb;have n0_ := Aside0.mk (q0p (g := gb191) (o := .cells #[.int .i64 a1_0,.bool a1_1,.int .i64 a1_2,.string a1_3] 66 (0,0)) (by (with_reducible repeat (first | refine q0g ?_ _ | refine q0h ?_ | refine q0f ?_ _));exact BK191.out) hb);have n1_ := Aside0.mk (q0l (by repeat (first | (with_reducible first | exact HB.out | apply q0b | apply q0a | apply q0c | refine q0i ?_ GE191.out) | exact HB.out)) hb);have n2_ := Aside0.mk (hbox);have n3_ := Aside0.mk ((by rw [hg];exact (q0j (by repeat (first | (with_reducible first | exact HB.out | apply q0b | apply q0a | apply q0c | refine q0i ?_ GE191.out) | exact HB.out))) : w.heap.size ≤ gb192));have n4_ := Aside0.mk ((by rw [hg];exact (q0j (by repeat (first | (with_reducible first | exact HB.out | apply q0b | apply q0a | apply q0c | refine q0i ?_ GE191.out) | exact HB.out))) : w.heap.size ≤ gb192));have n5_ := Aside0.mk ((by rw [hg];exact Nat.ne_of_lt (q0t (g := gb191) (o := .cells #[.int .i64 a1_0,.bool a1_1,.int .i64 a1_2,.string a1_3] 66 (0,0)) (by (with_reducible repeat (first | refine q0g ?_ _ | refine q0h ?_ | refine q0f ?_ _));exact BK191.out)) : gb191 ≠ gb192));have n6_ := Aside0.mk ((by rw [hg];exact Nat.ne_of_gt (q0t (g := gb191) (o := .cells #[.int .i64 a1_0,.bool a1_1,.int .i64 a1_2,.string a1_3] 66 (0,0)) (by (with_reducible repeat (first | refine q0g ?_ _ | refine q0h ?_ | refine q0f ?_ _));exact BK191.out)) : gb192 ≠ gb191));clear BK191;clear HB;have BK191 := n0_;have HB := n1_;have BK192 := n2_;have GW192 := n3_;have GE192 := n4_;have NB191_192 := n5_;have NB192_191 := n6_;clear n0_ n1_ n2_ n3_ n4_ n5_ n6_;clear hb hbox hg;have hnb8 := NB191_192.out;have hnc8 := NB192_191.out;have hcz9_0 : w7.cell? ⟨gb191,0,none⟩ = some (.int .i64 a1_0) := (q0e BK191.out 0).trans rfl;have hcz9_1 : w7.cell? ⟨gb191,1,none⟩ = some (.bool a1_1) := (q0e BK191.out 1).trans rfl;have hcz9_2 : w7.cell? ⟨gb191,2,none⟩ = some (.int .i64 a1_2) := (q0e BK191.out 2).trans rfl;have hcz9_3 : w7.cell? ⟨gb191,3,none⟩ = some (.string a1_3) := (q0e BK191.out 3).trans rfl;have hfz9_0 := q0d BK191.out 0;have hfz9_1 := q0d BK191.out 1;have hfz9_2 := q0d BK191.out 2;have hfz9_3 := q0d BK191.out 3;have hcz10_0 : w7.cell? ⟨gb192,0,none⟩ = some (.int .i64 a2_0) := (q0e BK192.out 0).trans rfl;have hcz10_1 : w7.cell? ⟨gb192,1,none⟩ = some (.bool a2_1) := (q0e BK192.out 1).trans rfl;have hcz10_2 : w7.cell? ⟨gb192,2,none⟩ = some (.int .i64 a2_2) := (q0e BK192.out 2).trans rfl;have hcz10_3 : w7.cell? ⟨gb192,3,none⟩ = some (.string a2_3) := (q0e BK192.out 3).trans rfl;have hfz10_0 := q0d BK192.out 0;have hfz10_1 := q0d BK192.out 1;have hfz10_2 := q0d BK192.out 2;have hfz10_3 := q0d BK192.out 3) | ((with_reducible refine q0v (f := 111) rfl ?_);refine goesL_ (some 11) rfl rfl Try.func111 (by kernel_rfl) rfl #[.agg #[.int .i64 a1_0,.bool a1_1,.int .i64 a1_2,.string a1_3],.agg #[.int .i64 a2_0,.bool a2_1,.int .i64 a2_2,.string a2_3]] rfl (by (try simp only [List.map_toArray,List.map_cons,List.map_nil]);first | done | rfl | (simp only [List.length_drop,List.length_take];rfl)) ?_;(with_reducible refine (value_Compare.calls a1_0 a1_1 a1_2 a1_3 a2_0 a2_1 a2_2 a2_3 t193 _ A4.out).mono ?_);rintro e w11 ⟨rfl,hb⟩;refine ⟨_,rfl,?_⟩;have n0_ := Aside0.mk (q0p (g := gb191) (o := .cells #[.int .i64 a1_0,.bool a1_1,.int .i64 a1_2,.string a1_3] 66 (0,0)) (by (with_reducible repeat (first | refine q0g ?_ _ | refine q0h ?_ | refine q0f ?_ _));exact BK191.out) hb);have n1_ := Aside0.mk (q0p (g := gb192) (o := .cells #[.int .i64 a2_0,.bool a2_1,.int .i64 a2_2,.string a2_3] 66 (0,0)) (by (with_reducible repeat (first | refine q0g ?_ _ | refine q0h ?_ | refine q0f ?_ _));exact BK192.out) hb);have n2_ := Aside0.mk (q0l (by repeat (first | (with_reducible first | exact HB.out | apply q0b | apply q0a | apply q0c | refine q0i ?_ GE191.out | refine q0i ?_ GE192.out) | exact HB.out)) hb);clear BK191;clear BK192;clear HB;have BK191 := n0_;have BK192 := n1_;have HB := n2_;clear n0_ n1_ n2_;(try clear hb);(try clear hb2);(try clear hk);(try clear hi)))
  go_ret
  exact ⟨by first | rfl | (simp [q0m,q0n] <;> rfl) | (simp [*,q0m,q0n] <;> rfl),by repeat (first | (with_reducible first | exact HB.out | apply q0b | apply q0a | apply q0c | refine q0i ?_ GE191.out | refine q0i ?_ GE192.out) | exact HB.out)⟩
 ·rw [if_neg c5] at H
  have c5b0 : (a0 == 1) = false := beq_eq_false_iff_ne.mpr c5
  have c5b1 : (a0 != 1) = true := bne_iff_ne.mpr c5
  by_cases c12 : a0 = 2
  ·rw [if_pos c12] at H
   have c12b0 : (a0 == 2) = true := beq_iff_eq.mpr c12
   have c12b1 : (a0 != 2) = false := bne_eq_false_iff_eq.mpr c12
   clear c12
   obtain rfl := Option.some.inj H
   go_enter Try.func118,Try.ntmps118
   go_wp2_with (first | ((with_reducible refine q0q (N := 4) rfl ?_);refine q0o ?hg (N := 4) ?hd (cs := #[.int .i64 a1_0,.bool a1_1,.int .i64 a1_2,.string a1_3]) (t := 66) ?hr ?_;(case hd => rfl);(case hg => rfl);(case hr => first | (go_simp;done) | (go_simp;rfl));intro gb191 hg w13 hbox hb;have n0_ := Aside0.mk (q0l (by repeat (first | (with_reducible first | exact HB.out | apply q0b | apply q0a | apply q0c) | exact HB.out)) hb);have n1_ := Aside0.mk (hbox);have n2_ := Aside0.mk ((by rw [hg];exact (q0j (by repeat (first | (with_reducible first | exact HB.out | apply q0b | apply q0a | apply q0c) | exact HB.out))) : w.heap.size ≤ gb191));have n3_ := Aside0.mk ((by rw [hg];exact (q0j (by repeat (first | (with_reducible first | exact HB.out | apply q0b | apply q0a | apply q0c) | exact HB.out))) : w.heap.size ≤ gb191));clear HB;have HB := n0_;have BK191 := n1_;have GW191 := n2_;have GE191 := n3_;clear n0_ n1_ n2_ n3_;clear hb hbox hg) | ((with_reducible refine q0q (N := 5) rfl ?_);refine q0o ?hg (N := 5) ?hd (cs := #[.int .i64 a2_0,.bool a2_1,.int .i64 a2_2,.string a2_3]) (t := 66) ?hr ?_;(case hd => rfl);(case hg => rfl);(case hr => first | (go_simp;done) | (go_simp;rfl));intro gb192 hg w14 hbox hb;have n0_ := Aside0.mk (q0p (g := gb191) (o := .cells #[.int .i64 a1_0,.bool a1_1,.int .i64 a1_2,.string a1_3] 66 (0,0)) (by (with_reducible repeat (first | refine q0g ?_ _ | refine q0h ?_ | refine q0f ?_ _));exact BK191.out) hb);have n1_ := Aside0.mk (q0l (by repeat (first | (with_reducible first | exact HB.out | apply q0b | apply q0a | apply q0c | refine q0i ?_ GE191.out) | exact HB.out)) hb);have n2_ := Aside0.mk (hbox);have n3_ := Aside0.mk ((by rw [hg];exact (q0j (by repeat (first | (with_reducible first | exact HB.out | apply q0b | apply q0a | apply q0c | refine q0i ?_ GE191.out) | exact HB.out))) : w.heap.size ≤ gb192));have n4_ := Aside0.mk ((by rw [hg];exact (q0j (by repeat (first | (with_reducible first | exact HB.out | apply q0b | apply q0a | apply q0c | refine q0i ?_ GE191.out) | exact HB.out))) : w.heap.size ≤ gb192));have n5_ := Aside0.mk ((by rw [hg];exact Nat.ne_of_lt (q0t (g := gb191) (o := .cells #[.int .i64 a1_0,.bool a1_1,.int .i64 a1_2,.string a1_3] 66 (0,0)) (by (with_reducible repeat (first | refine q0g ?_ _ | refine q0h ?_ | refine q0f ?_ _));exact BK191.out)) : gb191 ≠ gb192));have n6_ := Aside0.mk ((by rw [hg];exact Nat.ne_of_gt (q0t (g := gb191) (o := .cells #[.int .i64 a1_0,.bool a1_1,.int .i64 a1_2,.string a1_3] 66 (0,0)) (by (with_reducible repeat (first | refine q0g ?_ _ | refine q0h ?_ | refine q0f ?_ _));exact BK191.out)) : gb192 ≠ gb191));clear BK191;clear HB;have BK191 := n0_;have HB := n1_;have BK192 := n2_;have GW192 := n3_;have GE192 := n4_;have NB191_192 := n5_;have NB192_191 := n6_;clear n0_ n1_ n2_ n3_ n4_ n5_ n6_;clear hb hbox hg;have hnb15 := NB191_192.out;have hnc15 := NB192_191.out;have hcz16_0 : w14.cell? ⟨gb191,0,none⟩ = some (.int .i64 a1_0) := (q0e BK191.out 0).trans rfl;have hcz16_1 : w14.cell? ⟨gb191,1,none⟩ = some (.bool a1_1) := (q0e BK191.out 1).trans rfl;have hcz16_2 : w14.cell? ⟨gb191,2,none⟩ = some (.int .i64 a1_2) := (q0e BK191.out 2).trans rfl;have hcz16_3 : w14.cell? ⟨gb191,3,none⟩ = some (.string a1_3) := (q0e BK191.out 3).trans rfl;have hfz16_0 := q0d BK191.out 0;have hfz16_1 := q0d BK191.out 1;have hfz16_2 := q0d BK191.out 2;have hfz16_3 := q0d BK191.out 3;have hcz17_0 : w14.cell? ⟨gb192,0,none⟩ = some (.int .i64 a2_0) := (q0e BK192.out 0).trans rfl;have hcz17_1 : w14.cell? ⟨gb192,1,none⟩ = some (.bool a2_1) := (q0e BK192.out 1).trans rfl;have hcz17_2 : w14.cell? ⟨gb192,2,none⟩ = some (.int .i64 a2_2) := (q0e BK192.out 2).trans rfl;have hcz17_3 : w14.cell? ⟨gb192,3,none⟩ = some (.string a2_3) := (q0e BK192.out 3).trans rfl;have hfz17_0 := q0d BK192.out 0;have hfz17_1 := q0d BK192.out 1;have hfz17_2 := q0d BK192.out 2;have hfz17_3 := q0d BK192.out 3) | ((with_reducible refine q0v (f := 111) rfl ?_);refine goesL_ (some 11) rfl rfl Try.func111 (by kernel_rfl) rfl #[.agg #[.int .i64 a1_0,.bool a1_1,.int .i64 a1_2,.string a1_3],.agg #[.int .i64 a2_0,.bool a2_1,.int .i64 a2_2,.string a2_3]] rfl (by (try simp only [List.map_toArray,List.map_cons,List.map_nil]);first | done | rfl | (simp only [List.length_drop,List.length_take];rfl)) ?_;(with_reducible refine (value_Compare.calls a1_0 a1_1 a1_2 a1_3 a2_0 a2_1 a2_2 a2_3 t193 _ A4.out).mono ?_);rintro e w18 ⟨rfl,hb⟩;refine ⟨_,rfl,?_⟩;have n0_ := Aside0.mk (q0p (g := gb191) (o := .cells #[.int .i64 a1_0,.bool a1_1,.int .i64 a1_2,.string a1_3] 66 (0,0)) (by (with_reducible repeat (first | refine q0g ?_ _ | refine q0h ?_ | refine q0f ?_ _));exact BK191.out) hb);have n1_ := Aside0.mk (q0p (g := gb192) (o := .cells #[.int .i64 a2_0,.bool a2_1,.int .i64 a2_2,.string a2_3] 66 (0,0)) (by (with_reducible repeat (first | refine q0g ?_ _ | refine q0h ?_ | refine q0f ?_ _));exact BK192.out) hb);have n2_ := Aside0.mk (q0l (by repeat (first | (with_reducible first | exact HB.out | apply q0b | apply q0a | apply q0c | refine q0i ?_ GE191.out | refine q0i ?_ GE192.out) | exact HB.out)) hb);clear BK191;clear BK192;clear HB;have BK191 := n0_;have BK192 := n1_;have HB := n2_;clear n0_ n1_ n2_;(try clear hb);(try clear hb2);(try clear hk);(try clear hi)))
   go_ret
   exact ⟨by first | rfl | (simp [q0m,q0n] <;> rfl) | (simp [*,q0m,q0n] <;> rfl),by repeat (first | (with_reducible first | exact HB.out | apply q0b | apply q0a | apply q0c | refine q0i ?_ GE191.out | refine q0i ?_ GE192.out) | exact HB.out)⟩
  ·rw [if_neg c12] at H
   have c12b0 : (a0 == 2) = false := beq_eq_false_iff_ne.mpr c12
   have c12b1 : (a0 != 2) = true := bne_iff_ne.mpr c12
   by_cases c19 : a0 = 4
   ·rw [if_pos c19] at H
    have c19b0 : (a0 == 4) = true := beq_iff_eq.mpr c19
    have c19b1 : (a0 != 4) = false := bne_eq_false_iff_eq.mpr c19
    clear c19
    by_cases c20 : t193 < 0
    ·rw [if_pos c20] at H
     have c20b0 : decide (t193 < 0) = true := decide_eq_true c20
     clear c20
     obtain rfl := Option.some.inj H
     go_enter Try.func118,Try.ntmps118
     go_wp2_with (first | ((with_reducible refine q0q (N := 4) rfl ?_);refine q0o ?hg (N := 4) ?hd (cs := #[.int .i64 a1_0,.bool a1_1,.int .i64 a1_2,.string a1_3]) (t := 66) ?hr ?_;(case hd => rfl);(case hg => rfl);(case hr => first | (go_simp;done) | (go_simp;rfl));intro gb191 hg w21 hbox hb;have n0_ := Aside0.mk (q0l (by repeat (first | (with_reducible first | exact HB.out | apply q0b | apply q0a | apply q0c) | exact HB.out)) hb);have n1_ := Aside0.mk (hbox);have n2_ := Aside0.mk ((by rw [hg];exact (q0j (by repeat (first | (with_reducible first | exact HB.out | apply q0b | apply q0a | apply q0c) | exact HB.out))) : w.heap.size ≤ gb191));have n3_ := Aside0.mk ((by rw [hg];exact (q0j (by repeat (first | (with_reducible first | exact HB.out | apply q0b | apply q0a | apply q0c) | exact HB.out))) : w.heap.size ≤ gb191));clear HB;have HB := n0_;have BK191 := n1_;have GW191 := n2_;have GE191 := n3_;clear n0_ n1_ n2_ n3_;clear hb hbox hg) | ((with_reducible refine q0q (N := 5) rfl ?_);refine q0o ?hg (N := 5) ?hd (cs := #[.int .i64 a2_0,.bool a2_1,.int .i64 a2_2,.string a2_3]) (t := 66) ?hr ?_;(case hd => rfl);(case hg => rfl);(case hr => first | (go_simp;done) | (go_simp;rfl));intro gb192 hg w22 hbox hb;have n0_ := Aside0.mk (q0p (g := gb191) (o := .cells #[.int .i64 a1_0,.bool a1_1,.int .i64 a1_2,.string a1_3] 66 (0,0)) (by (with_reducible repeat (first | refine q0g ?_ _ | refine q0h ?_ | refine q0f ?_ _));exact BK191.out) hb);have n1_ := Aside0.mk (q0l (by repeat (first | (with_reducible first | exact HB.out | apply q0b | apply q0a | apply q0c | refine q0i ?_ GE191.out) | exact HB.out)) hb);have n2_ := Aside0.mk (hbox);have n3_ := Aside0.mk ((by rw [hg];exact (q0j (by repeat (first | (with_reducible first | exact HB.out | apply q0b | apply q0a | apply q0c | refine q0i ?_ GE191.out) | exact HB.out))) : w.heap.size ≤ gb192));have n4_ := Aside0.mk ((by rw [hg];exact (q0j (by repeat (first | (with_reducible first | exact HB.out | apply q0b | apply q0a | apply q0c | refine q0i ?_ GE191.out) | exact HB.out))) : w.heap.size ≤ gb192));have n5_ := Aside0.mk ((by rw [hg];exact Nat.ne_of_lt (q0t (g := gb191) (o := .cells #[.int .i64 a1_0,.bool a1_1,.int .i64 a1_2,.string a1_3] 66 (0,0)) (by (with_reducible repeat (first | refine q0g ?_ _ | refine q0h ?_ | refine q0f ?_ _));exact BK191.out)) : gb191 ≠ gb192));have n6_ := Aside0.mk ((by rw [hg];exact Nat.ne_of_gt (q0t (g := gb191) (o := .cells #[.int .i64 a1_0,.bool a1_1,.int .i64 a1_2,.string a1_3] 66 (0,0)) (by (with_reducible repeat (first | refine q0g ?_ _ | refine q0h ?_ | refine q0f ?_ _));exact BK191.out)) : gb192 ≠ gb191));clear BK191;clear HB;have BK191 := n0_;have HB := n1_;have BK192 := n2_;have GW192 := n3_;have GE192 := n4_;have NB191_192 := n5_;have NB192_191 := n6_;clear n0_ n1_ n2_ n3_ n4_ n5_ n6_;clear hb hbox hg;have hnb23 := NB191_192.out;have hnc23 := NB192_191.out;have hcz24_0 : w22.cell? ⟨gb191,0,none⟩ = some (.int .i64 a1_0) := (q0e BK191.out 0).trans rfl;have hcz24_1 : w22.cell? ⟨gb191,1,none⟩ = some (.bool a1_1) := (q0e BK191.out 1).trans rfl;have hcz24_2 : w22.cell? ⟨gb191,2,none⟩ = some (.int .i64 a1_2) := (q0e BK191.out 2).trans rfl;have hcz24_3 : w22.cell? ⟨gb191,3,none⟩ = some (.string a1_3) := (q0e BK191.out 3).trans rfl;have hfz24_0 := q0d BK191.out 0;have hfz24_1 := q0d BK191.out 1;have hfz24_2 := q0d BK191.out 2;have hfz24_3 := q0d BK191.out 3;have hcz25_0 : w22.cell? ⟨gb192,0,none⟩ = some (.int .i64 a2_0) := (q0e BK192.out 0).trans rfl;have hcz25_1 : w22.cell? ⟨gb192,1,none⟩ = some (.bool a2_1) := (q0e BK192.out 1).trans rfl;have hcz25_2 : w22.cell? ⟨gb192,2,none⟩ = some (.int .i64 a2_2) := (q0e BK192.out 2).trans rfl;have hcz25_3 : w22.cell? ⟨gb192,3,none⟩ = some (.string a2_3) := (q0e BK192.out 3).trans rfl;have hfz25_0 := q0d BK192.out 0;have hfz25_1 := q0d BK192.out 1;have hfz25_2 := q0d BK192.out 2;have hfz25_3 := q0d BK192.out 3) | ((with_reducible refine q0v (f := 111) rfl ?_);refine goesL_ (some 11) rfl rfl Try.func111 (by kernel_rfl) rfl #[.agg #[.int .i64 a1_0,.bool a1_1,.int .i64 a1_2,.string a1_3],.agg #[.int .i64 a2_0,.bool a2_1,.int .i64 a2_2,.string a2_3]] rfl (by (try simp only [List.map_toArray,List.map_cons,List.map_nil]);first | done | rfl | (simp only [List.length_drop,List.length_take];rfl)) ?_;(with_reducible refine (value_Compare.calls a1_0 a1_1 a1_2 a1_3 a2_0 a2_1 a2_2 a2_3 t193 _ A4.out).mono ?_);rintro e w26 ⟨rfl,hb⟩;refine ⟨_,rfl,?_⟩;have n0_ := Aside0.mk (q0p (g := gb191) (o := .cells #[.int .i64 a1_0,.bool a1_1,.int .i64 a1_2,.string a1_3] 66 (0,0)) (by (with_reducible repeat (first | refine q0g ?_ _ | refine q0h ?_ | refine q0f ?_ _));exact BK191.out) hb);have n1_ := Aside0.mk (q0p (g := gb192) (o := .cells #[.int .i64 a2_0,.bool a2_1,.int .i64 a2_2,.string a2_3] 66 (0,0)) (by (with_reducible repeat (first | refine q0g ?_ _ | refine q0h ?_ | refine q0f ?_ _));exact BK192.out) hb);have n2_ := Aside0.mk (q0l (by repeat (first | (with_reducible first | exact HB.out | apply q0b | apply q0a | apply q0c | refine q0i ?_ GE191.out | refine q0i ?_ GE192.out) | exact HB.out)) hb);clear BK191;clear BK192;clear HB;have BK191 := n0_;have BK192 := n1_;have HB := n2_;clear n0_ n1_ n2_;(try clear hb);(try clear hb2);(try clear hk);(try clear hi)))
     go_ret
     exact ⟨by first | rfl | (simp [q0m,q0n] <;> rfl) | (simp [*,q0m,q0n] <;> rfl),by repeat (first | (with_reducible first | exact HB.out | apply q0b | apply q0a | apply q0c | refine q0i ?_ GE191.out | refine q0i ?_ GE192.out) | exact HB.out)⟩
    ·rw [if_neg c20] at H
     have c20b0 : decide (t193 < 0) = false := decide_eq_false c20
     clear c20
     obtain rfl := Option.some.inj H
     go_enter Try.func118,Try.ntmps118
     go_wp2_with (first | ((with_reducible refine q0q (N := 4) rfl ?_);refine q0o ?hg (N := 4) ?hd (cs := #[.int .i64 a1_0,.bool a1_1,.int .i64 a1_2,.string a1_3]) (t := 66) ?hr ?_;(case hd => rfl);(case hg => rfl);(case hr => first | (go_simp;done) | (go_simp;rfl));intro gb191 hg w27 hbox hb;have n0_ := Aside0.mk (q0l (by repeat (first | (with_reducible first | exact HB.out | apply q0b | apply q0a | apply q0c) | exact HB.out)) hb);have n1_ := Aside0.mk (hbox);have n2_ := Aside0.mk ((by rw [hg];exact (q0j (by repeat (first | (with_reducible first | exact HB.out | apply q0b | apply q0a | apply q0c) | exact HB.out))) : w.heap.size ≤ gb191));have n3_ := Aside0.mk ((by rw [hg];exact (q0j (by repeat (first | (with_reducible first | exact HB.out | apply q0b | apply q0a | apply q0c) | exact HB.out))) : w.heap.size ≤ gb191));clear HB;have HB := n0_;have BK191 := n1_;have GW191 := n2_;have GE191 := n3_;clear n0_ n1_ n2_ n3_;clear hb hbox hg) | ((with_reducible refine q0q (N := 5) rfl ?_);refine q0o ?hg (N := 5) ?hd (cs := #[.int .i64 a2_0,.bool a2_1,.int .i64 a2_2,.string a2_3]) (t := 66) ?hr ?_;(case hd => rfl);(case hg => rfl);(case hr => first | (go_simp;done) | (go_simp;rfl));intro gb192 hg w28 hbox hb;have n0_ := Aside0.mk (q0p (g := gb191) (o := .cells #[.int .i64 a1_0,.bool a1_1,.int .i64 a1_2,.string a1_3] 66 (0,0)) (by (with_reducible repeat (first | refine q0g ?_ _ | refine q0h ?_ | refine q0f ?_ _));exact BK191.out) hb);have n1_ := Aside0.mk (q0l (by repeat (first | (with_reducible first | exact HB.out | apply q0b | apply q0a | apply q0c | refine q0i ?_ GE191.out) | exact HB.out)) hb);have n2_ := Aside0.mk (hbox);have n3_ := Aside0.mk ((by rw [hg];exact (q0j (by repeat (first | (with_reducible first | exact HB.out | apply q0b | apply q0a | apply q0c | refine q0i ?_ GE191.out) | exact HB.out))) : w.heap.size ≤ gb192));have n4_ := Aside0.mk ((by rw [hg];exact (q0j (by repeat (first | (with_reducible first | exact HB.out | apply q0b | apply q0a | apply q0c | refine q0i ?_ GE191.out) | exact HB.out))) : w.heap.size ≤ gb192));have n5_ := Aside0.mk ((by rw [hg];exact Nat.ne_of_lt (q0t (g := gb191) (o := .cells #[.int .i64 a1_0,.bool a1_1,.int .i64 a1_2,.string a1_3] 66 (0,0)) (by (with_reducible repeat (first | refine q0g ?_ _ | refine q0h ?_ | refine q0f ?_ _));exact BK191.out)) : gb191 ≠ gb192));have n6_ := Aside0.mk ((by rw [hg];exact Nat.ne_of_gt (q0t (g := gb191) (o := .cells #[.int .i64 a1_0,.bool a1_1,.int .i64 a1_2,.string a1_3] 66 (0,0)) (by (with_reducible repeat (first | refine q0g ?_ _ | refine q0h ?_ | refine q0f ?_ _));exact BK191.out)) : gb192 ≠ gb191));clear BK191;clear HB;have BK191 := n0_;have HB := n1_;have BK192 := n2_;have GW192 := n3_;have GE192 := n4_;have NB191_192 := n5_;have NB192_191 := n6_;clear n0_ n1_ n2_ n3_ n4_ n5_ n6_;clear hb hbox hg;have hnb29 := NB191_192.out;have hnc29 := NB192_191.out;have hcz30_0 : w28.cell? ⟨gb191,0,none⟩ = some (.int .i64 a1_0) := (q0e BK191.out 0).trans rfl;have hcz30_1 : w28.cell? ⟨gb191,1,none⟩ = some (.bool a1_1) := (q0e BK191.out 1).trans rfl;have hcz30_2 : w28.cell? ⟨gb191,2,none⟩ = some (.int .i64 a1_2) := (q0e BK191.out 2).trans rfl;have hcz30_3 : w28.cell? ⟨gb191,3,none⟩ = some (.string a1_3) := (q0e BK191.out 3).trans rfl;have hfz30_0 := q0d BK191.out 0;have hfz30_1 := q0d BK191.out 1;have hfz30_2 := q0d BK191.out 2;have hfz30_3 := q0d BK191.out 3;have hcz31_0 : w28.cell? ⟨gb192,0,none⟩ = some (.int .i64 a2_0) := (q0e BK192.out 0).trans rfl;have hcz31_1 : w28.cell? ⟨gb192,1,none⟩ = some (.bool a2_1) := (q0e BK192.out 1).trans rfl;have hcz31_2 : w28.cell? ⟨gb192,2,none⟩ = some (.int .i64 a2_2) := (q0e BK192.out 2).trans rfl;have hcz31_3 : w28.cell? ⟨gb192,3,none⟩ = some (.string a2_3) := (q0e BK192.out 3).trans rfl;have hfz31_0 := q0d BK192.out 0;have hfz31_1 := q0d BK192.out 1;have hfz31_2 := q0d BK192.out 2;have hfz31_3 := q0d BK192.out 3) | ((with_reducible refine q0v (f := 111) rfl ?_);refine goesL_ (some 11) rfl rfl Try.func111 (by kernel_rfl) rfl #[.agg #[.int .i64 a1_0,.bool a1_1,.int .i64 a1_2,.string a1_3],.agg #[.int .i64 a2_0,.bool a2_1,.int .i64 a2_2,.string a2_3]] rfl (by (try simp only [List.map_toArray,List.map_cons,List.map_nil]);first | done | rfl | (simp only [List.length_drop,List.length_take];rfl)) ?_;(with_reducible refine (value_Compare.calls a1_0 a1_1 a1_2 a1_3 a2_0 a2_1 a2_2 a2_3 t193 _ A4.out).mono ?_);rintro e w32 ⟨rfl,hb⟩;refine ⟨_,rfl,?_⟩;have n0_ := Aside0.mk (q0p (g := gb191) (o := .cells #[.int .i64 a1_0,.bool a1_1,.int .i64 a1_2,.string a1_3] 66 (0,0)) (by (with_reducible repeat (first | refine q0g ?_ _ | refine q0h ?_ | refine q0f ?_ _));exact BK191.out) hb);have n1_ := Aside0.mk (q0p (g := gb192) (o := .cells #[.int .i64 a2_0,.bool a2_1,.int .i64 a2_2,.string a2_3] 66 (0,0)) (by (with_reducible repeat (first | refine q0g ?_ _ | refine q0h ?_ | refine q0f ?_ _));exact BK192.out) hb);have n2_ := Aside0.mk (q0l (by repeat (first | (with_reducible first | exact HB.out | apply q0b | apply q0a | apply q0c | refine q0i ?_ GE191.out | refine q0i ?_ GE192.out) | exact HB.out)) hb);clear BK191;clear BK192;clear HB;have BK191 := n0_;have BK192 := n1_;have HB := n2_;clear n0_ n1_ n2_;(try clear hb);(try clear hb2);(try clear hk);(try clear hi)))
     go_ret
     exact ⟨by first | rfl | (simp [q0m,q0n] <;> rfl) | (simp [*,q0m,q0n] <;> rfl),by repeat (first | (with_reducible first | exact HB.out | apply q0b | apply q0a | apply q0c | refine q0i ?_ GE191.out | refine q0i ?_ GE192.out) | exact HB.out)⟩
   ·rw [if_neg c19] at H
    have c19b0 : (a0 == 4) = false := beq_eq_false_iff_ne.mpr c19
    have c19b1 : (a0 != 4) = true := bne_iff_ne.mpr c19
    by_cases c33 : a0 = 3
    ·rw [if_pos c33] at H
     have c33b0 : (a0 == 3) = true := beq_iff_eq.mpr c33
     have c33b1 : (a0 != 3) = false := bne_eq_false_iff_eq.mpr c33
     clear c33
     by_cases c34 : t193 < 0
     ·rw [if_pos c34] at H
      have c34b0 : decide (t193 < 0) = true := decide_eq_true c34
      clear c34
      obtain rfl := Option.some.inj H
      go_enter Try.func118,Try.ntmps118
      go_wp2_with (first | ((with_reducible refine q0q (N := 4) rfl ?_);refine q0o ?hg (N := 4) ?hd (cs := #[.int .i64 a1_0,.bool a1_1,.int .i64 a1_2,.string a1_3]) (t := 66) ?hr ?_;(case hd => rfl);(case hg => rfl);(case hr => first | (go_simp;done) | (go_simp;rfl));intro gb191 hg w35 hbox hb;have n0_ := Aside0.mk (q0l (by repeat (first | (with_reducible first | exact HB.out | apply q0b | apply q0a | apply q0c) | exact HB.out)) hb);have n1_ := Aside0.mk (hbox);have n2_ := Aside0.mk ((by rw [hg];exact (q0j (by repeat (first | (with_reducible first | exact HB.out | apply q0b | apply q0a | apply q0c) | exact HB.out))) : w.heap.size ≤ gb191));have n3_ := Aside0.mk ((by rw [hg];exact (q0j (by repeat (first | (with_reducible first | exact HB.out | apply q0b | apply q0a | apply q0c) | exact HB.out))) : w.heap.size ≤ gb191));clear HB;have HB := n0_;have BK191 := n1_;have GW191 := n2_;have GE191 := n3_;clear n0_ n1_ n2_ n3_;clear hb hbox hg) | ((with_reducible refine q0q (N := 5) rfl ?_);refine q0o ?hg (N := 5) ?hd (cs := #[.int .i64 a2_0,.bool a2_1,.int .i64 a2_2,.string a2_3]) (t := 66) ?hr ?_;(case hd => rfl);(case hg => rfl);(case hr => first | (go_simp;done) | (go_simp;rfl));intro gb192 hg w36 hbox hb;have n0_ := Aside0.mk (q0p (g := gb191) (o := .cells #[.int .i64 a1_0,.bool a1_1,.int .i64 a1_2,.string a1_3] 66 (0,0)) (by (with_reducible repeat (first | refine q0g ?_ _ | refine q0h ?_ | refine q0f ?_ _));exact BK191.out) hb);have n1_ := Aside0.mk (q0l (by repeat (first | (with_reducible first | exact HB.out | apply q0b | apply q0a | apply q0c | refine q0i ?_ GE191.out) | exact HB.out)) hb);have n2_ := Aside0.mk (hbox);have n3_ := Aside0.mk ((by rw [hg];exact (q0j (by repeat (first | (with_reducible first | exact HB.out | apply q0b | apply q0a | apply q0c | refine q0i ?_ GE191.out) | exact HB.out))) : w.heap.size ≤ gb192));have n4_ := Aside0.mk ((by rw [hg];exact (q0j (by repeat (first | (with_reducible first | exact HB.out | apply q0b | apply q0a | apply q0c | refine q0i ?_ GE191.out) | exact HB.out))) : w.heap.size ≤ gb192));have n5_ := Aside0.mk ((by rw [hg];exact Nat.ne_of_lt (q0t (g := gb191) (o := .cells #[.int .i64 a1_0,.bool a1_1,.int .i64 a1_2,.string a1_3] 66 (0,0)) (by (with_reducible repeat (first | refine q0g ?_ _ | refine q0h ?_ | refine q0f ?_ _));exact BK191.out)) : gb191 ≠ gb192));have n6_ := Aside0.mk ((by rw [hg];exact Nat.ne_of_gt (q0t (g := gb191) (o := .cells #[.int .i64 a1_0,.bool a1_1,.int .i64 a1_2,.string a1_3] 66 (0,0)) (by (with_reducible repeat (first | refine q0g ?_ _ | refine q0h ?_ | refine q0f ?_ _));exact BK191.out)) : gb192 ≠ gb191));clear BK191;clear HB;have BK191 := n0_;have HB := n1_;have BK192 := n2_;have GW192 := n3_;have GE192 := n4_;have NB191_192 := n5_;have NB192_191 := n6_;clear n0_ n1_ n2_ n3_ n4_ n5_ n6_;clear hb hbox hg;have hnb37 := NB191_192.out;have hnc37 := NB192_191.out;have hcz38_0 : w36.cell? ⟨gb191,0,none⟩ = some (.int .i64 a1_0) := (q0e BK191.out 0).trans rfl;have hcz38_1 : w36.cell? ⟨gb191,1,none⟩ = some (.bool a1_1) := (q0e BK191.out 1).trans rfl;have hcz38_2 : w36.cell? ⟨gb191,2,none⟩ = some (.int .i64 a1_2) := (q0e BK191.out 2).trans rfl;have hcz38_3 : w36.cell? ⟨gb191,3,none⟩ = some (.string a1_3) := (q0e BK191.out 3).trans rfl;have hfz38_0 := q0d BK191.out 0;have hfz38_1 := q0d BK191.out 1;have hfz38_2 := q0d BK191.out 2;have hfz38_3 := q0d BK191.out 3;have hcz39_0 : w36.cell? ⟨gb192,0,none⟩ = some (.int .i64 a2_0) := (q0e BK192.out 0).trans rfl;have hcz39_1 : w36.cell? ⟨gb192,1,none⟩ = some (.bool a2_1) := (q0e BK192.out 1).trans rfl;have hcz39_2 : w36.cell? ⟨gb192,2,none⟩ = some (.int .i64 a2_2) := (q0e BK192.out 2).trans rfl;have hcz39_3 : w36.cell? ⟨gb192,3,none⟩ = some (.string a2_3) := (q0e BK192.out 3).trans rfl;have hfz39_0 := q0d BK192.out 0;have hfz39_1 := q0d BK192.out 1;have hfz39_2 := q0d BK192.out 2;have hfz39_3 := q0d BK192.out 3) | ((with_reducible refine q0v (f := 111) rfl ?_);refine goesL_ (some 11) rfl rfl Try.func111 (by kernel_rfl) rfl #[.agg #[.int .i64 a1_0,.bool a1_1,.int .i64 a1_2,.string a1_3],.agg #[.int .i64 a2_0,.bool a2_1,.int .i64 a2_2,.string a2_3]] rfl (by (try simp only [List.map_toArray,List.map_cons,List.map_nil]);first | done | rfl | (simp only [List.length_drop,List.length_take];rfl)) ?_;(with_reducible refine (value_Compare.calls a1_0 a1_1 a1_2 a1_3 a2_0 a2_1 a2_2 a2_3 t193 _ A4.out).mono ?_);rintro e w40 ⟨rfl,hb⟩;refine ⟨_,rfl,?_⟩;have n0_ := Aside0.mk (q0p (g := gb191) (o := .cells #[.int .i64 a1_0,.bool a1_1,.int .i64 a1_2,.string a1_3] 66 (0,0)) (by (with_reducible repeat (first | refine q0g ?_ _ | refine q0h ?_ | refine q0f ?_ _));exact BK191.out) hb);have n1_ := Aside0.mk (q0p (g := gb192) (o := .cells #[.int .i64 a2_0,.bool a2_1,.int .i64 a2_2,.string a2_3] 66 (0,0)) (by (with_reducible repeat (first | refine q0g ?_ _ | refine q0h ?_ | refine q0f ?_ _));exact BK192.out) hb);have n2_ := Aside0.mk (q0l (by repeat (first | (with_reducible first | exact HB.out | apply q0b | apply q0a | apply q0c | refine q0i ?_ GE191.out | refine q0i ?_ GE192.out) | exact HB.out)) hb);clear BK191;clear BK192;clear HB;have BK191 := n0_;have BK192 := n1_;have HB := n2_;clear n0_ n1_ n2_;(try clear hb);(try clear hb2);(try clear hk);(try clear hi)))
      go_ret
      exact ⟨by first | rfl | (simp [q0m,q0n] <;> rfl) | (simp [*,q0m,q0n] <;> rfl),by repeat (first | (with_reducible first | exact HB.out | apply q0b | apply q0a | apply q0c | refine q0i ?_ GE191.out | refine q0i ?_ GE192.out) | exact HB.out)⟩
     ·rw [if_neg c34] at H
      have c34b0 : decide (t193 < 0) = false := decide_eq_false c34
      clear c34
      obtain rfl := Option.some.inj H
      go_enter Try.func118,Try.ntmps118
      go_wp2_with (first | ((with_reducible refine q0q (N := 4) rfl ?_);refine q0o ?hg (N := 4) ?hd (cs := #[.int .i64 a1_0,.bool a1_1,.int .i64 a1_2,.string a1_3]) (t := 66) ?hr ?_;(case hd => rfl);(case hg => rfl);(case hr => first | (go_simp;done) | (go_simp;rfl));intro gb191 hg w41 hbox hb;have n0_ := Aside0.mk (q0l (by repeat (first | (with_reducible first | exact HB.out | apply q0b | apply q0a | apply q0c) | exact HB.out)) hb);have n1_ := Aside0.mk (hbox);have n2_ := Aside0.mk ((by rw [hg];exact (q0j (by repeat (first | (with_reducible first | exact HB.out | apply q0b | apply q0a | apply q0c) | exact HB.out))) : w.heap.size ≤ gb191));have n3_ := Aside0.mk ((by rw [hg];exact (q0j (by repeat (first | (with_reducible first | exact HB.out | apply q0b | apply q0a | apply q0c) | exact HB.out))) : w.heap.size ≤ gb191));clear HB;have HB := n0_;have BK191 := n1_;have GW191 := n2_;have GE191 := n3_;clear n0_ n1_ n2_ n3_;clear hb hbox hg) | ((with_reducible refine q0q (N := 5) rfl ?_);refine q0o ?hg (N := 5) ?hd (cs := #[.int .i64 a2_0,.bool a2_1,.int .i64 a2_2,.string a2_3]) (t := 66) ?hr ?_;(case hd => rfl);(case hg => rfl);(case hr => first | (go_simp;done) | (go_simp;rfl));intro gb192 hg w42 hbox hb;have n0_ := Aside0.mk (q0p (g := gb191) (o := .cells #[.int .i64 a1_0,.bool a1_1,.int .i64 a1_2,.string a1_3] 66 (0,0)) (by (with_reducible repeat (first | refine q0g ?_ _ | refine q0h ?_ | refine q0f ?_ _));exact BK191.out) hb);have n1_ := Aside0.mk (q0l (by repeat (first | (with_reducible first | exact HB.out | apply q0b | apply q0a | apply q0c | refine q0i ?_ GE191.out) | exact HB.out)) hb);have n2_ := Aside0.mk (hbox);have n3_ := Aside0.mk ((by rw [hg];exact (q0j (by repeat (first | (with_reducible first | exact HB.out | apply q0b | apply q0a | apply q0c | refine q0i ?_ GE191.out) | exact HB.out))) : w.heap.size ≤ gb192));have n4_ := Aside0.mk ((by rw [hg];exact (q0j (by repeat (first | (with_reducible first | exact HB.out | apply q0b | apply q0a | apply q0c | refine q0i ?_ GE191.out) | exact HB.out))) : w.heap.size ≤ gb192));have n5_ := Aside0.mk ((by rw [hg];exact Nat.ne_of_lt (q0t (g := gb191) (o := .cells #[.int .i64 a1_0,.bool a1_1,.int .i64 a1_2,.string a1_3] 66 (0,0)) (by (with_reducible repeat (first | refine q0g ?_ _ | refine q0h ?_ | refine q0f ?_ _));exact BK191.out)) : gb191 ≠ gb192));have n6_ := Aside0.mk ((by rw [hg];exact Nat.ne_of_gt (q0t (g := gb191) (o := .cells #[.int .i64 a1_0,.bool a1_1,.int .i64 a1_2,.string a1_3] 66 (0,0)) (by (with_reducible repeat (first | refine q0g ?_ _ | refine q0h ?_ | refine q0f ?_ _));exact BK191.out)) : gb192 ≠ gb191));clear BK191;clear HB;have BK191 := n0_;have HB := n1_;have BK192 := n2_;have GW192 := n3_;have GE192 := n4_;have NB191_192 := n5_;have NB192_191 := n6_;clear n0_ n1_ n2_ n3_ n4_ n5_ n6_;clear hb hbox hg;have hnb43 := NB191_192.out;have hnc43 := NB192_191.out;have hcz44_0 : w42.cell? ⟨gb191,0,none⟩ = some (.int .i64 a1_0) := (q0e BK191.out 0).trans rfl;have hcz44_1 : w42.cell? ⟨gb191,1,none⟩ = some (.bool a1_1) := (q0e BK191.out 1).trans rfl;have hcz44_2 : w42.cell? ⟨gb191,2,none⟩ = some (.int .i64 a1_2) := (q0e BK191.out 2).trans rfl;have hcz44_3 : w42.cell? ⟨gb191,3,none⟩ = some (.string a1_3) := (q0e BK191.out 3).trans rfl;have hfz44_0 := q0d BK191.out 0;have hfz44_1 := q0d BK191.out 1;have hfz44_2 := q0d BK191.out 2;have hfz44_3 := q0d BK191.out 3;have hcz45_0 : w42.cell? ⟨gb192,0,none⟩ = some (.int .i64 a2_0) := (q0e BK192.out 0).trans rfl;have hcz45_1 : w42.cell? ⟨gb192,1,none⟩ = some (.bool a2_1) := (q0e BK192.out 1).trans rfl;have hcz45_2 : w42.cell? ⟨gb192,2,none⟩ = some (.int .i64 a2_2) := (q0e BK192.out 2).trans rfl;have hcz45_3 : w42.cell? ⟨gb192,3,none⟩ = some (.string a2_3) := (q0e BK192.out 3).trans rfl;have hfz45_0 := q0d BK192.out 0;have hfz45_1 := q0d BK192.out 1;have hfz45_2 := q0d BK192.out 2;have hfz45_3 := q0d BK192.out 3) | ((with_reducible refine q0v (f := 111) rfl ?_);refine goesL_ (some 11) rfl rfl Try.func111 (by kernel_rfl) rfl #[.agg #[.int .i64 a1_0,.bool a1_1,.int .i64 a1_2,.string a1_3],.agg #[.int .i64 a2_0,.bool a2_1,.int .i64 a2_2,.string a2_3]] rfl (by (try simp only [List.map_toArray,List.map_cons,List.map_nil]);first | done | rfl | (simp only [List.length_drop,List.length_take];rfl)) ?_;(with_reducible refine (value_Compare.calls a1_0 a1_1 a1_2 a1_3 a2_0 a2_1 a2_2 a2_3 t193 _ A4.out).mono ?_);rintro e w46 ⟨rfl,hb⟩;refine ⟨_,rfl,?_⟩;have n0_ := Aside0.mk (q0p (g := gb191) (o := .cells #[.int .i64 a1_0,.bool a1_1,.int .i64 a1_2,.string a1_3] 66 (0,0)) (by (with_reducible repeat (first | refine q0g ?_ _ | refine q0h ?_ | refine q0f ?_ _));exact BK191.out) hb);have n1_ := Aside0.mk (q0p (g := gb192) (o := .cells #[.int .i64 a2_0,.bool a2_1,.int .i64 a2_2,.string a2_3] 66 (0,0)) (by (with_reducible repeat (first | refine q0g ?_ _ | refine q0h ?_ | refine q0f ?_ _));exact BK192.out) hb);have n2_ := Aside0.mk (q0l (by repeat (first | (with_reducible first | exact HB.out | apply q0b | apply q0a | apply q0c | refine q0i ?_ GE191.out | refine q0i ?_ GE192.out) | exact HB.out)) hb);clear BK191;clear BK192;clear HB;have BK191 := n0_;have BK192 := n1_;have HB := n2_;clear n0_ n1_ n2_;(try clear hb);(try clear hb2);(try clear hk);(try clear hi)))
      go_ret
      exact ⟨by first | rfl | (simp [q0m,q0n] <;> rfl) | (simp [*,q0m,q0n] <;> rfl),by repeat (first | (with_reducible first | exact HB.out | apply q0b | apply q0a | apply q0c | refine q0i ?_ GE191.out | refine q0i ?_ GE192.out) | exact HB.out)⟩
    ·rw [if_neg c33] at H
     have c33b0 : (a0 == 3) = false := beq_eq_false_iff_ne.mpr c33
     have c33b1 : (a0 != 3) = true := bne_iff_ne.mpr c33
     by_cases c47 : a0 = 6
     ·rw [if_pos c47] at H
      have c47b0 : (a0 == 6) = true := beq_iff_eq.mpr c47
      have c47b1 : (a0 != 6) = false := bne_eq_false_iff_eq.mpr c47
      clear c47
      by_cases c48 : t193 > 0
      ·rw [if_pos c48] at H
       have c48b0 : decide (0 < t193) = true := decide_eq_true c48
       clear c48
       obtain rfl := Option.some.inj H
       go_enter Try.func118,Try.ntmps118
       go_wp2_with (first | ((with_reducible refine q0q (N := 4) rfl ?_);refine q0o ?hg (N := 4) ?hd (cs := #[.int .i64 a1_0,.bool a1_1,.int .i64 a1_2,.string a1_3]) (t := 66) ?hr ?_;(case hd => rfl);(case hg => rfl);(case hr => first | (go_simp;done) | (go_simp;rfl));intro gb191 hg w49 hbox hb;have n0_ := Aside0.mk (q0l (by repeat (first | (with_reducible first | exact HB.out | apply q0b | apply q0a | apply q0c) | exact HB.out)) hb);have n1_ := Aside0.mk (hbox);have n2_ := Aside0.mk ((by rw [hg];exact (q0j (by repeat (first | (with_reducible first | exact HB.out | apply q0b | apply q0a | apply q0c) | exact HB.out))) : w.heap.size ≤ gb191));have n3_ := Aside0.mk ((by rw [hg];exact (q0j (by repeat (first | (with_reducible first | exact HB.out | apply q0b | apply q0a | apply q0c) | exact HB.out))) : w.heap.size ≤ gb191));clear HB;have HB := n0_;have BK191 := n1_;have GW191 := n2_;have GE191 := n3_;clear n0_ n1_ n2_ n3_;clear hb hbox hg) | ((with_reducible refine q0q (N := 5) rfl ?_);refine q0o ?hg (N := 5) ?hd (cs := #[.int .i64 a2_0,.bool a2_1,.int .i64 a2_2,.string a2_3]) (t := 66) ?hr ?_;(case hd => rfl);(case hg => rfl);(case hr => first | (go_simp;done) | (go_simp;rfl));intro gb192 hg w50 hbox hb;have n0_ := Aside0.mk (q0p (g := gb191) (o := .cells #[.int .i64 a1_0,.bool a1_1,.int .i64 a1_2,.string a1_3] 66 (0,0)) (by (with_reducible repeat (first | refine q0g ?_ _ | refine q0h ?_ | refine q0f ?_ _));exact BK191.out) hb);have n1_ := Aside0.mk (q0l (by repeat (first | (with_reducible first | exact HB.out | apply q0b | apply q0a | apply q0c | refine q0i ?_ GE191.out) | exact HB.out)) hb);have n2_ := Aside0.mk (hbox);have n3_ := Aside0.mk ((by rw [hg];exact (q0j (by repeat (first | (with_reducible first | exact HB.out | apply q0b | apply q0a | apply q0c | refine q0i ?_ GE191.out) | exact HB.out))) : w.heap.size ≤ gb192));have n4_ := Aside0.mk ((by rw [hg];exact (q0j (by repeat (first | (with_reducible first | exact HB.out | apply q0b | apply q0a | apply q0c | refine q0i ?_ GE191.out) | exact HB.out))) : w.heap.size ≤ gb192));have n5_ := Aside0.mk ((by rw [hg];exact Nat.ne_of_lt (q0t (g := gb191) (o := .cells #[.int .i64 a1_0,.bool a1_1,.int .i64 a1_2,.string a1_3] 66 (0,0)) (by (with_reducible repeat (first | refine q0g ?_ _ | refine q0h ?_ | refine q0f ?_ _));exact BK191.out)) : gb191 ≠ gb192));have n6_ := Aside0.mk ((by rw [hg];exact Nat.ne_of_gt (q0t (g := gb191) (o := .cells #[.int .i64 a1_0,.bool a1_1,.int .i64 a1_2,.string a1_3] 66 (0,0)) (by (with_reducible repeat (first | refine q0g ?_ _ | refine q0h ?_ | refine q0f ?_ _));exact BK191.out)) : gb192 ≠ gb191));clear BK191;clear HB;have BK191 := n0_;have HB := n1_;have BK192 := n2_;have GW192 := n3_;have GE192 := n4_;have NB191_192 := n5_;have NB192_191 := n6_;clear n0_ n1_ n2_ n3_ n4_ n5_ n6_;clear hb hbox hg;have hnb51 := NB191_192.out;have hnc51 := NB192_191.out;have hcz52_0 : w50.cell? ⟨gb191,0,none⟩ = some (.int .i64 a1_0) := (q0e BK191.out 0).trans rfl;have hcz52_1 : w50.cell? ⟨gb191,1,none⟩ = some (.bool a1_1) := (q0e BK191.out 1).trans rfl;have hcz52_2 : w50.cell? ⟨gb191,2,none⟩ = some (.int .i64 a1_2) := (q0e BK191.out 2).trans rfl;have hcz52_3 : w50.cell? ⟨gb191,3,none⟩ = some (.string a1_3) := (q0e BK191.out 3).trans rfl;have hfz52_0 := q0d BK191.out 0;have hfz52_1 := q0d BK191.out 1;have hfz52_2 := q0d BK191.out 2;have hfz52_3 := q0d BK191.out 3;have hcz53_0 : w50.cell? ⟨gb192,0,none⟩ = some (.int .i64 a2_0) := (q0e BK192.out 0).trans rfl;have hcz53_1 : w50.cell? ⟨gb192,1,none⟩ = some (.bool a2_1) := (q0e BK192.out 1).trans rfl;have hcz53_2 : w50.cell? ⟨gb192,2,none⟩ = some (.int .i64 a2_2) := (q0e BK192.out 2).trans rfl;have hcz53_3 : w50.cell? ⟨gb192,3,none⟩ = some (.string a2_3) := (q0e BK192.out 3).trans rfl;have hfz53_0 := q0d BK192.out 0;have hfz53_1 := q0d BK192.out 1;have hfz53_2 := q0d BK192.out 2;have hfz53_3 := q0d BK192.out 3) | ((with_reducible refine q0v (f := 111) rfl ?_);refine goesL_ (some 11) rfl rfl Try.func111 (by kernel_rfl) rfl #[.agg #[.int .i64 a1_0,.bool a1_1,.int .i64 a1_2,.string a1_3],.agg #[.int .i64 a2_0,.bool a2_1,.int .i64 a2_2,.string a2_3]] rfl (by (try simp only [List.map_toArray,List.map_cons,List.map_nil]);first | done | rfl | (simp only [List.length_drop,List.length_take];rfl)) ?_;(with_reducible refine (value_Compare.calls a1_0 a1_1 a1_2 a1_3 a2_0 a2_1 a2_2 a2_3 t193 _ A4.out).mono ?_);rintro e w54 ⟨rfl,hb⟩;refine ⟨_,rfl,?_⟩;have n0_ := Aside0.mk (q0p (g := gb191) (o := .cells #[.int .i64 a1_0,.bool a1_1,.int .i64 a1_2,.string a1_3] 66 (0,0)) (by (with_reducible repeat (first | refine q0g ?_ _ | refine q0h ?_ | refine q0f ?_ _));exact BK191.out) hb);have n1_ := Aside0.mk (q0p (g := gb192) (o := .cells #[.int .i64 a2_0,.bool a2_1,.int .i64 a2_2,.string a2_3] 66 (0,0)) (by (with_reducible repeat (first | refine q0g ?_ _ | refine q0h ?_ | refine q0f ?_ _));exact BK192.out) hb);have n2_ := Aside0.mk (q0l (by repeat (first | (with_reducible first | exact HB.out | apply q0b | apply q0a | apply q0c | refine q0i ?_ GE191.out | refine q0i ?_ GE192.out) | exact HB.out)) hb);clear BK191;clear BK192;clear HB;have BK191 := n0_;have BK192 := n1_;have HB := n2_;clear n0_ n1_ n2_;(try clear hb);(try clear hb2);(try clear hk);(try clear hi)))
       go_ret
       exact ⟨by first | rfl | (simp [q0m,q0n] <;> rfl) | (simp [*,q0m,q0n] <;> rfl),by repeat (first | (with_reducible first | exact HB.out | apply q0b | apply q0a | apply q0c | refine q0i ?_ GE191.out | refine q0i ?_ GE192.out) | exact HB.out)⟩
      ·rw [if_neg c48] at H
       have c48b0 : decide (0 < t193) = false := decide_eq_false c48
       clear c48
       obtain rfl := Option.some.inj H
       go_enter Try.func118,Try.ntmps118
       go_wp2_with (first | ((with_reducible refine q0q (N := 4) rfl ?_);refine q0o ?hg (N := 4) ?hd (cs := #[.int .i64 a1_0,.bool a1_1,.int .i64 a1_2,.string a1_3]) (t := 66) ?hr ?_;(case hd => rfl);(case hg => rfl);(case hr => first | (go_simp;done) | (go_simp;rfl));intro gb191 hg w55 hbox hb;have n0_ := Aside0.mk (q0l (by repeat (first | (with_reducible first | exact HB.out | apply q0b | apply q0a | apply q0c) | exact HB.out)) hb);have n1_ := Aside0.mk (hbox);have n2_ := Aside0.mk ((by rw [hg];exact (q0j (by repeat (first | (with_reducible first | exact HB.out | apply q0b | apply q0a | apply q0c) | exact HB.out))) : w.heap.size ≤ gb191));have n3_ := Aside0.mk ((by rw [hg];exact (q0j (by repeat (first | (with_reducible first | exact HB.out | apply q0b | apply q0a | apply q0c) | exact HB.out))) : w.heap.size ≤ gb191));clear HB;have HB := n0_;have BK191 := n1_;have GW191 := n2_;have GE191 := n3_;clear n0_ n1_ n2_ n3_;clear hb hbox hg) | ((with_reducible refine q0q (N := 5) rfl ?_);refine q0o ?hg (N := 5) ?hd (cs := #[.int .i64 a2_0,.bool a2_1,.int .i64 a2_2,.string a2_3]) (t := 66) ?hr ?_;(case hd => rfl);(case hg => rfl);(case hr => first | (go_simp;done) | (go_simp;rfl));intro gb192 hg w56 hbox hb;have n0_ := Aside0.mk (q0p (g := gb191) (o := .cells #[.int .i64 a1_0,.bool a1_1,.int .i64 a1_2,.string a1_3] 66 (0,0)) (by (with_reducible repeat (first | refine q0g ?_ _ | refine q0h ?_ | refine q0f ?_ _));exact BK191.out) hb);have n1_ := Aside0.mk (q0l (by repeat (first | (with_reducible first | exact HB.out | apply q0b | apply q0a | apply q0c | refine q0i ?_ GE191.out) | exact HB.out)) hb);have n2_ := Aside0.mk (hbox);have n3_ := Aside0.mk ((by rw [hg];exact (q0j (by repeat (first | (with_reducible first | exact HB.out | apply q0b | apply q0a | apply q0c | refine q0i ?_ GE191.out) | exact HB.out))) : w.heap.size ≤ gb192));have n4_ := Aside0.mk ((by rw [hg];exact (q0j (by repeat (first | (with_reducible first | exact HB.out | apply q0b | apply q0a | apply q0c | refine q0i ?_ GE191.out) | exact HB.out))) : w.heap.size ≤ gb192));have n5_ := Aside0.mk ((by rw [hg];exact Nat.ne_of_lt (q0t (g := gb191) (o := .cells #[.int .i64 a1_0,.bool a1_1,.int .i64 a1_2,.string a1_3] 66 (0,0)) (by (with_reducible repeat (first | refine q0g ?_ _ | refine q0h ?_ | refine q0f ?_ _));exact BK191.out)) : gb191 ≠ gb192));have n6_ := Aside0.mk ((by rw [hg];exact Nat.ne_of_gt (q0t (g := gb191) (o := .cells #[.int .i64 a1_0,.bool a1_1,.int .i64 a1_2,.string a1_3] 66 (0,0)) (by (with_reducible repeat (first | refine q0g ?_ _ | refine q0h ?_ | refine q0f ?_ _));exact BK191.out)) : gb192 ≠ gb191));clear BK191;clear HB;have BK191 := n0_;have HB := n1_;have BK192 := n2_;have GW192 := n3_;have GE192 := n4_;have NB191_192 := n5_;have NB192_191 := n6_;clear n0_ n1_ n2_ n3_ n4_ n5_ n6_;clear hb hbox hg;have hnb57 := NB191_192.out;have hnc57 := NB192_191.out;have hcz58_0 : w56.cell? ⟨gb191,0,none⟩ = some (.int .i64 a1_0) := (q0e BK191.out 0).trans rfl;have hcz58_1 : w56.cell? ⟨gb191,1,none⟩ = some (.bool a1_1) := (q0e BK191.out 1).trans rfl;have hcz58_2 : w56.cell? ⟨gb191,2,none⟩ = some (.int .i64 a1_2) := (q0e BK191.out 2).trans rfl;have hcz58_3 : w56.cell? ⟨gb191,3,none⟩ = some (.string a1_3) := (q0e BK191.out 3).trans rfl;have hfz58_0 := q0d BK191.out 0;have hfz58_1 := q0d BK191.out 1;have hfz58_2 := q0d BK191.out 2;have hfz58_3 := q0d BK191.out 3;have hcz59_0 : w56.cell? ⟨gb192,0,none⟩ = some (.int .i64 a2_0) := (q0e BK192.out 0).trans rfl;have hcz59_1 : w56.cell? ⟨gb192,1,none⟩ = some (.bool a2_1) := (q0e BK192.out 1).trans rfl;have hcz59_2 : w56.cell? ⟨gb192,2,none⟩ = some (.int .i64 a2_2) := (q0e BK192.out 2).trans rfl;have hcz59_3 : w56.cell? ⟨gb192,3,none⟩ = some (.string a2_3) := (q0e BK192.out 3).trans rfl;have hfz59_0 := q0d BK192.out 0;have hfz59_1 := q0d BK192.out 1;have hfz59_2 := q0d BK192.out 2;have hfz59_3 := q0d BK192.out 3) | ((with_reducible refine q0v (f := 111) rfl ?_);refine goesL_ (some 11) rfl rfl Try.func111 (by kernel_rfl) rfl #[.agg #[.int .i64 a1_0,.bool a1_1,.int .i64 a1_2,.string a1_3],.agg #[.int .i64 a2_0,.bool a2_1,.int .i64 a2_2,.string a2_3]] rfl (by (try simp only [List.map_toArray,List.map_cons,List.map_nil]);first | done | rfl | (simp only [List.length_drop,List.length_take];rfl)) ?_;(with_reducible refine (value_Compare.calls a1_0 a1_1 a1_2 a1_3 a2_0 a2_1 a2_2 a2_3 t193 _ A4.out).mono ?_);rintro e w60 ⟨rfl,hb⟩;refine ⟨_,rfl,?_⟩;have n0_ := Aside0.mk (q0p (g := gb191) (o := .cells #[.int .i64 a1_0,.bool a1_1,.int .i64 a1_2,.string a1_3] 66 (0,0)) (by (with_reducible repeat (first | refine q0g ?_ _ | refine q0h ?_ | refine q0f ?_ _));exact BK191.out) hb);have n1_ := Aside0.mk (q0p (g := gb192) (o := .cells #[.int .i64 a2_0,.bool a2_1,.int .i64 a2_2,.string a2_3] 66 (0,0)) (by (with_reducible repeat (first | refine q0g ?_ _ | refine q0h ?_ | refine q0f ?_ _));exact BK192.out) hb);have n2_ := Aside0.mk (q0l (by repeat (first | (with_reducible first | exact HB.out | apply q0b | apply q0a | apply q0c | refine q0i ?_ GE191.out | refine q0i ?_ GE192.out) | exact HB.out)) hb);clear BK191;clear BK192;clear HB;have BK191 := n0_;have BK192 := n1_;have HB := n2_;clear n0_ n1_ n2_;(try clear hb);(try clear hb2);(try clear hk);(try clear hi)))
       go_ret
       exact ⟨by first | rfl | (simp [q0m,q0n] <;> rfl) | (simp [*,q0m,q0n] <;> rfl),by repeat (first | (with_reducible first | exact HB.out | apply q0b | apply q0a | apply q0c | refine q0i ?_ GE191.out | refine q0i ?_ GE192.out) | exact HB.out)⟩
     ·rw [if_neg c47] at H
      have c47b0 : (a0 == 6) = false := beq_eq_false_iff_ne.mpr c47
      have c47b1 : (a0 != 6) = true := bne_iff_ne.mpr c47
      by_cases c61 : a0 = 5
      ·rw [if_pos c61] at H
       have c61b0 : (a0 == 5) = true := beq_iff_eq.mpr c61
       have c61b1 : (a0 != 5) = false := bne_eq_false_iff_eq.mpr c61
       clear c61
       by_cases c62 : t193 > 0
       ·rw [if_pos c62] at H
        have c62b0 : decide (0 < t193) = true := decide_eq_true c62
        clear c62
        obtain rfl := Option.some.inj H
        go_enter Try.func118,Try.ntmps118
        go_wp2_with (first | ((with_reducible refine q0q (N := 4) rfl ?_);refine q0o ?hg (N := 4) ?hd (cs := #[.int .i64 a1_0,.bool a1_1,.int .i64 a1_2,.string a1_3]) (t := 66) ?hr ?_;(case hd => rfl);(case hg => rfl);(case hr => first | (go_simp;done) | (go_simp;rfl));intro gb191 hg w63 hbox hb;have n0_ := Aside0.mk (q0l (by repeat (first | (with_reducible first | exact HB.out | apply q0b | apply q0a | apply q0c) | exact HB.out)) hb);have n1_ := Aside0.mk (hbox);have n2_ := Aside0.mk ((by rw [hg];exact (q0j (by repeat (first | (with_reducible first | exact HB.out | apply q0b | apply q0a | apply q0c) | exact HB.out))) : w.heap.size ≤ gb191));have n3_ := Aside0.mk ((by rw [hg];exact (q0j (by repeat (first | (with_reducible first | exact HB.out | apply q0b | apply q0a | apply q0c) | exact HB.out))) : w.heap.size ≤ gb191));clear HB;have HB := n0_;have BK191 := n1_;have GW191 := n2_;have GE191 := n3_;clear n0_ n1_ n2_ n3_;clear hb hbox hg) | ((with_reducible refine q0q (N := 5) rfl ?_);refine q0o ?hg (N := 5) ?hd (cs := #[.int .i64 a2_0,.bool a2_1,.int .i64 a2_2,.string a2_3]) (t := 66) ?hr ?_;(case hd => rfl);(case hg => rfl);(case hr => first | (go_simp;done) | (go_simp;rfl));intro gb192 hg w64 hbox hb;have n0_ := Aside0.mk (q0p (g := gb191) (o := .cells #[.int .i64 a1_0,.bool a1_1,.int .i64 a1_2,.string a1_3] 66 (0,0)) (by (with_reducible repeat (first | refine q0g ?_ _ | refine q0h ?_ | refine q0f ?_ _));exact BK191.out) hb);have n1_ := Aside0.mk (q0l (by repeat (first | (with_reducible first | exact HB.out | apply q0b | apply q0a | apply q0c | refine q0i ?_ GE191.out) | exact HB.out)) hb);have n2_ := Aside0.mk (hbox);have n3_ := Aside0.mk ((by rw [hg];exact (q0j (by repeat (first | (with_reducible first | exact HB.out | apply q0b | apply q0a | apply q0c | refine q0i ?_ GE191.out) | exact HB.out))) : w.heap.size ≤ gb192));have n4_ := Aside0.mk ((by rw [hg];exact (q0j (by repeat (first | (with_reducible first | exact HB.out | apply q0b | apply q0a | apply q0c | refine q0i ?_ GE191.out) | exact HB.out))) : w.heap.size ≤ gb192));have n5_ := Aside0.mk ((by rw [hg];exact Nat.ne_of_lt (q0t (g := gb191) (o := .cells #[.int .i64 a1_0,.bool a1_1,.int .i64 a1_2,.string a1_3] 66 (0,0)) (by (with_reducible repeat (first | refine q0g ?_ _ | refine q0h ?_ | refine q0f ?_ _));exact BK191.out)) : gb191 ≠ gb192));have n6_ := Aside0.mk ((by rw [hg];exact Nat.ne_of_gt (q0t (g := gb191) (o := .cells #[.int .i64 a1_0,.bool a1_1,.int .i64 a1_2,.string a1_3] 66 (0,0)) (by (with_reducible repeat (first | refine q0g ?_ _ | refine q0h ?_ | refine q0f ?_ _));exact BK191.out)) : gb192 ≠ gb191));clear BK191;clear HB;have BK191 := n0_;have HB := n1_;have BK192 := n2_;have GW192 := n3_;have GE192 := n4_;have NB191_192 := n5_;have NB192_191 := n6_;clear n0_ n1_ n2_ n3_ n4_ n5_ n6_;clear hb hbox hg;have hnb65 := NB191_192.out;have hnc65 := NB192_191.out;have hcz66_0 : w64.cell? ⟨gb191,0,none⟩ = some (.int .i64 a1_0) := (q0e BK191.out 0).trans rfl;have hcz66_1 : w64.cell? ⟨gb191,1,none⟩ = some (.bool a1_1) := (q0e BK191.out 1).trans rfl;have hcz66_2 : w64.cell? ⟨gb191,2,none⟩ = some (.int .i64 a1_2) := (q0e BK191.out 2).trans rfl;have hcz66_3 : w64.cell? ⟨gb191,3,none⟩ = some (.string a1_3) := (q0e BK191.out 3).trans rfl;have hfz66_0 := q0d BK191.out 0;have hfz66_1 := q0d BK191.out 1;have hfz66_2 := q0d BK191.out 2;have hfz66_3 := q0d BK191.out 3;have hcz67_0 : w64.cell? ⟨gb192,0,none⟩ = some (.int .i64 a2_0) := (q0e BK192.out 0).trans rfl;have hcz67_1 : w64.cell? ⟨gb192,1,none⟩ = some (.bool a2_1) := (q0e BK192.out 1).trans rfl;have hcz67_2 : w64.cell? ⟨gb192,2,none⟩ = some (.int .i64 a2_2) := (q0e BK192.out 2).trans rfl;have hcz67_3 : w64.cell? ⟨gb192,3,none⟩ = some (.string a2_3) := (q0e BK192.out 3).trans rfl;have hfz67_0 := q0d BK192.out 0;have hfz67_1 := q0d BK192.out 1;have hfz67_2 := q0d BK192.out 2;have hfz67_3 := q0d BK192.out 3) | ((with_reducible refine q0v (f := 111) rfl ?_);refine goesL_ (some 11) rfl rfl Try.func111 (by kernel_rfl) rfl #[.agg #[.int .i64 a1_0,.bool a1_1,.int .i64 a1_2,.string a1_3],.agg #[.int .i64 a2_0,.bool a2_1,.int .i64 a2_2,.string a2_3]] rfl (by (try simp only [List.map_toArray,List.map_cons,List.map_nil]);first | done | rfl | (simp only [List.length_drop,List.length_take];rfl)) ?_;(with_reducible refine (value_Compare.calls a1_0 a1_1 a1_2 a1_3 a2_0 a2_1 a2_2 a2_3 t193 _ A4.out).mono ?_);rintro e w68 ⟨rfl,hb⟩;refine ⟨_,rfl,?_⟩;have n0_ := Aside0.mk (q0p (g := gb191) (o := .cells #[.int .i64 a1_0,.bool a1_1,.int .i64 a1_2,.string a1_3] 66 (0,0)) (by (with_reducible repeat (first | refine q0g ?_ _ | refine q0h ?_ | refine q0f ?_ _));exact BK191.out) hb);have n1_ := Aside0.mk (q0p (g := gb192) (o := .cells #[.int .i64 a2_0,.bool a2_1,.int .i64 a2_2,.string a2_3] 66 (0,0)) (by (with_reducible repeat (first | refine q0g ?_ _ | refine q0h ?_ | refine q0f ?_ _));exact BK192.out) hb);have n2_ := Aside0.mk (q0l (by repeat (first | (with_reducible first | exact HB.out | apply q0b | apply q0a | apply q0c | refine q0i ?_ GE191.out | refine q0i ?_ GE192.out) | exact HB.out)) hb);clear BK191;clear BK192;clear HB;have BK191 := n0_;have BK192 := n1_;have HB := n2_;clear n0_ n1_ n2_;(try clear hb);(try clear hb2);(try clear hk);(try clear hi)))
        go_ret
        exact ⟨by first | rfl | (simp [q0m,q0n] <;> rfl) | (simp [*,q0m,q0n] <;> rfl),by repeat (first | (with_reducible first | exact HB.out | apply q0b | apply q0a | apply q0c | refine q0i ?_ GE191.out | refine q0i ?_ GE192.out) | exact HB.out)⟩
       ·rw [if_neg c62] at H
        have c62b0 : decide (0 < t193) = false := decide_eq_false c62
        clear c62
        obtain rfl := Option.some.inj H
        go_enter Try.func118,Try.ntmps118
        go_wp2_with (first | ((with_reducible refine q0q (N := 4) rfl ?_);refine q0o ?hg (N := 4) ?hd (cs := #[.int .i64 a1_0,.bool a1_1,.int .i64 a1_2,.string a1_3]) (t := 66) ?hr ?_;(case hd => rfl);(case hg => rfl);(case hr => first | (go_simp;done) | (go_simp;rfl));intro gb191 hg w69 hbox hb;have n0_ := Aside0.mk (q0l (by repeat (first | (with_reducible first | exact HB.out | apply q0b | apply q0a | apply q0c) | exact HB.out)) hb);have n1_ := Aside0.mk (hbox);have n2_ := Aside0.mk ((by rw [hg];exact (q0j (by repeat (first | (with_reducible first | exact HB.out | apply q0b | apply q0a | apply q0c) | exact HB.out))) : w.heap.size ≤ gb191));have n3_ := Aside0.mk ((by rw [hg];exact (q0j (by repeat (first | (with_reducible first | exact HB.out | apply q0b | apply q0a | apply q0c) | exact HB.out))) : w.heap.size ≤ gb191));clear HB;have HB := n0_;have BK191 := n1_;have GW191 := n2_;have GE191 := n3_;clear n0_ n1_ n2_ n3_;clear hb hbox hg) | ((with_reducible refine q0q (N := 5) rfl ?_);refine q0o ?hg (N := 5) ?hd (cs := #[.int .i64 a2_0,.bool a2_1,.int .i64 a2_2,.string a2_3]) (t := 66) ?hr ?_;(case hd => rfl);(case hg => rfl);(case hr => first | (go_simp;done) | (go_simp;rfl));intro gb192 hg w70 hbox hb;have n0_ := Aside0.mk (q0p (g := gb191) (o := .cells #[.int .i64 a1_0,.bool a1_1,.int .i64 a1_2,.string a1_3] 66 (0,0)) (by (with_reducible repeat (first | refine q0g ?_ _ | refine q0h ?_ | refine q0f ?_ _));exact BK191.out) hb);have n1_ := Aside0.mk (q0l (by repeat (first | (with_reducible first | exact HB.out | apply q0b | apply q0a | apply q0c | refine q0i ?_ GE191.out) | exact HB.out)) hb);have n2_ := Aside0.mk (hbox);have n3_ := Aside0.mk ((by rw [hg];exact (q0j (by repeat (first | (with_reducible first | exact HB.out | apply q0b | apply q0a | apply q0c | refine q0i ?_ GE191.out) | exact HB.out))) : w.heap.size ≤ gb192));have n4_ := Aside0.mk ((by rw [hg];exact (q0j (by repeat (first | (with_reducible first | exact HB.out | apply q0b | apply q0a | apply q0c | refine q0i ?_ GE191.out) | exact HB.out))) : w.heap.size ≤ gb192));have n5_ := Aside0.mk ((by rw [hg];exact Nat.ne_of_lt (q0t (g := gb191) (o := .cells #[.int .i64 a1_0,.bool a1_1,.int .i64 a1_2,.string a1_3] 66 (0,0)) (by (with_reducible repeat (first | refine q0g ?_ _ | refine q0h ?_ | refine q0f ?_ _));exact BK191.out)) : gb191 ≠ gb192));have n6_ := Aside0.mk ((by rw [hg];exact Nat.ne_of_gt (q0t (g := gb191) (o := .cells #[.int .i64 a1_0,.bool a1_1,.int .i64 a1_2,.string a1_3] 66 (0,0)) (by (with_reducible repeat (first | refine q0g ?_ _ | refine q0h ?_ | refine q0f ?_ _));exact BK191.out)) : gb192 ≠ gb191));clear BK191;clear HB;have BK191 := n0_;have HB := n1_;have BK192 := n2_;have GW192 := n3_;have GE192 := n4_;have NB191_192 := n5_;have NB192_191 := n6_;clear n0_ n1_ n2_ n3_ n4_ n5_ n6_;clear hb hbox hg;have hnb71 := NB191_192.out;have hnc71 := NB192_191.out;have hcz72_0 : w70.cell? ⟨gb191,0,none⟩ = some (.int .i64 a1_0) := (q0e BK191.out 0).trans rfl;have hcz72_1 : w70.cell? ⟨gb191,1,none⟩ = some (.bool a1_1) := (q0e BK191.out 1).trans rfl;have hcz72_2 : w70.cell? ⟨gb191,2,none⟩ = some (.int .i64 a1_2) := (q0e BK191.out 2).trans rfl;have hcz72_3 : w70.cell? ⟨gb191,3,none⟩ = some (.string a1_3) := (q0e BK191.out 3).trans rfl;have hfz72_0 := q0d BK191.out 0;have hfz72_1 := q0d BK191.out 1;have hfz72_2 := q0d BK191.out 2;have hfz72_3 := q0d BK191.out 3;have hcz73_0 : w70.cell? ⟨gb192,0,none⟩ = some (.int .i64 a2_0) := (q0e BK192.out 0).trans rfl;have hcz73_1 : w70.cell? ⟨gb192,1,none⟩ = some (.bool a2_1) := (q0e BK192.out 1).trans rfl;have hcz73_2 : w70.cell? ⟨gb192,2,none⟩ = some (.int .i64 a2_2) := (q0e BK192.out 2).trans rfl;have hcz73_3 : w70.cell? ⟨gb192,3,none⟩ = some (.string a2_3) := (q0e BK192.out 3).trans rfl;have hfz73_0 := q0d BK192.out 0;have hfz73_1 := q0d BK192.out 1;have hfz73_2 := q0d BK192.out 2;have hfz73_3 := q0d BK192.out 3) | ((with_reducible refine q0v (f := 111) rfl ?_);refine goesL_ (some 11) rfl rfl Try.func111 (by kernel_rfl) rfl #[.agg #[.int .i64 a1_0,.bool a1_1,.int .i64 a1_2,.string a1_3],.agg #[.int .i64 a2_0,.bool a2_1,.int .i64 a2_2,.string a2_3]] rfl (by (try simp only [List.map_toArray,List.map_cons,List.map_nil]);first | done | rfl | (simp only [List.length_drop,List.length_take];rfl)) ?_;(with_reducible refine (value_Compare.calls a1_0 a1_1 a1_2 a1_3 a2_0 a2_1 a2_2 a2_3 t193 _ A4.out).mono ?_);rintro e w74 ⟨rfl,hb⟩;refine ⟨_,rfl,?_⟩;have n0_ := Aside0.mk (q0p (g := gb191) (o := .cells #[.int .i64 a1_0,.bool a1_1,.int .i64 a1_2,.string a1_3] 66 (0,0)) (by (with_reducible repeat (first | refine q0g ?_ _ | refine q0h ?_ | refine q0f ?_ _));exact BK191.out) hb);have n1_ := Aside0.mk (q0p (g := gb192) (o := .cells #[.int .i64 a2_0,.bool a2_1,.int .i64 a2_2,.string a2_3] 66 (0,0)) (by (with_reducible repeat (first | refine q0g ?_ _ | refine q0h ?_ | refine q0f ?_ _));exact BK192.out) hb);have n2_ := Aside0.mk (q0l (by repeat (first | (with_reducible first | exact HB.out | apply q0b | apply q0a | apply q0c | refine q0i ?_ GE191.out | refine q0i ?_ GE192.out) | exact HB.out)) hb);clear BK191;clear BK192;clear HB;have BK191 := n0_;have BK192 := n1_;have HB := n2_;clear n0_ n1_ n2_;(try clear hb);(try clear hb2);(try clear hk);(try clear hi)))
        go_ret
        exact ⟨by first | rfl | (simp [q0m,q0n] <;> rfl) | (simp [*,q0m,q0n] <;> rfl),by repeat (first | (with_reducible first | exact HB.out | apply q0b | apply q0a | apply q0c | refine q0i ?_ GE191.out | refine q0i ?_ GE192.out) | exact HB.out)⟩
      ·rw [if_neg c61] at H
       have c61b0 : (a0 == 5) = false := beq_eq_false_iff_ne.mpr c61
       have c61b1 : (a0 != 5) = true := bne_iff_ne.mpr c61
       obtain rfl := Option.some.inj H
       go_enter Try.func118,Try.ntmps118
       go_wp2_with (first | ((with_reducible refine q0q (N := 4) rfl ?_);refine q0o ?hg (N := 4) ?hd (cs := #[.int .i64 a1_0,.bool a1_1,.int .i64 a1_2,.string a1_3]) (t := 66) ?hr ?_;(case hd => rfl);(case hg => rfl);(case hr => first | (go_simp;done) | (go_simp;rfl));intro gb191 hg w75 hbox hb;have n0_ := Aside0.mk (q0l (by repeat (first | (with_reducible first | exact HB.out | apply q0b | apply q0a | apply q0c) | exact HB.out)) hb);have n1_ := Aside0.mk (hbox);have n2_ := Aside0.mk ((by rw [hg];exact (q0j (by repeat (first | (with_reducible first | exact HB.out | apply q0b | apply q0a | apply q0c) | exact HB.out))) : w.heap.size ≤ gb191));have n3_ := Aside0.mk ((by rw [hg];exact (q0j (by repeat (first | (with_reducible first | exact HB.out | apply q0b | apply q0a | apply q0c) | exact HB.out))) : w.heap.size ≤ gb191));clear HB;have HB := n0_;have BK191 := n1_;have GW191 := n2_;have GE191 := n3_;clear n0_ n1_ n2_ n3_;clear hb hbox hg) | ((with_reducible refine q0q (N := 5) rfl ?_);refine q0o ?hg (N := 5) ?hd (cs := #[.int .i64 a2_0,.bool a2_1,.int .i64 a2_2,.string a2_3]) (t := 66) ?hr ?_;(case hd => rfl);(case hg => rfl);(case hr => first | (go_simp;done) | (go_simp;rfl));intro gb192 hg w76 hbox hb;have n0_ := Aside0.mk (q0p (g := gb191) (o := .cells #[.int .i64 a1_0,.bool a1_1,.int .i64 a1_2,.string a1_3] 66 (0,0)) (by (with_reducible repeat (first | refine q0g ?_ _ | refine q0h ?_ | refine q0f ?_ _));exact BK191.out) hb);have n1_ := Aside0.mk (q0l (by repeat (first | (with_reducible first | exact HB.out | apply q0b | apply q0a | apply q0c | refine q0i ?_ GE191.out) | exact HB.out)) hb);have n2_ := Aside0.mk (hbox);have n3_ := Aside0.mk ((by rw [hg];exact (q0j (by repeat (first | (with_reducible first | exact HB.out | apply q0b | apply q0a | apply q0c | refine q0i ?_ GE191.out) | exact HB.out))) : w.heap.size ≤ gb192));have n4_ := Aside0.mk ((by rw [hg];exact (q0j (by repeat (first | (with_reducible first | exact HB.out | apply q0b | apply q0a | apply q0c | refine q0i ?_ GE191.out) | exact HB.out))) : w.heap.size ≤ gb192));have n5_ := Aside0.mk ((by rw [hg];exact Nat.ne_of_lt (q0t (g := gb191) (o := .cells #[.int .i64 a1_0,.bool a1_1,.int .i64 a1_2,.string a1_3] 66 (0,0)) (by (with_reducible repeat (first | refine q0g ?_ _ | refine q0h ?_ | refine q0f ?_ _));exact BK191.out)) : gb191 ≠ gb192));have n6_ := Aside0.mk ((by rw [hg];exact Nat.ne_of_gt (q0t (g := gb191) (o := .cells #[.int .i64 a1_0,.bool a1_1,.int .i64 a1_2,.string a1_3] 66 (0,0)) (by (with_reducible repeat (first | refine q0g ?_ _ | refine q0h ?_ | refine q0f ?_ _));exact BK191.out)) : gb192 ≠ gb191));clear BK191;clear HB;have BK191 := n0_;have HB := n1_;have BK192 := n2_;have GW192 := n3_;have GE192 := n4_;have NB191_192 := n5_;have NB192_191 := n6_;clear n0_ n1_ n2_ n3_ n4_ n5_ n6_;clear hb hbox hg;have hnb77 := NB191_192.out;have hnc77 := NB192_191.out;have hcz78_0 : w76.cell? ⟨gb191,0,none⟩ = some (.int .i64 a1_0) := (q0e BK191.out 0).trans rfl;have hcz78_1 : w76.cell? ⟨gb191,1,none⟩ = some (.bool a1_1) := (q0e BK191.out 1).trans rfl;have hcz78_2 : w76.cell? ⟨gb191,2,none⟩ = some (.int .i64 a1_2) := (q0e BK191.out 2).trans rfl;have hcz78_3 : w76.cell? ⟨gb191,3,none⟩ = some (.string a1_3) := (q0e BK191.out 3).trans rfl;have hfz78_0 := q0d BK191.out 0;have hfz78_1 := q0d BK191.out 1;have hfz78_2 := q0d BK191.out 2;have hfz78_3 := q0d BK191.out 3;have hcz79_0 : w76.cell? ⟨gb192,0,none⟩ = some (.int .i64 a2_0) := (q0e BK192.out 0).trans rfl;have hcz79_1 : w76.cell? ⟨gb192,1,none⟩ = some (.bool a2_1) := (q0e BK192.out 1).trans rfl;have hcz79_2 : w76.cell? ⟨gb192,2,none⟩ = some (.int .i64 a2_2) := (q0e BK192.out 2).trans rfl;have hcz79_3 : w76.cell? ⟨gb192,3,none⟩ = some (.string a2_3) := (q0e BK192.out 3).trans rfl;have hfz79_0 := q0d BK192.out 0;have hfz79_1 := q0d BK192.out 1;have hfz79_2 := q0d BK192.out 2;have hfz79_3 := q0d BK192.out 3) | ((with_reducible refine q0v (f := 111) rfl ?_);refine goesL_ (some 11) rfl rfl Try.func111 (by kernel_rfl) rfl #[.agg #[.int .i64 a1_0,.bool a1_1,.int .i64 a1_2,.string a1_3],.agg #[.int .i64 a2_0,.bool a2_1,.int .i64 a2_2,.string a2_3]] rfl (by (try simp only [List.map_toArray,List.map_cons,List.map_nil]);first | done | rfl | (simp only [List.length_drop,List.length_take];rfl)) ?_;(with_reducible refine (value_Compare.calls a1_0 a1_1 a1_2 a1_3 a2_0 a2_1 a2_2 a2_3 t193 _ A4.out).mono ?_);rintro e w80 ⟨rfl,hb⟩;refine ⟨_,rfl,?_⟩;have n0_ := Aside0.mk (q0p (g := gb191) (o := .cells #[.int .i64 a1_0,.bool a1_1,.int .i64 a1_2,.string a1_3] 66 (0,0)) (by (with_reducible repeat (first | refine q0g ?_ _ | refine q0h ?_ | refine q0f ?_ _));exact BK191.out) hb);have n1_ := Aside0.mk (q0p (g := gb192) (o := .cells #[.int .i64 a2_0,.bool a2_1,.int .i64 a2_2,.string a2_3] 66 (0,0)) (by (with_reducible repeat (first | refine q0g ?_ _ | refine q0h ?_ | refine q0f ?_ _));exact BK192.out) hb);have n2_ := Aside0.mk (q0l (by repeat (first | (with_reducible first | exact HB.out | apply q0b | apply q0a | apply q0c | refine q0i ?_ GE191.out | refine q0i ?_ GE192.out) | exact HB.out)) hb);clear BK191;clear BK192;clear HB;have BK191 := n0_;have BK192 := n1_;have HB := n2_;clear n0_ n1_ n2_;(try clear hb);(try clear hb2);(try clear hk);(try clear hi)))
       go_ret
       exact ⟨by first | rfl | (simp [q0m,q0n] <;> rfl) | (simp [*,q0m,q0n] <;> rfl),by repeat (first | (with_reducible first | exact HB.out | apply q0b | apply q0a | apply q0c | refine q0i ?_ GE191.out | refine q0i ?_ GE192.out) | exact HB.out)⟩
end Go.Proofs.Ythmbfcfomcaaaaa.Z
end
