/-
  verdererlaw20.PickNil: for every input the law returns true, and each argument reads behind the call as it read before. No condition.
-/
import Derived.Test.YthmbfcfomcaaaaaMPickNila
import Derived.Test.YthmbfcfomcaaaaaMPickNilb
import Derived.Test.YthmbfcfomcaaaaaMPickNilc
import Derived.Test.YthmbfcfomcaaaaaMPickNild
import Derived.Test.YthmbfcfomcaaaaaRows
import Derived.WalkKit
import Derived.ProofKit
import Derived.OpenShut
import Derived.ShutString
import Derived.ChangeOld
import Derived.Below
import Derived.Laws.Cover2
section
namespace Go.Proofs.Ythmbfcfomcaaaaa.Z
set_option linter.unusedVariables false
set_option linter.unusedSimpArgs false
open Go.RowKit Go.Proofs.YthmbfcfomcaaaaaW.PrintWords Go.Proofs.YthmbfcfomcaaaaaW.PrintLast Go.Proofs.YthmbfcfomcaaaaaW.PrintMore Go.Proofs.Ythmbfcfomcaaaaa.Cmp
def mayD (L : List En) : List En → Int → Int
  | [],rows => if 1500 < rows then 6 else 0
  | e :: es,rows => if manyD e.f0 L + e.f1 < 0 ∨ 1073741824 < manyD e.f0 L + e.f1 then 10 else mayD L es (if manyD e.f0 L = 0 then rows + 1 else if manyD e.f0 L + e.f1 = 0 then rows - 1 else rows)
def tv (L : List En) (e : En) : Int := if manyD e.f0 L = 0 then 1 else if manyD e.f0 L + e.f1 = 0 then -1 else 0
def tell1 (L : List En) (e : En) : List En := if manyD e.f0 L = 0 then [⟨e.f0,1⟩] else if manyD e.f0 L + e.f1 = 0 then [⟨e.f0,-1⟩] else []
def tellD (L net : List En) : List En := net.flatMap (tell1 L)
def appD (l L : List En) : Int × List En × List En :=
  if (ofD l []).1 = 0 then (if mayD L (ofD l []).2 L.length = 0 then (0,tellD L (ofD l []).2,mulD 1 (ofD l []).2 L) else (mayD L (ofD l []).2 L.length,[],L)) else ((ofD l []).1,[],L)
def PosD (L : List En) : Prop := ∀ x ∈ L,1 ≤ x.f1
def onesD (L : List En) : List En := L.map (fun x => ⟨x.f0,1⟩)
def cntD (L : List En) : List En → Int
  | [] => 0
  | e :: es => tv L e + cntD L es
def InM (L net : List En) : Prop := ∀ e ∈ net,0 ≤ manyD e.f0 L + e.f1 ∧ manyD e.f0 L + e.f1 ≤ 1073741824
theorem may_iff (L : List En) : ∀ (net : List En) (rows : Int),mayD L net rows = 0 ↔ InM L net ∧ rows + cntD L net ≤ 1500
  | [],rows => by
    simp only [mayD,cntD,InM]
    split
    · constructor
      · intro h;cases h
      · intro h;have := h.2;omega
    · exact ⟨fun _ => ⟨fun e h => (by cases h),by omega⟩,fun _ => rfl⟩
  | e :: es,rows => by
    simp only [mayD,cntD]
    by_cases h : manyD e.f0 L + e.f1 < 0 ∨ 1073741824 < manyD e.f0 L + e.f1
    · rw [if_pos h]
      constructor
      · intro q;cases q
      · intro q;have := q.1 e (by simp);omega
    · rw [if_neg h,may_iff L es]
      have hc : (if manyD e.f0 L = 0 then rows + 1 else if manyD e.f0 L + e.f1 = 0 then rows - 1 else rows) = rows + tv L e := by
        unfold tv;split
        · rfl
        · split <;> omega
      rw [hc]
      constructor
      · rintro ⟨h1,h2⟩
        refine ⟨fun x hx => ?_,by omega⟩
        rcases List.mem_cons.1 hx with q | q
        · subst q;omega
        · exact h1 x q
      · rintro ⟨h1,h2⟩
        exact ⟨fun x hx => h1 x (List.mem_cons_of_mem _ hx),by omega⟩
theorem inB_all {L net : List En} (hn : OkD net) (hb : InM L net) : allD 1 net L = true := by
  unfold allD
  rw [List.all_eq_true]
  intro e he
  have h1 := hb e he
  have h2 := hn e he
  unfold okAdd
  rw [Int.mul_one,Bool.and_eq_true,Bool.and_eq_true,decide_eq_true_eq,decide_eq_true_eq,few_iff]
  omega
theorem mul_app (m : Int) : ∀ (a b L : List En),mulD m (a ++ b) L = mulD m b (mulD m a L)
  | [],b,L => rfl
  | e :: a,b,L => mul_app m a b _
theorem many_mul {T1 T2 : List En} {e : En} {L : List En} (ht : SrtD (T1 ++ e :: T2)) (kt : OkD (T1 ++ e :: T2)) (hs : SrtD L) (hk : OkD L) (ha : allD 1 (T1 ++ e :: T2) L = true) : manyD e.f0 (mulD 1 T1 L) = manyD e.f0 L := by
  have s1 : SrtD T1 := (List.pairwise_append.1 ht).1
  have a1 : allD 1 T1 L = true := by
    unfold allD at ha ⊢
    rw [List.all_append,Bool.and_eq_true] at ha
    exact ha.1
  rw [(mul_law 1 T1 L s1 (fun x hx => kt x (List.mem_append_left _ hx)) hs hk a1).2.2,sumE_none,Int.add_zero]
  intro y hy
  have := (List.pairwise_append.1 ht).2.2 y hy e (by simp)
  have := rcmp_anti y.f0 e.f0
  omega
theorem mul_step {T1 T2 : List En} {e : En} {L : List En} (ht : SrtD (T1 ++ e :: T2)) (kt : OkD (T1 ++ e :: T2)) (hs : SrtD L) (hk : OkD L) (ha : allD 1 (T1 ++ e :: T2) L = true) : addD e.f0 e.f1 (mulD 1 T1 L) = (0,mulD 1 (T1 ++ [e]) L) := by
  have h1 := many_mul ht kt hs hk ha
  have h2 : okAdd e.f0 (e.f1 * 1) L = true := by
    unfold allD at ha
    exact List.all_eq_true.1 ha e (by simp)
  rw [Int.mul_one] at h2
  have h3 : okAdd e.f0 e.f1 (mulD 1 T1 L) = true := by
    unfold okAdd at h2 ⊢
    rw [h1];exact h2
  rw [mul_app]
  show _ = (0,(addD e.f0 (e.f1 * 1) (mulD 1 T1 L)).2)
  rw [Int.mul_one,add_some (kt e (by simp)).1 h3]
theorem many_pos {L : List En} (h : PosD L) (r : Rw) : 0 ≤ manyD r L := by
  unfold manyD
  split
  · rename_i x hx
    have := h x (List.mem_of_find?_eq_some hx)
    omega
  · exact Int.le_refl 0
theorem many_zero {L : List En} (hk : OkD L) {r : Rw} : manyD r L = 0 ↔ fndD r L = none := by
  unfold manyD
  split
  · rename_i x hx
    rw [hx]
    have := (hk x (List.mem_of_find?_eq_some hx)).2.1
    simp [this]
  · rename_i hx
    simp [hx]
theorem fnd_ones (L : List En) (r : Rw) : fndD r (onesD L) = (fndD r L).map (fun x => ⟨x.f0,1⟩) := by
  unfold fndD onesD
  rw [List.find?_map]
  rfl
theorem many_ones {L : List En} (hk : OkD L) (r : Rw) : manyD r (onesD L) = if manyD r L = 0 then 0 else 1 := by
  by_cases h : manyD r L = 0
  · rw [if_pos h]
    have h2 := (many_zero hk).1 h
    unfold manyD
    rw [fnd_ones,h2]
    rfl
  · rw [if_neg h]
    have h2 : fndD r L ≠ none := fun q => h ((many_zero hk).2 q)
    obtain ⟨x,hx⟩ := Option.ne_none_iff_exists'.1 h2
    unfold manyD
    rw [fnd_ones,hx]
    rfl
theorem ones_srt {L : List En} (h : SrtD L) : SrtD (onesD L) := by
  unfold SrtD onesD
  rw [List.pairwise_map]
  exact h
theorem ones_ok {L : List En} (h : OkD L) : OkD (onesD L) := fun x hx => by
  obtain ⟨y,hy,rfl⟩ := List.mem_map.1 hx
  refine ⟨(h y hy).1,?_⟩
  simp only
  omega
theorem tell_mem {L : List En} {e y : En} (h : y ∈ tell1 L e) : y = ⟨e.f0,tv L e⟩ ∧ (tv L e = 1 ∨ tv L e = -1) := by
  unfold tell1 at h
  unfold tv
  split at h
  · rename_i q;rw [if_pos q];exact ⟨by simpa using h,.inl rfl⟩
  · rename_i q
    rw [if_neg q]
    split at h
    · rename_i q2;rw [if_pos q2];exact ⟨by simpa using h,.inr rfl⟩
    · cases h
theorem tell_srt {L net : List En} (h : SrtD net) : SrtD (tellD L net) := by
  unfold SrtD tellD
  rw [List.pairwise_flatMap]
  refine ⟨fun e _ => ?_,List.Pairwise.imp (fun {a b} hab x hx y hy => ?_) h⟩
  · unfold tell1;split
    · exact List.pairwise_singleton _ _
    · split
      · exact List.pairwise_singleton _ _
      · exact List.Pairwise.nil
  · rw [(tell_mem hx).1,(tell_mem hy).1];exact hab
theorem tell_ok {L net : List En} (h : OkD net) : OkD (tellD L net) := fun x hx => by
  obtain ⟨e,he,hy⟩ := List.mem_flatMap.1 hx
  obtain ⟨h1,h2⟩ := tell_mem hy
  subst h1
  refine ⟨(h e he).1,?_⟩
  simp only
  omega
theorem tell_cons (L : List En) (e : En) (es : List En) : tellD L (e :: es) = tell1 L e ++ tellD L es := rfl
theorem sum_tell1 (L : List En) (e : En) (r : Rw) : sumE 1 r (tell1 L e) = atD r e.f0 (tv L e) := by
  unfold tell1 tv
  split
  · simp [sumE]
  · split
    · simp [sumE]
    · simp [sumE,atD]
theorem tell_none (L : List En) {r : Rw} : ∀ {net : List En},(∀ y ∈ net,rcmp r y.f0 ≠ 0) → sumE 1 r (tellD L net) = 0
  | [],_ => rfl
  | e :: es,h => by
    rw [tell_cons,sumE_app,sum_tell1,tell_none L (fun y hy => h y (List.mem_cons_of_mem _ hy))]
    unfold atD
    rw [if_neg (h e (by simp))]
    rfl
theorem tell_sum (L : List En) : ∀ {net : List En},SrtD net → ∀ {x : En},x ∈ net → sumE 1 x.f0 (tellD L net) = tv L x
  | [],_,_,hx => by cases hx
  | e :: es,h,x,hx => by
    obtain ⟨h1,h2⟩ := h.cons
    rw [tell_cons,sumE_app,sum_tell1]
    rcases List.mem_cons.1 hx with q | q
    · subst q
      rw [atD_self,tell_none L (fun y hy => by have := h1 y hy;omega)]
      omega
    · rw [tell_sum L h2 q]
      have c1 := h1 x q
      have := rcmp_anti x.f0 e.f0
      unfold atD
      rw [if_neg (by omega)]
      omega
theorem sum_eq {r r' : Rw} (c : rcmp r r' = 0) : ∀ T : List En,sumE 1 r T = sumE 1 r' T
  | [] => rfl
  | e :: T => by
    simp only [sumE]
    rw [sum_eq c T]
    unfold atD
    rw [rcmp_law.eq_left e.f0 c]
theorem hit_or (r : Rw) (net : List En) : (∃ e ∈ net,rcmp r e.f0 = 0) ∨ ∀ y ∈ net,rcmp r y.f0 ≠ 0 := by
  by_cases h : ∃ e ∈ net,rcmp r e.f0 = 0
  · exact .inl h
  · exact .inr (fun y hy q => h ⟨y,hy,q⟩)
structure OnceD (L : List En) : Prop where
  srt : SrtD L
  ok : OkD L
  pos : PosD L
  few : L.length ≤ 1500
theorem once_nil : OnceD [] := ⟨List.Pairwise.nil,fun x hx => (by cases hx),fun x hx => (by cases hx),by simp⟩
theorem len_put {L : List En} (hs : SrtD L) (hk : OkD L) {e : En} (hr : rright e.f0 = true) (h0 : e.f1 ≠ 0) (ho : okAdd e.f0 e.f1 L = true) : (((addD e.f0 e.f1 L).2.length : Nat) : Int) = L.length + tv L e := by
  rw [add_some hr ho]
  have h1 := putD_len e.f0 (manyD e.f0 L + e.f1) hs
  simp only
  unfold tv
  by_cases q : manyD e.f0 L = 0
  · rw [if_pos q]
    rw [(many_zero hk).1 q,q] at h1
    rw [q]
    rw [if_neg (by omega)] at h1
    simp only [Option.toList_none,List.length_nil] at h1
    omega
  · rw [if_neg q]
    have h2 : fndD e.f0 L ≠ none := fun q2 => q ((many_zero hk).2 q2)
    obtain ⟨x,hx⟩ := Option.ne_none_iff_exists'.1 h2
    rw [hx] at h1
    simp only [Option.toList_some,List.length_cons,List.length_nil] at h1
    by_cases q2 : manyD e.f0 L + e.f1 = 0
    · rw [if_pos q2] at h1 ⊢;omega
    · rw [if_neg q2] at h1 ⊢;omega
theorem cnt_same {L L2 : List En} : ∀ {net : List En},(∀ y ∈ net,manyD y.f0 L2 = manyD y.f0 L) → cntD L2 net = cntD L net
  | [],_ => rfl
  | e :: es,h => by
    simp only [cntD]
    rw [cnt_same (fun y hy => h y (List.mem_cons_of_mem _ hy))]
    unfold tv
    rw [h e (by simp)]
theorem len_mul : ∀ (net L : List En),SrtD net → OkD net → SrtD L → OkD L → allD 1 net L = true → ((mulD 1 net L).length : Int) = L.length + cntD L net
  | [],L,_,_,_,_,_ => by simp [mulD,cntD]
  | e :: es,L,ho,ko,hs,hk,ha => by
    have hst := mul_step (T1 := []) (T2 := es) ho ko hs hk ha
    have ha1 : okAdd e.f0 (e.f1 * 1) L = true := by unfold allD at ha;exact List.all_eq_true.1 ha e (by simp)
    rw [Int.mul_one] at ha1
    obtain ⟨i1,i2⟩ := addD_inv (r := e.f0) (m := e.f1) hs hk
    have h1 := len_put hs hk (ko e (by simp)).1 (ko e (by simp)).2.1 ha1
    obtain ⟨o1,o2⟩ := ho.cons
    have hm : ∀ y ∈ es,manyD y.f0 (addD e.f0 e.f1 L).2 = manyD y.f0 L := fun y hy => by
      rw [many_add y.f0 e.f0 e.f1 hs (ko e (by simp)).1 ha1]
      have c1 := o1 y hy
      have := rcmp_anti y.f0 e.f0
      unfold atD
      rw [if_neg (by omega)]
      omega
    have hal : allD 1 es (addD e.f0 e.f1 L).2 = true := by
      unfold allD at ha ⊢
      rw [List.all_eq_true] at ha ⊢
      intro y hy
      have h1 := ha y (List.mem_cons_of_mem _ hy)
      unfold okAdd at h1 ⊢
      rw [hm y hy];exact h1
    have h2 := len_mul es _ o2 (fun x hx => ko x (List.mem_cons_of_mem _ hx)) i1 i2 hal
    show ((mulD 1 es (addD e.f0 (e.f1 * 1) L).2).length : Int) = _
    rw [Int.mul_one,h2,h1,cnt_same hm]
    simp only [cntD]
    omega
theorem ones_law {L net : List En} (hL : OnceD L) (ho : SrtD net) (ko : OkD net) (hb : InM L net) (hc : (L.length : Int) + cntD L net ≤ 1500) :
    OnceD (mulD 1 net L) ∧ allD 1 (tellD L net) (onesD L) = true ∧ mulD 1 (tellD L net) (onesD L) = onesD (mulD 1 net L) := by
  have ha := inB_all ko hb
  obtain ⟨j1,j2,j3⟩ := mul_law 1 net L ho ko hL.srt hL.ok ha
  have hp : ∀ r,0 ≤ manyD r (mulD 1 net L) := fun r => by
    rw [j3]
    rcases hit_or r net with ⟨e,he,c⟩ | h
    · rw [many_eq L c,sum_eq c,sumE_mem 1 ho he,Int.mul_one]
      exact (hb e he).1
    · rw [sumE_none 1 h,Int.add_zero]
      exact many_pos hL.pos r
  have hal : allD 1 (tellD L net) (onesD L) = true := by
    unfold allD
    rw [List.all_eq_true]
    intro y hy
    obtain ⟨e,he,hy⟩ := List.mem_flatMap.1 hy
    obtain ⟨h1,h2⟩ := tell_mem hy
    subst h1
    have h3 := many_ones hL.ok e.f0
    unfold okAdd
    simp only
    rw [Int.mul_one,Bool.and_eq_true,Bool.and_eq_true,decide_eq_true_eq,decide_eq_true_eq,few_iff]
    split at h3 <;> omega
  obtain ⟨k1,k2,k3⟩ := mul_law 1 (tellD L net) (onesD L) (tell_srt ho) (tell_ok ko) (ones_srt hL.srt) (ones_ok hL.ok) hal
  refine ⟨⟨j1,j2,fun x hx => ?_,?_⟩,hal,?_⟩
  · have h1 := hp x.f0
    rw [many_mem j1 hx] at h1
    have := (j2 x hx).2.1
    omega
  · have := len_mul net L ho ko hL.srt hL.ok ha
    omega
  · refine doc_ext k1 (ones_srt j1) k2 (ones_ok j2) (fun r _ => ?_)
    rw [k3,many_ones hL.ok,many_ones j2,j3]
    rcases hit_or r net with ⟨e,he,c⟩ | h
    · have h2 := hb e he
      have h3 := (ko e he).2.1
      rw [many_eq L c,sum_eq c,sum_eq c,sumE_mem 1 ho he,tell_sum L ho he,Int.mul_one]
      unfold tv
      by_cases q : manyD e.f0 L = 0
      · rw [if_pos q,if_pos q,if_neg (by omega)];rfl
      · rw [if_neg q,if_neg q]
        by_cases q2 : manyD e.f0 L + e.f1 = 0
        · rw [if_pos q2,if_pos q2];rfl
        · rw [if_neg q2,if_neg q2];rfl
    · rw [sumE_none 1 h,tell_none L h,Int.add_zero,Int.add_zero]
def backD (net : List En) : List En := net.map (fun e => ⟨e.f0,-e.f1⟩)
theorem back_srt {L : List En} (h : SrtD L) : SrtD (backD L) := by
  unfold SrtD backD
  rw [List.pairwise_map]
  exact h
theorem back_ok {L : List En} (h : OkD L) : OkD (backD L) := fun x hx => by
  obtain ⟨y,hy,rfl⟩ := List.mem_map.1 hx
  have := h y hy
  refine ⟨this.1,?_⟩
  simp only
  omega
theorem of_all : ∀ (l pre : List En),SrtD (pre ++ l) → OkD l → ofD l pre = (0,pre ++ l)
  | [],pre,_,_ => by rw [List.append_nil];rfl
  | e :: l,pre,hs,hk => by
    have h1 := hk e (by simp)
    have hs2 : SrtD ((pre ++ [e]) ++ l) := by rw [List.append_assoc];exact hs
    have h2 := copy_step (List.pairwise_append.1 hs2).1 h1.1 h1.2.1 (few_iff.2 h1.2.2)
    simp only [ofD]
    rw [h2]
    simp only
    rw [if_pos trivial,of_all l (pre ++ [e]) hs2 (fun x hx => hk x (List.mem_cons_of_mem _ hx)),List.append_assoc]
    rfl
theorem sum_back (r : Rw) : ∀ T : List En,sumE 1 r (backD T) = - sumE 1 r T
  | [] => rfl
  | e :: T => by
    have := sum_back r T
    unfold backD at this ⊢
    simp only [List.map_cons,sumE]
    rw [this]
    unfold atD
    split <;> omega
theorem back_law {L net : List En} (hL : OnceD L) (ho : SrtD net) (ko : OkD net) (hb : InM L net) (hc : (L.length : Int) + cntD L net ≤ 1500) :
    ∃ T,appD (backD net) (mulD 1 net L) = (0,T,L) ∧ T.length = (tellD L net).length := by
  have ha := inB_all ko hb
  obtain ⟨j1,j2,j3⟩ := mul_law 1 net L ho ko hL.srt hL.ok ha
  have hw : ∀ e ∈ net,manyD e.f0 (mulD 1 net L) = manyD e.f0 L + e.f1 := fun e he => by
    rw [j3,sumE_mem 1 ho he,Int.mul_one]
  have hb2 : InM (mulD 1 net L) (backD net) := fun e he => by
    obtain ⟨y,hy,rfl⟩ := List.mem_map.1 he
    simp only
    rw [hw y hy]
    have h1 := many_pos hL.pos y.f0
    have h2 := many_bd (r := y.f0) hL.ok
    omega
  have ha2 := inB_all (back_ok ko) hb2
  obtain ⟨k1,k2,k3⟩ := mul_law 1 (backD net) (mulD 1 net L) (back_srt ho) (back_ok ko) j1 j2 ha2
  have hL2 : mulD 1 (backD net) (mulD 1 net L) = L := doc_ext k1 hL.srt k2 hL.ok (fun r _ => by rw [k3,j3,sum_back];omega)
  have hlen := len_mul (backD net) (mulD 1 net L) (back_srt ho) (back_ok ko) j1 j2 ha2
  rw [hL2] at hlen
  have hf := hL.few
  have hof := of_all (backD net) [] (back_srt ho) (back_ok ko)
  refine ⟨tellD (mulD 1 net L) (backD net),?_,?_⟩
  · unfold appD
    rw [hof]
    simp only [List.nil_append]
    rw [if_pos trivial,if_pos ((may_iff _ _ _).2 ⟨hb2,by omega⟩),hL2]
  · have : ∀ T : List En,(∀ e ∈ T,e ∈ net) → (tellD (mulD 1 net L) (backD T)).length = (tellD L T).length := fun T => by
      induction T with
      | nil => intro _;rfl
      | cons e T ih =>
        intro hT
        have he := hT e (by simp)
        show (tellD (mulD 1 net L) (⟨e.f0,-e.f1⟩ :: backD T)).length = _
        rw [tell_cons,tell_cons,List.length_append,List.length_append,ih (fun x hx => hT x (List.mem_cons_of_mem _ hx))]
        congr 1
        unfold tell1
        simp only
        rw [hw e he]
        have h0 := (ko e he).2.1
        by_cases q : manyD e.f0 L = 0
        · rw [if_pos q]
          rw [if_neg (by omega),if_pos (by omega)]
          rfl
        · rw [if_neg q]
          by_cases q2 : manyD e.f0 L + e.f1 = 0
          · rw [if_pos q2,if_pos q2];rfl
          · rw [if_neg q2,if_neg q2,if_neg (by omega)]
    exact this net (fun e he => he)
theorem of_inv : ∀ (l L : List En),SrtD L → OkD L → SrtD (ofD l L).2 ∧ OkD (ofD l L).2 ∧ (ofD l L).2.length ≤ L.length + l.length
  | [],L,hs,hk => ⟨hs,hk,Nat.le_refl _⟩
  | e :: l,L,hs,hk => by
    simp only [ofD]
    split
    · obtain ⟨i1,i2⟩ := addD_inv (r := e.f0) (m := e.f1) hs hk
      obtain ⟨h1,h2,h3⟩ := of_inv l _ i1 i2
      have := addD_len e.f0 e.f1 hs
      exact ⟨h1,h2,by simp only [List.length_cons];omega⟩
    · exact ⟨hs,hk,by simp only [List.length_cons];omega⟩
theorem app_law {l L : List En} (hL : OnceD L) : OnceD (appD l L).2.2 ∧ mulD 1 (appD l L).2.1 (onesD L) = onesD (appD l L).2.2 ∧ SrtD (appD l L).2.1 ∧ OkD (appD l L).2.1 ∧ allD 1 (appD l L).2.1 (onesD L) = true ∧ ((appD l L).1 ≠ 0 → (appD l L).2.1 = [] ∧ (appD l L).2.2 = L)
    ∧ ((appD l L).1 = 0 → (ofD l []).1 = 0 ∧ ∃ T,appD (backD (ofD l []).2) (appD l L).2.2 = (0,T,L) ∧ T.length = (appD l L).2.1.length) := by
  obtain ⟨n1,n2,_⟩ := of_inv l [] List.Pairwise.nil (fun x hx => (by cases hx))
  unfold appD
  by_cases h : (ofD l []).1 = 0
  · rw [if_pos h]
    by_cases h2 : mayD L (ofD l []).2 L.length = 0
    · rw [if_pos h2]
      obtain ⟨hb,hc⟩ := (may_iff _ _ _).1 h2
      obtain ⟨h3,h4,h5⟩ := ones_law hL n1 n2 hb hc
      obtain ⟨T,h6,h7⟩ := back_law hL n1 n2 hb hc
      exact ⟨h3,h5,tell_srt n1,tell_ok n2,h4,fun q => absurd rfl q,fun _ => ⟨h,T,h6,h7⟩⟩
    · rw [if_neg h2]
      exact ⟨hL,rfl,List.Pairwise.nil,fun x hx => (by cases hx),rfl,fun _ => ⟨rfl,rfl⟩,fun q => absurd q h2⟩
  · rw [if_neg h]
    exact ⟨hL,rfl,List.Pairwise.nil,fun x hx => (by cases hx),rfl,fun _ => ⟨rfl,rfl⟩,fun q => absurd q h⟩
end Go.Proofs.Ythmbfcfomcaaaaa.Z
end
section
namespace Go.Proofs.Ythmbfcfomcaaaaa.Z
open Go.RowKit Go.Proofs.YthmbfcfomcaaaaaW.PrintWords Go.Proofs.YthmbfcfomcaaaaaW.PrintLast Go.Proofs.YthmbfcfomcaaaaaW.PrintMore
attribute [local go_sem] max2_int min2_int max_two min_two max_three min_three max_four min_four
set_option linter.unusedVariables false
set_option linter.unusedSimpArgs false
def row_Same.f (k : Nat) (l0 : List (S66)) (l1 : List (S66)) : Option (Bool) := (row_Compare.f k l0 l1).bind fun t146 => (some (t146 == 0))
theorem row_Same.mono : ∀ a0 a1 k,LeO (row_Same.f k a0 a1) (row_Same.f (k + 1) a0 a1) := by
  intro a0 a1 k
  unfold row_Same.f
  repeat' first
      | (with_reducible exact row_Compare.mono _ _ _)
      | (with_reducible exact LeO.refl _)
      | (with_reducible exact LeO.none _)
      | (with_reducible refine LeO.ite ?_ ?_)
      | (with_reducible refine LeO.bind ?_ (fun _ => ?_))
      | exact row_Compare.mono _ _ _
      | exact LeO.none _
      | refine LeO.ite ?_ ?_
      | refine LeO.bind ?_ (fun _ => ?_)
set_option maxHeartbeats 8000000 in
set_option maxRecDepth 100000 in
theorem row_Same.calls (k : Nat) (A0 : Option Addr) (c0 : Nat) (l0 : List (S66)) (A1 : Option Addr) (c1 : Nat) (l1 : List (S66)) (r : Bool) (w : World) (hr0 : Kd.C k66 w A0 l0.length l0) (hc0 : l0.length ≤ c0) (hr1 : Kd.C k66 w A1 l1.length l1) (hc1 : l1.length ≤ c1) (h : row_Same.f k l0 l1 = some r) :
    Calls Try.prog 74 #[.slice A0 l0.length c0,.slice A1 l1.length c1] w fun e w' => e = .returned (.bool r) ∧ Below w.heap.size w w' := by
  have HR0 := Aside0.mk hr0
  have HC0 := Aside0.mk hc0
  clear hr0 hc0
  have HR1 := Aside0.mk hr1
  have HC1 := Aside0.mk hc1
  clear hr1 hc1
  have HB := Aside0.mk (Below.refl w.heap.size w)
  have H : ((row_Compare.f k l0 l1).bind fun t146 => (some (t146 == 0))) = some r := h
  clear h
  replace H := Option.bind_eq_some_iff.mp H
  obtain ⟨t146,A30,H⟩ := H
  replace H : (some (t146 == 0)) = some r := H
  have A3 := Aside0.mk A30
  clear A30
  obtain rfl := Option.some.inj H
  go_enter Try.func74,Try.ntmps74
  go_wp2_with (first | ((with_reducible refine gate_callee (f := 93) rfl ?_);refine goesL_ (some 7) rfl rfl Try.func93 (by kernel_rfl) rfl #[.slice A0 l0.length c0,.slice A1 l1.length c1] rfl (by (try simp only [List.map_toArray,List.map_cons,List.map_nil]);first | done | rfl | (simp only [List.length_drop,List.length_take];rfl)) ?_;(with_reducible refine (row_Compare.calls k _ _ l0 _ _ l1 t146 _ ?side1 ?side2 ?side3 ?side4 A3.out).mono ?_);(case side1 => repeat (first | exact HR0.out | (with_reducible refine Kd.C_alloc ?_ _) | (with_reducible refine Kd.C_drewN ?_ _) | (with_reducible refine Kd.C_drew ?_)));(case side2 => exact HC0.out);(case side3 => repeat (first | exact HR1.out | (with_reducible refine Kd.C_alloc ?_ _) | (with_reducible refine Kd.C_drewN ?_ _) | (with_reducible refine Kd.C_drew ?_)));(case side4 => exact HC1.out);rintro e w4 ⟨rfl,hb⟩;refine ⟨_,rfl,?_⟩;have n0_ := Aside0.mk (below_step (by repeat (first | (with_reducible first | exact HB.out | apply below_alloc | apply pw_below_drewN | apply below_drew1) | exact HB.out)) hb);clear HB;have HB := n0_;clear n0_;(try clear hb);(try clear hb2);(try clear hk);(try clear hi)))
  go_ret
  exact ⟨by first | rfl | (simp [errW_none,errW_some] <;> rfl) | (simp [*,errW_none,errW_some] <;> rfl),by repeat (first | (with_reducible first | exact HB.out | apply below_alloc | apply pw_below_drewN | apply below_drew1) | exact HB.out)⟩
end Go.Proofs.Ythmbfcfomcaaaaa.Z
end
section
namespace Go.Proofs.Ythmbfcfomcaaaaa.Z
open Go.RowKit Go.Proofs.YthmbfcfomcaaaaaW.PrintWords Go.Proofs.YthmbfcfomcaaaaaW.PrintLast Go.Proofs.YthmbfcfomcaaaaaW.PrintMore
attribute [local go_sem] max2_int min2_int max_two min_two max_three min_three max_four min_four
set_option linter.unusedVariables false
set_option linter.unusedSimpArgs false
def bag_Same_1.f (k : Nat) (l0_0 : List (S66)) (a0_1 : Int) (l1_0 : List (S66)) (a1_1 : Int) : Option (Bool) := if a0_1 = a1_1 then ((row_Same.f k l0_0 l1_0).bind fun t254 => (some t254)) else (some false)
theorem bag_Same_1.mono : ∀ a0 a1 a2 a3 k,LeO (bag_Same_1.f k a0 a1 a2 a3) (bag_Same_1.f (k + 1) a0 a1 a2 a3) := by
  intro a0 a1 a2 a3 k
  unfold bag_Same_1.f
  repeat' first
      | (with_reducible exact row_Same.mono _ _ _)
      | (with_reducible exact LeO.refl _)
      | (with_reducible exact LeO.none _)
      | (with_reducible refine LeO.ite ?_ ?_)
      | (with_reducible refine LeO.bind ?_ (fun _ => ?_))
      | exact row_Same.mono _ _ _
      | exact LeO.none _
      | refine LeO.ite ?_ ?_
      | refine LeO.bind ?_ (fun _ => ?_)
set_option maxHeartbeats 8000000 in
set_option maxRecDepth 100000 in
theorem bag_Same_1.calls (k : Nat) (A0_0 : Option Addr) (c0_0 : Nat) (l0_0 : List (S66)) (a0_1 : Int) (A1_0 : Option Addr) (c1_0 : Nat) (l1_0 : List (S66)) (a1_1 : Int) (r : Bool) (w : World) (hr0_0 : Kd.C k66 w A0_0 l0_0.length l0_0) (hc0_0 : l0_0.length ≤ c0_0) (hr1_0 : Kd.C k66 w A1_0 l1_0.length l1_0) (hc1_0 : l1_0.length ≤ c1_0) (h : bag_Same_1.f k l0_0 a0_1 l1_0 a1_1 = some r) :
    Calls Try.prog 73 #[.agg #[.slice A0_0 l0_0.length c0_0,.int .i64 a0_1],.agg #[.slice A1_0 l1_0.length c1_0,.int .i64 a1_1]] w fun e w' => e = .returned (.bool r) ∧ Below w.heap.size w w' := by
  have hu34 := Try.underlying34
  have HR0_0 := Aside0.mk hr0_0
  have HC0_0 := Aside0.mk hc0_0
  clear hr0_0 hc0_0
  have HR1_0 := Aside0.mk hr1_0
  have HC1_0 := Aside0.mk hc1_0
  clear hr1_0 hc1_0
  have HB := Aside0.mk (Below.refl w.heap.size w)
  have H : (if a0_1 = a1_1 then ((row_Same.f k l0_0 l1_0).bind fun t254 => (some t254)) else (some false)) = some r := h
  clear h
  by_cases c3 : a0_1 = a1_1
  · rw [if_pos c3] at H
    have c3b0 : (a0_1 == a1_1) = true := beq_iff_eq.mpr c3
    have c3b1 : (a0_1 != a1_1) = false := bne_eq_false_iff_eq.mpr c3
    clear c3
    replace H := Option.bind_eq_some_iff.mp H
    obtain ⟨t254,A40,H⟩ := H
    replace H : (some t254) = some r := H
    have A4 := Aside0.mk A40
    clear A40
    obtain rfl := Option.some.inj H
    go_enter Try.func73,Try.ntmps73
    go_wp2_with (first | ((with_reducible refine gate_dst (N := 2) rfl ?_);refine box_event ?hg (N := 2) ?hd (cs := #[.slice A0_0 l0_0.length c0_0,.int .i64 a0_1]) (t := 34) ?hr ?_;(case hd => rfl);(case hg => rfl);(case hr => first | (go_simp;done) | (go_simp;rfl));intro gb252 hg w5 hbox hb;have n0_ := Aside0.mk (below_step (by repeat (first | (with_reducible first | exact HB.out | apply below_alloc | apply pw_below_drewN | apply below_drew1) | exact HB.out)) hb);have n1_ := Aside0.mk (hbox);have n2_ := Aside0.mk ((by rw [hg];exact (below_size (by repeat (first | (with_reducible first | exact HB.out | apply below_alloc | apply pw_below_drewN | apply below_drew1) | exact HB.out))) : w.heap.size ≤ gb252));have n3_ := Aside0.mk ((by rw [hg];exact (below_size (by repeat (first | (with_reducible first | exact HB.out | apply below_alloc | apply pw_below_drewN | apply below_drew1) | exact HB.out))) : w.heap.size ≤ gb252));clear HB;have HB := n0_;have BK252 := n1_;have GW252 := n2_;have GE252 := n3_;clear n0_ n1_ n2_ n3_;clear hb hbox hg) | ((with_reducible refine gate_dst (N := 3) rfl ?_);refine box_event ?hg (N := 3) ?hd (cs := #[.slice A1_0 l1_0.length c1_0,.int .i64 a1_1]) (t := 34) ?hr ?_;(case hd => rfl);(case hg => rfl);(case hr => first | (go_simp;done) | (go_simp;rfl));intro gb253 hg w6 hbox hb;have n0_ := Aside0.mk (blk_below (g := gb252) (o := .cells #[.slice A0_0 l0_0.length c0_0,.int .i64 a0_1] 34 (0,0)) (by (with_reducible repeat (first | refine blk_drewN ?_ _ | refine blk_drew ?_ | refine blk_alloc ?_ _));exact BK252.out) hb);have n1_ := Aside0.mk (below_step (by repeat (first | (with_reducible first | exact HB.out | apply below_alloc | apply pw_below_drewN | apply below_drew1 | refine below_set ?_ GE252.out) | exact HB.out)) hb);have n2_ := Aside0.mk (hbox);have n3_ := Aside0.mk ((by rw [hg];exact (below_size (by repeat (first | (with_reducible first | exact HB.out | apply below_alloc | apply pw_below_drewN | apply below_drew1 | refine below_set ?_ GE252.out) | exact HB.out))) : w.heap.size ≤ gb253));have n4_ := Aside0.mk ((by rw [hg];exact (below_size (by repeat (first | (with_reducible first | exact HB.out | apply below_alloc | apply pw_below_drewN | apply below_drew1 | refine below_set ?_ GE252.out) | exact HB.out))) : w.heap.size ≤ gb253));have n5_ := Aside0.mk ((by rw [hg];exact Nat.ne_of_lt (blk_lt (g := gb252) (o := .cells #[.slice A0_0 l0_0.length c0_0,.int .i64 a0_1] 34 (0,0)) (by (with_reducible repeat (first | refine blk_drewN ?_ _ | refine blk_drew ?_ | refine blk_alloc ?_ _));exact BK252.out)) : gb252 ≠ gb253));have n6_ := Aside0.mk ((by rw [hg];exact Nat.ne_of_gt (blk_lt (g := gb252) (o := .cells #[.slice A0_0 l0_0.length c0_0,.int .i64 a0_1] 34 (0,0)) (by (with_reducible repeat (first | refine blk_drewN ?_ _ | refine blk_drew ?_ | refine blk_alloc ?_ _));exact BK252.out)) : gb253 ≠ gb252));clear BK252;clear HB;have BK252 := n0_;have HB := n1_;have BK253 := n2_;have GW253 := n3_;have GE253 := n4_;have NB252_253 := n5_;have NB253_252 := n6_;clear n0_ n1_ n2_ n3_ n4_ n5_ n6_;clear hb hbox hg;have hnb7 := NB252_253.out;have hnc7 := NB253_252.out;have hcz8_0 : w6.cell? ⟨gb252,0,none⟩ = some (.slice A0_0 l0_0.length c0_0) := (blk_cell BK252.out 0).trans rfl;have hcz8_1 : w6.cell? ⟨gb252,1,none⟩ = some (.int .i64 a0_1) := (blk_cell BK252.out 1).trans rfl;have hfz8_0 := blk_frozen BK252.out 0;have hfz8_1 := blk_frozen BK252.out 1;have hcz9_0 : w6.cell? ⟨gb253,0,none⟩ = some (.slice A1_0 l1_0.length c1_0) := (blk_cell BK253.out 0).trans rfl;have hcz9_1 : w6.cell? ⟨gb253,1,none⟩ = some (.int .i64 a1_1) := (blk_cell BK253.out 1).trans rfl;have hfz9_0 := blk_frozen BK253.out 0;have hfz9_1 := blk_frozen BK253.out 1) | (go_at_call 74;(with_reducible refine (row_Same.calls k _ _ l0_0 _ _ l1_0 t254 _ ?side1 ?side2 ?side3 ?side4 A4.out).mono ?_);(case side1 => repeat (first | exact (Kd.C_below HR0_0.out HB.out) | (with_reducible refine Kd.C_alloc ?_ _) | (with_reducible refine Kd.C_drewN ?_ _) | (with_reducible refine Kd.C_drew ?_)));(case side2 => exact HC0_0.out);(case side3 => repeat (first | exact (Kd.C_below HR1_0.out HB.out) | (with_reducible refine Kd.C_alloc ?_ _) | (with_reducible refine Kd.C_drewN ?_ _) | (with_reducible refine Kd.C_drew ?_)));(case side4 => exact HC1_0.out);rintro e w10 ⟨rfl,hb⟩;have n0_ := Aside0.mk (blk_below (g := gb252) (o := .cells #[.slice A0_0 l0_0.length c0_0,.int .i64 a0_1] 34 (0,0)) (by (with_reducible repeat (first | refine blk_drewN ?_ _ | refine blk_drew ?_ | refine blk_alloc ?_ _));exact BK252.out) hb);have n1_ := Aside0.mk (blk_below (g := gb253) (o := .cells #[.slice A1_0 l1_0.length c1_0,.int .i64 a1_1] 34 (0,0)) (by (with_reducible repeat (first | refine blk_drewN ?_ _ | refine blk_drew ?_ | refine blk_alloc ?_ _));exact BK253.out) hb);have n2_ := Aside0.mk (below_step (by repeat (first | (with_reducible first | exact HB.out | apply below_alloc | apply pw_below_drewN | apply below_drew1 | refine below_set ?_ GE252.out | refine below_set ?_ GE253.out) | exact HB.out)) hb);clear BK252;clear BK253;clear HB;have BK252 := n0_;have BK253 := n1_;have HB := n2_;clear n0_ n1_ n2_;(try clear hb);(try clear hb2);(try clear hk);(try clear hi)))
    go_ret
    exact ⟨by first | rfl | (simp [errW_none,errW_some] <;> rfl) | (simp [*,errW_none,errW_some] <;> rfl),by repeat (first | (with_reducible first | exact HB.out | apply below_alloc | apply pw_below_drewN | apply below_drew1 | refine below_set ?_ GE252.out | refine below_set ?_ GE253.out) | exact HB.out)⟩
  · rw [if_neg c3] at H
    have c3b0 : (a0_1 == a1_1) = false := beq_eq_false_iff_ne.mpr c3
    have c3b1 : (a0_1 != a1_1) = true := bne_iff_ne.mpr c3
    obtain rfl := Option.some.inj H
    go_enter Try.func73,Try.ntmps73
    go_wp2_with (first | ((with_reducible refine gate_dst (N := 2) rfl ?_);refine box_event ?hg (N := 2) ?hd (cs := #[.slice A0_0 l0_0.length c0_0,.int .i64 a0_1]) (t := 34) ?hr ?_;(case hd => rfl);(case hg => rfl);(case hr => first | (go_simp;done) | (go_simp;rfl));intro gb252 hg w11 hbox hb;have n0_ := Aside0.mk (below_step (by repeat (first | (with_reducible first | exact HB.out | apply below_alloc | apply pw_below_drewN | apply below_drew1) | exact HB.out)) hb);have n1_ := Aside0.mk (hbox);have n2_ := Aside0.mk ((by rw [hg];exact (below_size (by repeat (first | (with_reducible first | exact HB.out | apply below_alloc | apply pw_below_drewN | apply below_drew1) | exact HB.out))) : w.heap.size ≤ gb252));have n3_ := Aside0.mk ((by rw [hg];exact (below_size (by repeat (first | (with_reducible first | exact HB.out | apply below_alloc | apply pw_below_drewN | apply below_drew1) | exact HB.out))) : w.heap.size ≤ gb252));clear HB;have HB := n0_;have BK252 := n1_;have GW252 := n2_;have GE252 := n3_;clear n0_ n1_ n2_ n3_;clear hb hbox hg) | ((with_reducible refine gate_dst (N := 3) rfl ?_);refine box_event ?hg (N := 3) ?hd (cs := #[.slice A1_0 l1_0.length c1_0,.int .i64 a1_1]) (t := 34) ?hr ?_;(case hd => rfl);(case hg => rfl);(case hr => first | (go_simp;done) | (go_simp;rfl));intro gb253 hg w12 hbox hb;have n0_ := Aside0.mk (blk_below (g := gb252) (o := .cells #[.slice A0_0 l0_0.length c0_0,.int .i64 a0_1] 34 (0,0)) (by (with_reducible repeat (first | refine blk_drewN ?_ _ | refine blk_drew ?_ | refine blk_alloc ?_ _));exact BK252.out) hb);have n1_ := Aside0.mk (below_step (by repeat (first | (with_reducible first | exact HB.out | apply below_alloc | apply pw_below_drewN | apply below_drew1 | refine below_set ?_ GE252.out) | exact HB.out)) hb);have n2_ := Aside0.mk (hbox);have n3_ := Aside0.mk ((by rw [hg];exact (below_size (by repeat (first | (with_reducible first | exact HB.out | apply below_alloc | apply pw_below_drewN | apply below_drew1 | refine below_set ?_ GE252.out) | exact HB.out))) : w.heap.size ≤ gb253));have n4_ := Aside0.mk ((by rw [hg];exact (below_size (by repeat (first | (with_reducible first | exact HB.out | apply below_alloc | apply pw_below_drewN | apply below_drew1 | refine below_set ?_ GE252.out) | exact HB.out))) : w.heap.size ≤ gb253));have n5_ := Aside0.mk ((by rw [hg];exact Nat.ne_of_lt (blk_lt (g := gb252) (o := .cells #[.slice A0_0 l0_0.length c0_0,.int .i64 a0_1] 34 (0,0)) (by (with_reducible repeat (first | refine blk_drewN ?_ _ | refine blk_drew ?_ | refine blk_alloc ?_ _));exact BK252.out)) : gb252 ≠ gb253));have n6_ := Aside0.mk ((by rw [hg];exact Nat.ne_of_gt (blk_lt (g := gb252) (o := .cells #[.slice A0_0 l0_0.length c0_0,.int .i64 a0_1] 34 (0,0)) (by (with_reducible repeat (first | refine blk_drewN ?_ _ | refine blk_drew ?_ | refine blk_alloc ?_ _));exact BK252.out)) : gb253 ≠ gb252));clear BK252;clear HB;have BK252 := n0_;have HB := n1_;have BK253 := n2_;have GW253 := n3_;have GE253 := n4_;have NB252_253 := n5_;have NB253_252 := n6_;clear n0_ n1_ n2_ n3_ n4_ n5_ n6_;clear hb hbox hg;have hnb13 := NB252_253.out;have hnc13 := NB253_252.out;have hcz14_0 : w12.cell? ⟨gb252,0,none⟩ = some (.slice A0_0 l0_0.length c0_0) := (blk_cell BK252.out 0).trans rfl;have hcz14_1 : w12.cell? ⟨gb252,1,none⟩ = some (.int .i64 a0_1) := (blk_cell BK252.out 1).trans rfl;have hfz14_0 := blk_frozen BK252.out 0;have hfz14_1 := blk_frozen BK252.out 1;have hcz15_0 : w12.cell? ⟨gb253,0,none⟩ = some (.slice A1_0 l1_0.length c1_0) := (blk_cell BK253.out 0).trans rfl;have hcz15_1 : w12.cell? ⟨gb253,1,none⟩ = some (.int .i64 a1_1) := (blk_cell BK253.out 1).trans rfl;have hfz15_0 := blk_frozen BK253.out 0;have hfz15_1 := blk_frozen BK253.out 1))
    go_ret
    exact ⟨by first | rfl | (simp [errW_none,errW_some] <;> rfl) | (simp [*,errW_none,errW_some] <;> rfl),by repeat (first | (with_reducible first | exact HB.out | apply below_alloc | apply pw_below_drewN | apply below_drew1 | refine below_set ?_ GE252.out | refine below_set ?_ GE253.out) | exact HB.out)⟩
end Go.Proofs.Ythmbfcfomcaaaaa.Z
end
section
namespace Go.Proofs.Ythmbfcfomcaaaaa.Z
open Go.RowKit Go.Proofs.YthmbfcfomcaaaaaW.PrintWords Go.Proofs.YthmbfcfomcaaaaaW.PrintLast Go.Proofs.YthmbfcfomcaaaaaW.PrintMore
attribute [local go_sem] max2_int min2_int max_two min_two max_three min_three max_four min_four
set_option linter.unusedVariables false
set_option linter.unusedSimpArgs false
def slices_EqualFunc.l0 : Nat → List (S34) → List (S34) → Int → Int → Option (Bool)
  | 0,_,_,_,_ => none
  | k + 1,x1,x15,x16,x17 => if x17 < x16 then (if 0 ≤ x17 then (if x17 < (x15.length : Int) then (if x17 < (x1.length : Int) then ((bag_Same_1.f k ((rd_T34 x15 x17).f0) ((rd_T34 x15 x17).f1) ((rd_T34 x1 x17).f0) ((rd_T34 x1 x17).f1)).bind fun t259 => (if t259 = true then (slices_EqualFunc.l0 k x1 x15 x16 (wrap64 (x17 + 1))) else (some false))) else (none)) else (none)) else (none)) else (some true)
def slices_EqualFunc.f (k : Nat) (l0 : List (S34)) (l1 : List (S34)) (a2 : Int) : Option (Bool) := if (l0.length : Int) = (l1.length : Int) then (slices_EqualFunc.l0 k l1 l0 (l0.length : Int) 0) else (some false)
theorem slices_EqualFunc.mono_l : ∀ k,(∀ y0 y1 y2 y3,LeO (slices_EqualFunc.l0 k y0 y1 y2 y3) (slices_EqualFunc.l0 (k + 1) y0 y1 y2 y3))
  | 0 => fun _ _ _ _ r h => by simp [slices_EqualFunc.l0] at h
  | k + 1 => by
    have ih0 := slices_EqualFunc.mono_l k
    · intro y0 y1 y2 y3
      unfold slices_EqualFunc.l0
      repeat' first
      | (with_reducible exact ih0 _ _ _ _)
      | (with_reducible exact bag_Same_1.mono _ _ _ _ _)
      | (with_reducible exact LeO.refl _)
      | (with_reducible exact LeO.none _)
      | (with_reducible refine LeO.ite ?_ ?_)
      | (with_reducible refine LeO.bind ?_ (fun _ => ?_))
      | exact ih0 _ _ _ _
      | exact bag_Same_1.mono _ _ _ _ _
      | exact LeO.none _
      | refine LeO.ite ?_ ?_
      | refine LeO.bind ?_ (fun _ => ?_)
theorem slices_EqualFunc.mono : ∀ a0 a1 a2 k,LeO (slices_EqualFunc.f k a0 a1 a2) (slices_EqualFunc.f (k + 1) a0 a1 a2) := by
  intro a0 a1 a2 k
  have ih0 := slices_EqualFunc.mono_l k
  unfold slices_EqualFunc.f
  repeat' first
      | (with_reducible exact ih0 _ _ _ _)
      | (with_reducible exact bag_Same_1.mono _ _ _ _ _)
      | (with_reducible exact LeO.refl _)
      | (with_reducible exact LeO.none _)
      | (with_reducible refine LeO.ite ?_ ?_)
      | (with_reducible refine LeO.bind ?_ (fun _ => ?_))
      | exact ih0 _ _ _ _
      | exact bag_Same_1.mono _ _ _ _ _
      | exact LeO.none _
      | refine LeO.ite ?_ ?_
      | refine LeO.bind ?_ (fun _ => ?_)
set_option maxHeartbeats 8000000 in
set_option maxRecDepth 100000 in
theorem slices_EqualFunc.calls (k : Nat) (A0 : Option Addr) (c0 : Nat) (l0 : List (S34)) (A1 : Option Addr) (c1 : Nat) (l1 : List (S34)) (a2 : Int) (r : Bool) (w : World) (hr0 : Kd.C k34 w A0 l0.length l0) (hc0 : l0.length ≤ c0) (hr1 : Kd.C k34 w A1 l1.length l1) (hc1 : l1.length ≤ c1) (h : slices_EqualFunc.f k l0 l1 a2 = some r) :
    Calls Try.prog 72 #[.slice A0 l0.length c0,.slice A1 l1.length c1,.func (.func 73) #[] #[]] w fun e w' => e = .returned (.bool r) ∧ Below w.heap.size w w' := by
  have hu34 := Try.underlying34
  have HR0 := Aside0.mk hr0
  have HC0 := Aside0.mk hc0
  clear hr0 hc0
  have HR1 := Aside0.mk hr1
  have HC1 := Aside0.mk hc1
  clear hr1 hc1
  have HB := Aside0.mk (Below.refl w.heap.size w)
  have H : (if (l0.length : Int) = (l1.length : Int) then (slices_EqualFunc.l0 k l1 l0 (l0.length : Int) 0) else (some false)) = some r := h
  clear h
  by_cases c4 : (l0.length : Int) = (l1.length : Int)
  · rw [if_pos c4] at H
    have c4b0 : ((l0.length : Int) == (l1.length : Int)) = true := beq_iff_eq.mpr c4
    have c4b1 : ((l0.length : Int) != (l1.length : Int)) = false := bne_eq_false_iff_eq.mpr c4
    have c4b2 : (l0.length == l1.length) = true := by first | simpa using c4 | (simp at c4 ⊢;omega)
    clear c4
    have H' := Aside0.mk H
    clear H
    go_enter Try.func72,Try.ntmps72
    go_wp2
    go_loopg [17] k (fun kq v17 w' => ∃ (x17_1 : Int),v17 = .int .i64 x17_1 ∧ Aside0 (slices_EqualFunc.l0 kq l1 l0 (l0.length : Int) x17_1 = some r) ∧ Aside0 (kq ≤ k) ∧ Aside0 (Below w.heap.size w w'))
    case atStart => exact ⟨(0),(by first | rfl | (simp;done) | (simp [*];done)),H',⟨Nat.le_refl _⟩,⟨by repeat (first | (with_reducible first | exact HB.out | apply below_alloc | apply pw_below_drewN | apply below_drew1) | exact HB.out)⟩⟩
    case round =>
      clear H'
      try clear c1
      try clear p2
      try clear c4
      try clear c4b0
      try clear c4b1
      try clear c4b2
      obtain ⟨x17_1,rfl,HA,HK1,HB⟩ := hrel
      cases gk with
      | zero => exact absurd HA.out (by simp [slices_EqualFunc.l0])
      | succ k1 =>
        have H := HA.out
        clear HA
        simp only [slices_EqualFunc.l0] at H
        by_cases c5 : x17_1 < (l0.length : Int)
        · rw [if_pos c5] at H
          have c5b0 : decide (x17_1 < (l0.length : Int)) = true := decide_eq_true c5
          clear c5
          by_cases c6 : 0 ≤ x17_1
          · rw [if_pos c6] at H
            have c6b0 : decide (0 ≤ x17_1) = true := decide_eq_true c6
            clear c6
            by_cases c7 : x17_1 < (l0.length : Int)
            · rw [if_pos c7] at H
              have c7b0 : decide (x17_1 < (l0.length : Int)) = true := decide_eq_true c7
              clear c7
              by_cases c8 : x17_1 < (l1.length : Int)
              · rw [if_pos c8] at H
                have c8b0 : decide (x17_1 < (l1.length : Int)) = true := decide_eq_true c8
                clear c8
                replace H := Option.bind_eq_some_iff.mp H
                obtain ⟨t259,A90,H⟩ := H
                replace H : (if t259 = true then (slices_EqualFunc.l0 k1 l1 l0 (l0.length : Int) (wrap64 (x17_1 + 1))) else (some false)) = some r := H
                have A9 := Aside0.mk A90
                clear A90
                by_cases c10 : t259 = true
                · subst c10
                  have H1 : (slices_EqualFunc.l0 k1 l1 l0 (l0.length : Int) (wrap64 (x17_1 + 1))) = some r := by rw [if_pos rfl] at H;exact H
                  clear H
                  have H := H1
                  clear H1
                  have H' := Aside0.mk H
                  clear H
                  have p255 : 0 ≤ (x17_1 : Int) := of_decide_eq_true (by first | (with_reducible assumption) | assumption)
                  have q255 : x17_1 < (l0.length : Int) := of_decide_eq_true (by first | (with_reducible assumption) | assumption)
                  obtain ⟨ad255,A255_0,c255_0,e255,hx255_0,hx255_1,hl255_0,hi255_0⟩ := at_T34 HR0.out x17_1 p255 q255
                  cases e255
                  replace hx255_0 := (HB.out.cell (World.block_lt_of_cell? w _ hx255_0)).trans hx255_0
                  replace hx255_1 := (HB.out.cell (World.block_lt_of_cell? w _ hx255_1)).trans hx255_1
                  have HR255_0 := Aside0.mk hi255_0
                  have HC255_0 := Aside0.mk hl255_0
                  clear hi255_0 hl255_0
                  replace p255 := eq_true p255
                  replace q255 := eq_true q255
                  go_wp2_with (first | ((with_reducible refine gate_dst (N := 8) rfl ?_);refine box_event ?hg (N := 8) ?hd (cs := #[.slice none 0 0,.int .i64 0]) (t := 34) ?hr ?_;(case hd => rfl);(case hg => rfl);(case hr => first | (go_simp;done) | (go_simp;rfl));intro gb256 hg w11 hbox hb;have n0_ := Aside0.mk (below_step (by repeat (first | (with_reducible first | exact HB.out | apply below_alloc | apply pw_below_drewN | apply below_drew1) | exact HB.out)) hb);have n1_ := Aside0.mk (hbox);have n2_ := Aside0.mk ((by rw [hg];exact (below_size (by repeat (first | (with_reducible first | exact HB.out | apply below_alloc | apply pw_below_drewN | apply below_drew1) | exact HB.out))) : w.heap.size ≤ gb256));have n3_ := Aside0.mk ((by rw [hg];exact (below_size (by repeat (first | (with_reducible first | exact HB.out | apply below_alloc | apply pw_below_drewN | apply below_drew1) | exact HB.out))) : w.heap.size ≤ gb256));clear HB;have HB := n0_;have BK256 := n1_;have GW256 := n2_;have GE256 := n3_;clear n0_ n1_ n2_ n3_;clear hb hbox hg;have hcz12_0 : w11.cell? ⟨gb256,0,none⟩ = some (.slice none 0 0) := (blk_cell BK256.out 0).trans rfl;have hcz12_1 : w11.cell? ⟨gb256,1,none⟩ = some (.int .i64 0) := (blk_cell BK256.out 1).trans rfl;have hfz12_0 := blk_frozen BK256.out 0;have hfz12_1 := blk_frozen BK256.out 1;have p257 : 0 ≤ (x17_1 : Int) := of_decide_eq_true (by first | (with_reducible assumption) | assumption);have q257 : x17_1 < (l1.length : Int) := of_decide_eq_true (by first | (with_reducible assumption) | assumption);obtain ⟨ad257,A257_0,c257_0,e257,hx257_0,hx257_1,hl257_0,hi257_0⟩ := at_T34 HR1.out x17_1 p257 q257;cases e257;have hn257_0 : ad257.block ≠ gb256 := Nat.ne_of_lt (Nat.lt_of_lt_of_le (by have := World.block_lt_of_cell? _ _ hx257_0;first | rwa [add_block] at this | exact this) GW256.out);have hn257_1 : ad257.block ≠ gb256 := Nat.ne_of_lt (Nat.lt_of_lt_of_le (by have := World.block_lt_of_cell? _ _ hx257_0;first | rwa [add_block] at this | exact this) GW256.out);replace hx257_0 := (HB.out.cell (World.block_lt_of_cell? w _ hx257_0)).trans hx257_0;replace hx257_1 := (HB.out.cell (World.block_lt_of_cell? w _ hx257_1)).trans hx257_1;have HR257_0 := Aside0.mk hi257_0;have HC257_0 := Aside0.mk hl257_0;clear hi257_0 hl257_0;replace hx257_0 := (cell_far (p := ⟨gb256,0,none⟩) (by first | (rw [add_block];exact hn257_0) | (show (Addr.add _ _).block ≠ _;rw [add_block];exact hn257_0) | exact hn257_0) (.slice A255_0 ((rd_T34 l0 x17_1).f0).length c255_0)).trans hx257_0;replace hx257_1 := (cell_far (p := ⟨gb256,0,none⟩) (by first | (rw [add_block];exact hn257_0) | (show (Addr.add _ _).block ≠ _;rw [add_block];exact hn257_0) | exact hn257_0) (.slice A255_0 ((rd_T34 l0 x17_1).f0).length c255_0)).trans hx257_1;replace hx257_0 := (cell_far (p := ⟨gb256,1,none⟩) (by first | (rw [add_block];exact hn257_1) | (show (Addr.add _ _).block ≠ _;rw [add_block];exact hn257_1) | exact hn257_1) (.int .i64 ((rd_T34 l0 x17_1).f1))).trans hx257_0;replace hx257_1 := (cell_far (p := ⟨gb256,1,none⟩) (by first | (rw [add_block];exact hn257_1) | (show (Addr.add _ _).block ≠ _;rw [add_block];exact hn257_1) | exact hn257_1) (.int .i64 ((rd_T34 l0 x17_1).f1))).trans hx257_1;clear hn257_0;clear hn257_1;replace p257 := eq_true p257;replace q257 := eq_true q257) | ((with_reducible refine gate_dst (N := 9) rfl ?_);refine box_event ?hg (N := 9) ?hd (cs := #[.slice none 0 0,.int .i64 0]) (t := 34) ?hr ?_;(case hd => rfl);(case hg => rfl);(case hr => first | (go_simp;done) | (go_simp;rfl));intro gb258 hg w13 hbox hb;have n0_ := Aside0.mk (blk_below (g := gb256) (o := .cells #[.slice A255_0 ((rd_T34 l0 x17_1).f0).length c255_0,.int .i64 ((rd_T34 l0 x17_1).f1)] 34 (0,0)) (by (with_reducible repeat (first | refine blk_drewN ?_ _ | refine blk_drew ?_ | refine blk_alloc ?_ _));refine blk_put (cs := #[.slice A255_0 ((rd_T34 l0 x17_1).f0).length c255_0,.int .i64 0]) ?_ 1 _ rfl;(with_reducible repeat (first | refine blk_drewN ?_ _ | refine blk_drew ?_ | refine blk_alloc ?_ _));refine blk_put (cs := #[.slice none 0 0,.int .i64 0]) ?_ 0 _ rfl;(with_reducible repeat (first | refine blk_drewN ?_ _ | refine blk_drew ?_ | refine blk_alloc ?_ _));exact BK256.out) hb);have n1_ := Aside0.mk (below_step (by repeat (first | (with_reducible first | exact HB.out | apply below_alloc | apply pw_below_drewN | apply below_drew1 | refine below_set ?_ GE256.out) | exact HB.out)) hb);have n2_ := Aside0.mk (hbox);have n3_ := Aside0.mk ((by rw [hg];exact (below_size (by repeat (first | (with_reducible first | exact HB.out | apply below_alloc | apply pw_below_drewN | apply below_drew1 | refine below_set ?_ GE256.out) | exact HB.out))) : w.heap.size ≤ gb258));have n4_ := Aside0.mk ((by rw [hg];exact (below_size (by repeat (first | (with_reducible first | exact HB.out | apply below_alloc | apply pw_below_drewN | apply below_drew1 | refine below_set ?_ GE256.out) | exact HB.out))) : w.heap.size ≤ gb258));have n5_ := Aside0.mk ((by rw [hg];exact Nat.ne_of_lt (blk_lt (g := gb256) (o := .cells #[.slice A255_0 ((rd_T34 l0 x17_1).f0).length c255_0,.int .i64 ((rd_T34 l0 x17_1).f1)] 34 (0,0)) (by (with_reducible repeat (first | refine blk_drewN ?_ _ | refine blk_drew ?_ | refine blk_alloc ?_ _));refine blk_put (cs := #[.slice A255_0 ((rd_T34 l0 x17_1).f0).length c255_0,.int .i64 0]) ?_ 1 _ rfl;(with_reducible repeat (first | refine blk_drewN ?_ _ | refine blk_drew ?_ | refine blk_alloc ?_ _));refine blk_put (cs := #[.slice none 0 0,.int .i64 0]) ?_ 0 _ rfl;(with_reducible repeat (first | refine blk_drewN ?_ _ | refine blk_drew ?_ | refine blk_alloc ?_ _));exact BK256.out)) : gb256 ≠ gb258));have n6_ := Aside0.mk ((by rw [hg];exact Nat.ne_of_gt (blk_lt (g := gb256) (o := .cells #[.slice A255_0 ((rd_T34 l0 x17_1).f0).length c255_0,.int .i64 ((rd_T34 l0 x17_1).f1)] 34 (0,0)) (by (with_reducible repeat (first | refine blk_drewN ?_ _ | refine blk_drew ?_ | refine blk_alloc ?_ _));refine blk_put (cs := #[.slice A255_0 ((rd_T34 l0 x17_1).f0).length c255_0,.int .i64 0]) ?_ 1 _ rfl;(with_reducible repeat (first | refine blk_drewN ?_ _ | refine blk_drew ?_ | refine blk_alloc ?_ _));refine blk_put (cs := #[.slice none 0 0,.int .i64 0]) ?_ 0 _ rfl;(with_reducible repeat (first | refine blk_drewN ?_ _ | refine blk_drew ?_ | refine blk_alloc ?_ _));exact BK256.out)) : gb258 ≠ gb256));clear BK256;clear HB;have BK256 := n0_;have HB := n1_;have BK258 := n2_;have GW258 := n3_;have GE258 := n4_;have NB256_258 := n5_;have NB258_256 := n6_;clear n0_ n1_ n2_ n3_ n4_ n5_ n6_;clear hb hbox hg;have hnb14 := NB258_256.out;have hnc14 := NB256_258.out;have hcz15_0 : w13.cell? ⟨gb258,0,none⟩ = some (.slice none 0 0) := (blk_cell BK258.out 0).trans rfl;have hcz15_1 : w13.cell? ⟨gb258,1,none⟩ = some (.int .i64 0) := (blk_cell BK258.out 1).trans rfl;have hfz15_0 := blk_frozen BK258.out 0;have hfz15_1 := blk_frozen BK258.out 1;have hcz16_0 : w13.cell? ⟨gb256,0,none⟩ = some (.slice A255_0 ((rd_T34 l0 x17_1).f0).length c255_0) := (blk_cell BK256.out 0).trans rfl;have hcz16_1 : w13.cell? ⟨gb256,1,none⟩ = some (.int .i64 ((rd_T34 l0 x17_1).f1)) := (blk_cell BK256.out 1).trans rfl;have hfz16_0 := blk_frozen BK256.out 0;have hfz16_1 := blk_frozen BK256.out 1) | ((with_reducible refine gate_tmp (n := 26) rfl ?_);refine goesT_ (some 29) rfl rfl Try.func73 (by kernel_rfl) rfl #[.agg #[.slice A255_0 ((rd_T34 l0 x17_1).f0).length c255_0,.int .i64 ((rd_T34 l0 x17_1).f1)],.agg #[.slice A257_0 ((rd_T34 l1 x17_1).f0).length c257_0,.int .i64 ((rd_T34 l1 x17_1).f1)]] rfl rfl (by (try simp only [List.map_toArray,List.map_cons,List.map_nil]);first | done | rfl | (simp only [List.length_drop,List.length_take];rfl)) ?_;(with_reducible refine (bag_Same_1.calls k1 _ _ ((rd_T34 l0 x17_1).f0) ((rd_T34 l0 x17_1).f1) _ _ ((rd_T34 l1 x17_1).f0) ((rd_T34 l1 x17_1).f1) true _ ?side1 ?side2 ?side3 ?side4 A9.out).mono ?_);(case side1 => exact Kd.C_below HR255_0.out (by repeat (first | (with_reducible first | exact HB.out | apply below_alloc | apply pw_below_drewN | apply below_drew1 | refine below_set ?_ GE256.out | refine below_set ?_ GE258.out) | exact HB.out)));(case side2 => exact HC255_0.out);(case side3 => exact Kd.C_below HR257_0.out (by repeat (first | (with_reducible first | exact HB.out | apply below_alloc | apply pw_below_drewN | apply below_drew1 | refine below_set ?_ GE256.out | refine below_set ?_ GE258.out) | exact HB.out)));(case side4 => exact HC257_0.out);rintro e w17 ⟨rfl,hb⟩;refine ⟨_,rfl,?_⟩;have n0_ := Aside0.mk (blk_below (g := gb256) (o := .cells #[.slice A255_0 ((rd_T34 l0 x17_1).f0).length c255_0,.int .i64 ((rd_T34 l0 x17_1).f1)] 34 (0,0)) (by (with_reducible repeat (first | refine blk_drewN ?_ _ | refine blk_drew ?_ | refine blk_alloc ?_ _));refine blk_far ?_ NB256_258.out _;(with_reducible repeat (first | refine blk_drewN ?_ _ | refine blk_drew ?_ | refine blk_alloc ?_ _));refine blk_far ?_ NB256_258.out _;(with_reducible repeat (first | refine blk_drewN ?_ _ | refine blk_drew ?_ | refine blk_alloc ?_ _));exact BK256.out) hb);have n1_ := Aside0.mk (blk_below (g := gb258) (o := .cells #[.slice A257_0 ((rd_T34 l1 x17_1).f0).length c257_0,.int .i64 ((rd_T34 l1 x17_1).f1)] 34 (0,0)) (by (with_reducible repeat (first | refine blk_drewN ?_ _ | refine blk_drew ?_ | refine blk_alloc ?_ _));refine blk_put (cs := #[.slice A257_0 ((rd_T34 l1 x17_1).f0).length c257_0,.int .i64 0]) ?_ 1 _ rfl;(with_reducible repeat (first | refine blk_drewN ?_ _ | refine blk_drew ?_ | refine blk_alloc ?_ _));refine blk_put (cs := #[.slice none 0 0,.int .i64 0]) ?_ 0 _ rfl;(with_reducible repeat (first | refine blk_drewN ?_ _ | refine blk_drew ?_ | refine blk_alloc ?_ _));exact BK258.out) hb);have n2_ := Aside0.mk (below_step (by repeat (first | (with_reducible first | exact HB.out | apply below_alloc | apply pw_below_drewN | apply below_drew1 | refine below_set ?_ GE256.out | refine below_set ?_ GE258.out) | exact HB.out)) hb);clear BK256;clear BK258;clear HB;have BK256 := n0_;have BK258 := n1_;have HB := n2_;clear n0_ n1_ n2_;(try clear hb);(try clear hb2);(try clear hk);(try clear hi)))
                  go_roundg k1
                  case measure => have := HK1.out;omega
                  case rel => exact ⟨(wrap64 (x17_1 + 1)),(by first | rfl | (simp;done) | (simp [*];done)),H',⟨by have := HK1.out;omega⟩,⟨by repeat (first | (with_reducible first | exact HB.out | apply below_alloc | apply pw_below_drewN | apply below_drew1 | refine below_set ?_ GE256.out | refine below_set ?_ GE258.out) | exact HB.out)⟩⟩
                · replace c10 := Bool.eq_false_iff.mpr c10
                  subst c10
                  have H1 : (some false) = some r := by rw [if_neg (show ¬ (false = true) by decide)] at H;exact H
                  clear H
                  have H := H1
                  clear H1
                  obtain rfl := Option.some.inj H
                  have p255 : 0 ≤ (x17_1 : Int) := of_decide_eq_true (by first | (with_reducible assumption) | assumption)
                  have q255 : x17_1 < (l0.length : Int) := of_decide_eq_true (by first | (with_reducible assumption) | assumption)
                  obtain ⟨ad255,A255_0,c255_0,e255,hx255_0,hx255_1,hl255_0,hi255_0⟩ := at_T34 HR0.out x17_1 p255 q255
                  cases e255
                  replace hx255_0 := (HB.out.cell (World.block_lt_of_cell? w _ hx255_0)).trans hx255_0
                  replace hx255_1 := (HB.out.cell (World.block_lt_of_cell? w _ hx255_1)).trans hx255_1
                  have HR255_0 := Aside0.mk hi255_0
                  have HC255_0 := Aside0.mk hl255_0
                  clear hi255_0 hl255_0
                  replace p255 := eq_true p255
                  replace q255 := eq_true q255
                  go_wp2_with (first | ((with_reducible refine gate_dst (N := 8) rfl ?_);refine box_event ?hg (N := 8) ?hd (cs := #[.slice none 0 0,.int .i64 0]) (t := 34) ?hr ?_;(case hd => rfl);(case hg => rfl);(case hr => first | (go_simp;done) | (go_simp;rfl));intro gb256 hg w18 hbox hb;have n0_ := Aside0.mk (below_step (by repeat (first | (with_reducible first | exact HB.out | apply below_alloc | apply pw_below_drewN | apply below_drew1) | exact HB.out)) hb);have n1_ := Aside0.mk (hbox);have n2_ := Aside0.mk ((by rw [hg];exact (below_size (by repeat (first | (with_reducible first | exact HB.out | apply below_alloc | apply pw_below_drewN | apply below_drew1) | exact HB.out))) : w.heap.size ≤ gb256));have n3_ := Aside0.mk ((by rw [hg];exact (below_size (by repeat (first | (with_reducible first | exact HB.out | apply below_alloc | apply pw_below_drewN | apply below_drew1) | exact HB.out))) : w.heap.size ≤ gb256));clear HB;have HB := n0_;have BK256 := n1_;have GW256 := n2_;have GE256 := n3_;clear n0_ n1_ n2_ n3_;clear hb hbox hg;have hcz19_0 : w18.cell? ⟨gb256,0,none⟩ = some (.slice none 0 0) := (blk_cell BK256.out 0).trans rfl;have hcz19_1 : w18.cell? ⟨gb256,1,none⟩ = some (.int .i64 0) := (blk_cell BK256.out 1).trans rfl;have hfz19_0 := blk_frozen BK256.out 0;have hfz19_1 := blk_frozen BK256.out 1;have p257 : 0 ≤ (x17_1 : Int) := of_decide_eq_true (by first | (with_reducible assumption) | assumption);have q257 : x17_1 < (l1.length : Int) := of_decide_eq_true (by first | (with_reducible assumption) | assumption);obtain ⟨ad257,A257_0,c257_0,e257,hx257_0,hx257_1,hl257_0,hi257_0⟩ := at_T34 HR1.out x17_1 p257 q257;cases e257;have hn257_0 : ad257.block ≠ gb256 := Nat.ne_of_lt (Nat.lt_of_lt_of_le (by have := World.block_lt_of_cell? _ _ hx257_0;first | rwa [add_block] at this | exact this) GW256.out);have hn257_1 : ad257.block ≠ gb256 := Nat.ne_of_lt (Nat.lt_of_lt_of_le (by have := World.block_lt_of_cell? _ _ hx257_0;first | rwa [add_block] at this | exact this) GW256.out);replace hx257_0 := (HB.out.cell (World.block_lt_of_cell? w _ hx257_0)).trans hx257_0;replace hx257_1 := (HB.out.cell (World.block_lt_of_cell? w _ hx257_1)).trans hx257_1;have HR257_0 := Aside0.mk hi257_0;have HC257_0 := Aside0.mk hl257_0;clear hi257_0 hl257_0;replace hx257_0 := (cell_far (p := ⟨gb256,0,none⟩) (by first | (rw [add_block];exact hn257_0) | (show (Addr.add _ _).block ≠ _;rw [add_block];exact hn257_0) | exact hn257_0) (.slice A255_0 ((rd_T34 l0 x17_1).f0).length c255_0)).trans hx257_0;replace hx257_1 := (cell_far (p := ⟨gb256,0,none⟩) (by first | (rw [add_block];exact hn257_0) | (show (Addr.add _ _).block ≠ _;rw [add_block];exact hn257_0) | exact hn257_0) (.slice A255_0 ((rd_T34 l0 x17_1).f0).length c255_0)).trans hx257_1;replace hx257_0 := (cell_far (p := ⟨gb256,1,none⟩) (by first | (rw [add_block];exact hn257_1) | (show (Addr.add _ _).block ≠ _;rw [add_block];exact hn257_1) | exact hn257_1) (.int .i64 ((rd_T34 l0 x17_1).f1))).trans hx257_0;replace hx257_1 := (cell_far (p := ⟨gb256,1,none⟩) (by first | (rw [add_block];exact hn257_1) | (show (Addr.add _ _).block ≠ _;rw [add_block];exact hn257_1) | exact hn257_1) (.int .i64 ((rd_T34 l0 x17_1).f1))).trans hx257_1;clear hn257_0;clear hn257_1;replace p257 := eq_true p257;replace q257 := eq_true q257) | ((with_reducible refine gate_dst (N := 9) rfl ?_);refine box_event ?hg (N := 9) ?hd (cs := #[.slice none 0 0,.int .i64 0]) (t := 34) ?hr ?_;(case hd => rfl);(case hg => rfl);(case hr => first | (go_simp;done) | (go_simp;rfl));intro gb258 hg w20 hbox hb;have n0_ := Aside0.mk (blk_below (g := gb256) (o := .cells #[.slice A255_0 ((rd_T34 l0 x17_1).f0).length c255_0,.int .i64 ((rd_T34 l0 x17_1).f1)] 34 (0,0)) (by (with_reducible repeat (first | refine blk_drewN ?_ _ | refine blk_drew ?_ | refine blk_alloc ?_ _));refine blk_put (cs := #[.slice A255_0 ((rd_T34 l0 x17_1).f0).length c255_0,.int .i64 0]) ?_ 1 _ rfl;(with_reducible repeat (first | refine blk_drewN ?_ _ | refine blk_drew ?_ | refine blk_alloc ?_ _));refine blk_put (cs := #[.slice none 0 0,.int .i64 0]) ?_ 0 _ rfl;(with_reducible repeat (first | refine blk_drewN ?_ _ | refine blk_drew ?_ | refine blk_alloc ?_ _));exact BK256.out) hb);have n1_ := Aside0.mk (below_step (by repeat (first | (with_reducible first | exact HB.out | apply below_alloc | apply pw_below_drewN | apply below_drew1 | refine below_set ?_ GE256.out) | exact HB.out)) hb);have n2_ := Aside0.mk (hbox);have n3_ := Aside0.mk ((by rw [hg];exact (below_size (by repeat (first | (with_reducible first | exact HB.out | apply below_alloc | apply pw_below_drewN | apply below_drew1 | refine below_set ?_ GE256.out) | exact HB.out))) : w.heap.size ≤ gb258));have n4_ := Aside0.mk ((by rw [hg];exact (below_size (by repeat (first | (with_reducible first | exact HB.out | apply below_alloc | apply pw_below_drewN | apply below_drew1 | refine below_set ?_ GE256.out) | exact HB.out))) : w.heap.size ≤ gb258));have n5_ := Aside0.mk ((by rw [hg];exact Nat.ne_of_lt (blk_lt (g := gb256) (o := .cells #[.slice A255_0 ((rd_T34 l0 x17_1).f0).length c255_0,.int .i64 ((rd_T34 l0 x17_1).f1)] 34 (0,0)) (by (with_reducible repeat (first | refine blk_drewN ?_ _ | refine blk_drew ?_ | refine blk_alloc ?_ _));refine blk_put (cs := #[.slice A255_0 ((rd_T34 l0 x17_1).f0).length c255_0,.int .i64 0]) ?_ 1 _ rfl;(with_reducible repeat (first | refine blk_drewN ?_ _ | refine blk_drew ?_ | refine blk_alloc ?_ _));refine blk_put (cs := #[.slice none 0 0,.int .i64 0]) ?_ 0 _ rfl;(with_reducible repeat (first | refine blk_drewN ?_ _ | refine blk_drew ?_ | refine blk_alloc ?_ _));exact BK256.out)) : gb256 ≠ gb258));have n6_ := Aside0.mk ((by rw [hg];exact Nat.ne_of_gt (blk_lt (g := gb256) (o := .cells #[.slice A255_0 ((rd_T34 l0 x17_1).f0).length c255_0,.int .i64 ((rd_T34 l0 x17_1).f1)] 34 (0,0)) (by (with_reducible repeat (first | refine blk_drewN ?_ _ | refine blk_drew ?_ | refine blk_alloc ?_ _));refine blk_put (cs := #[.slice A255_0 ((rd_T34 l0 x17_1).f0).length c255_0,.int .i64 0]) ?_ 1 _ rfl;(with_reducible repeat (first | refine blk_drewN ?_ _ | refine blk_drew ?_ | refine blk_alloc ?_ _));refine blk_put (cs := #[.slice none 0 0,.int .i64 0]) ?_ 0 _ rfl;(with_reducible repeat (first | refine blk_drewN ?_ _ | refine blk_drew ?_ | refine blk_alloc ?_ _));exact BK256.out)) : gb258 ≠ gb256));clear BK256;clear HB;have BK256 := n0_;have HB := n1_;have BK258 := n2_;have GW258 := n3_;have GE258 := n4_;have NB256_258 := n5_;have NB258_256 := n6_;clear n0_ n1_ n2_ n3_ n4_ n5_ n6_;clear hb hbox hg;have hnb21 := NB258_256.out;have hnc21 := NB256_258.out;have hcz22_0 : w20.cell? ⟨gb258,0,none⟩ = some (.slice none 0 0) := (blk_cell BK258.out 0).trans rfl;have hcz22_1 : w20.cell? ⟨gb258,1,none⟩ = some (.int .i64 0) := (blk_cell BK258.out 1).trans rfl;have hfz22_0 := blk_frozen BK258.out 0;have hfz22_1 := blk_frozen BK258.out 1;have hcz23_0 : w20.cell? ⟨gb256,0,none⟩ = some (.slice A255_0 ((rd_T34 l0 x17_1).f0).length c255_0) := (blk_cell BK256.out 0).trans rfl;have hcz23_1 : w20.cell? ⟨gb256,1,none⟩ = some (.int .i64 ((rd_T34 l0 x17_1).f1)) := (blk_cell BK256.out 1).trans rfl;have hfz23_0 := blk_frozen BK256.out 0;have hfz23_1 := blk_frozen BK256.out 1) | ((with_reducible refine gate_tmp (n := 26) rfl ?_);refine goesT_ (some 29) rfl rfl Try.func73 (by kernel_rfl) rfl #[.agg #[.slice A255_0 ((rd_T34 l0 x17_1).f0).length c255_0,.int .i64 ((rd_T34 l0 x17_1).f1)],.agg #[.slice A257_0 ((rd_T34 l1 x17_1).f0).length c257_0,.int .i64 ((rd_T34 l1 x17_1).f1)]] rfl rfl (by (try simp only [List.map_toArray,List.map_cons,List.map_nil]);first | done | rfl | (simp only [List.length_drop,List.length_take];rfl)) ?_;(with_reducible refine (bag_Same_1.calls k1 _ _ ((rd_T34 l0 x17_1).f0) ((rd_T34 l0 x17_1).f1) _ _ ((rd_T34 l1 x17_1).f0) ((rd_T34 l1 x17_1).f1) false _ ?side1 ?side2 ?side3 ?side4 A9.out).mono ?_);(case side1 => exact Kd.C_below HR255_0.out (by repeat (first | (with_reducible first | exact HB.out | apply below_alloc | apply pw_below_drewN | apply below_drew1 | refine below_set ?_ GE256.out | refine below_set ?_ GE258.out) | exact HB.out)));(case side2 => exact HC255_0.out);(case side3 => exact Kd.C_below HR257_0.out (by repeat (first | (with_reducible first | exact HB.out | apply below_alloc | apply pw_below_drewN | apply below_drew1 | refine below_set ?_ GE256.out | refine below_set ?_ GE258.out) | exact HB.out)));(case side4 => exact HC257_0.out);rintro e w24 ⟨rfl,hb⟩;refine ⟨_,rfl,?_⟩;have n0_ := Aside0.mk (blk_below (g := gb256) (o := .cells #[.slice A255_0 ((rd_T34 l0 x17_1).f0).length c255_0,.int .i64 ((rd_T34 l0 x17_1).f1)] 34 (0,0)) (by (with_reducible repeat (first | refine blk_drewN ?_ _ | refine blk_drew ?_ | refine blk_alloc ?_ _));refine blk_far ?_ NB256_258.out _;(with_reducible repeat (first | refine blk_drewN ?_ _ | refine blk_drew ?_ | refine blk_alloc ?_ _));refine blk_far ?_ NB256_258.out _;(with_reducible repeat (first | refine blk_drewN ?_ _ | refine blk_drew ?_ | refine blk_alloc ?_ _));exact BK256.out) hb);have n1_ := Aside0.mk (blk_below (g := gb258) (o := .cells #[.slice A257_0 ((rd_T34 l1 x17_1).f0).length c257_0,.int .i64 ((rd_T34 l1 x17_1).f1)] 34 (0,0)) (by (with_reducible repeat (first | refine blk_drewN ?_ _ | refine blk_drew ?_ | refine blk_alloc ?_ _));refine blk_put (cs := #[.slice A257_0 ((rd_T34 l1 x17_1).f0).length c257_0,.int .i64 0]) ?_ 1 _ rfl;(with_reducible repeat (first | refine blk_drewN ?_ _ | refine blk_drew ?_ | refine blk_alloc ?_ _));refine blk_put (cs := #[.slice none 0 0,.int .i64 0]) ?_ 0 _ rfl;(with_reducible repeat (first | refine blk_drewN ?_ _ | refine blk_drew ?_ | refine blk_alloc ?_ _));exact BK258.out) hb);have n2_ := Aside0.mk (below_step (by repeat (first | (with_reducible first | exact HB.out | apply below_alloc | apply pw_below_drewN | apply below_drew1 | refine below_set ?_ GE256.out | refine below_set ?_ GE258.out) | exact HB.out)) hb);clear BK256;clear BK258;clear HB;have BK256 := n0_;have BK258 := n1_;have HB := n2_;clear n0_ n1_ n2_;(try clear hb);(try clear hb2);(try clear hk);(try clear hi)))
                  go_ret
                  exact ⟨by first | rfl | (simp [errW_none,errW_some] <;> rfl) | (simp [*,errW_none,errW_some] <;> rfl),by repeat (first | (with_reducible first | exact HB.out | apply below_alloc | apply pw_below_drewN | apply below_drew1 | refine below_set ?_ GE256.out | refine below_set ?_ GE258.out) | exact HB.out)⟩
              · rw [if_neg c8] at H
                exact absurd H (by simp)
            · rw [if_neg c7] at H
              exact absurd H (by simp)
          · rw [if_neg c6] at H
            exact absurd H (by simp)
        · rw [if_neg c5] at H
          have c5b0 : decide (x17_1 < (l0.length : Int)) = false := decide_eq_false c5
          clear c5
          obtain rfl := Option.some.inj H
          go_wp2
          go_ret
          exact ⟨by first | rfl | (simp [errW_none,errW_some] <;> rfl) | (simp [*,errW_none,errW_some] <;> rfl),by repeat (first | (with_reducible first | exact HB.out | apply below_alloc | apply pw_below_drewN | apply below_drew1) | exact HB.out)⟩
  · rw [if_neg c4] at H
    have c4b0 : ((l0.length : Int) == (l1.length : Int)) = false := beq_eq_false_iff_ne.mpr c4
    have c4b1 : ((l0.length : Int) != (l1.length : Int)) = true := bne_iff_ne.mpr c4
    have c4b2 : (l0.length == l1.length) = false := by first | simpa using c4 | (simp at c4 ⊢;omega)
    obtain rfl := Option.some.inj H
    go_enter Try.func72,Try.ntmps72
    go_wp2
    go_ret
    exact ⟨by first | rfl | (simp [errW_none,errW_some] <;> rfl) | (simp [*,errW_none,errW_some] <;> rfl),by repeat (first | (with_reducible first | exact HB.out | apply below_alloc | apply pw_below_drewN | apply below_drew1) | exact HB.out)⟩
end Go.Proofs.Ythmbfcfomcaaaaa.Z
end
section
namespace Go.Proofs.Ythmbfcfomcaaaaa.Z
set_option linter.unusedVariables false
set_option linter.unusedSimpArgs false
open Go.RowKit Go.Proofs.YthmbfcfomcaaaaaW.PrintWords Go.Proofs.YthmbfcfomcaaaaaW.PrintLast Go.Proofs.YthmbfcfomcaaaaaW.PrintMore Go.Proofs.Ythmbfcfomcaaaaa.Cmp
theorem rows_nil (w : World) : Calls Try.prog 34 #[.pointer none] w fun e w' => e = .returned (.slice none 0 0) ∧ w = w' := by
  go_enter Try.func34,Try.ntmps34
  go_wp2
  go_ret
  exact ⟨rfl,rfl⟩
end Go.Proofs.Ythmbfcfomcaaaaa.Z
end
section
namespace Go.Proofs.Ythmbfcfomcaaaaa.Z
set_option linter.unusedVariables false
set_option linter.unusedSimpArgs false
open Go.RowKit Go.Shelf Go.Proofs.YthmbfcfomcaaaaaW.PrintWords Go.Proofs.YthmbfcfomcaaaaaW.PrintLast Go.Proofs.YthmbfcfomcaaaaaW.PrintMore Go.Proofs.Ythmbfcfomcaaaaa.Cmp
attribute [local go_sem] Oper.semAt_some
end Go.Proofs.Ythmbfcfomcaaaaa.Z
end
section
namespace Go.Proofs.Ythmbfcfomcaaaaa.Z
set_option linter.unusedVariables false
set_option linter.unusedSimpArgs false
open Go.RowKit Go.Proofs.YthmbfcfomcaaaaaW.PrintWords Go.Proofs.YthmbfcfomcaaaaaW.PrintLast Go.Proofs.YthmbfcfomcaaaaaW.PrintMore Go.Proofs.Ythmbfcfomcaaaaa.Cmp
structure OnceAt (N : Nat) (w : World) (o b : Nat) (t : Tr) (D : Nat → Prop) : Prop where
  blk : w.heap[o]? = some (.cells #[.pointer (some ⟨b,0,none⟩)] 116 (0,0))
  bag : One N w b t D
  o_le : N ≤ o
  o_not : ¬ BagOwn b t D o
def OnceOwn (o b : Nat) (t : Tr) (D : Nat → Prop) (k : Nat) : Prop := k = o ∨ BagOwn b t D k
theorem OnceAt.lt {N w o b t D} (h : OnceAt N w o b t D) : ∀ k,OnceOwn o b t D k → k < w.heap.size := fun k hk => hk.elim (fun e => by subst e;exact blk_lt h.blk) (h.bag.bag.own_lt k)
theorem OnceAt.below {N : Nat} {w w1 : World} {o b : Nat} {t : Tr} {D : Nat → Prop} (h : OnceAt N w o b t D) (hb : Below w.heap.size w w1) : OnceAt N w1 o b t D := ⟨blk_below h.blk hb,h.bag.below hb,h.o_le,h.o_not⟩
theorem OnceAt.keep {N : Nat} {w w1 : World} {o b : Nat} {t : Tr} {D S : Nat → Prop} (h : OnceAt N w o b t D) (hc : Ch S w w1) (hS : ∀ k,S k → ¬ OnceOwn o b t D k) : OnceAt N w1 o b t D :=
  ⟨hc.blk h.blk (fun s => hS _ s (.inl rfl)),⟨h.bag.bag.keep hc (fun k s q => hS k s (.inr q)),h.bag.own⟩,h.o_le,h.o_not⟩
set_option maxHeartbeats 1000000 in
theorem once_new (w : World) : Calls Try.prog 47 #[] w fun e w' => ∃ o b,e = .returned (.pointer (some ⟨o,0,none⟩)) ∧ OnceAt w.heap.size w' o b .nil (fun _ => False) ∧ Below w.heap.size w w' := by
  obtain ⟨N,hN⟩ : ∃ N,w.heap.size = N := ⟨_,rfl⟩
  have I0 := Aside0.mk (NextW.refl w)
  rw [hN] at I0 ⊢
  have HN := Aside0.mk hN
  clear hN
  go_enter Try.func47,Try.ntmps47
  go_wp2_with (fail)
  refine (bag_new1 w).mono ?_
  rintro e w1 ⟨b,rfl,h1,hb⟩
  have T1 := Aside0.mk (show One N w1 b .nil (fun _ => False) from ⟨h1.bag,fun k hk => HN.out ▸ h1.own k hk⟩)
  have I1 := Aside0.mk (I0.out.next hb)
  clear h1 hb I0
  go_wp2_with (fail)
  go_ret
  exact ⟨_,b,rfl,⟨blk_new w1 _,T1.out.below (below_alloc (Below.refl _ _) _),I1.out.le,fun q => absurd (T1.out.bag.own_lt _ q) (Nat.lt_irrefl _)⟩,(I1.out.next (below_alloc (Below.refl _ _) _)).at_⟩
def netD (l : List En) : List En := if (ofD l []).1 = 0 then (ofD l []).2 else []
set_option maxHeartbeats 2000000 in
set_option maxRecDepth 100000 in
theorem net_at (A : Option Addr) (n c : Nat) (l : List En) (w : World) (hl : Kd.C k34 w A n l) (hn : n ≤ 1000) :
    Calls Try.prog 56 #[.slice A n c] w fun e w' => ∃ v,e = .returned (.tuple #[v,.int .i64 (ofD l []).1]) ∧ Kd.R k34 34 w' w.heap.size (fun _ => True) v (netD l) ∧ Below w.heap.size w w' := by
  have HO := Aside0.mk (bag_of A n c l w hl hn)
  unfold netD
  obtain ⟨⟨q,L⟩,hq⟩ : ∃ x,ofD l [] = x := ⟨_,rfl⟩
  rw [hq] at HO ⊢
  simp only at HO ⊢
  obtain ⟨R,hR⟩ : ∃ R,(if q = 0 then L else []) = R := ⟨_,rfl⟩
  have HR := Aside0.mk hR
  rw [hR]
  clear hl hq hR
  go_enter Try.func56,Try.ntmps56
  go_wp2_with (fail)
  refine HO.out.mono ?_
  rintro e w1 ⟨p,q',L',he,rfl,hb,h1,h2⟩
  obtain ⟨rfl,rfl⟩ : q = q' ∧ L = L' := by injection he with e1 e2;exact ⟨e1,e2⟩
  have B1 := Aside0.mk hb
  by_cases h0 : q = 0
  · obtain ⟨b,t,D,rfl,hd,hll,hT⟩ := h2 h0
    have T1 := Aside0.mk hT
    have DT := Aside0.mk hd
    have LL := Aside0.mk hll
    subst h0
    have HR2 := Aside0.mk (show L = R by have := HR.out;rw [if_pos rfl] at this;exact this)
    clear hb h1 h2 hd hll hT HO he HR
    go_wp2_with (fail)
    refine (bag_rows b t w1 T1.out.bag (by rw [← doc_len,DT.out];have := LL.out;omega)).mono ?_
    rintro e w2 ⟨v,rfl,hv,hb⟩
    have HV := Aside0.mk (Kd.R_lower hv B1.out.size)
    have B2 := Aside0.mk (B1.out.trans (hb.mono B1.out.size))
    clear hv hb
    go_wp2_with (fail)
    go_ret2
    exact ⟨v,rfl,by have := HV.out;rw [DT.out,HR2.out] at this;exact this,B2.out⟩
  · obtain rfl := h1 h0
    obtain rfl : [] = R := by have := HR.out;rw [if_neg h0] at this;exact this
    clear hb h1 h2 HO he h0 HR
    go_wp2_with (fail)
    refine (rows_nil w1).mono ?_
    rintro e w2 ⟨rfl,rfl⟩
    go_wp2_with (fail)
    go_ret2
    exact ⟨_,rfl,Kd.R_nil _ _ _ _ _,B1.out⟩
set_option maxHeartbeats 8000000 in
set_option maxRecDepth 100000 in
theorem once_may {N : Nat} {o b : Nat} {t : Tr} {D : Nat → Prop} (A : Option Addr) (n c : Nat) (net L : List En) (w : World) (h : OnceAt N w o b t D) (hd : docT t = L) (hl : L.length ≤ 100000) (hn : Kd.C k34 w A n net) (kn : OkD net) (hn2 : n ≤ 1000) :
    Calls Try.prog 86 #[.pointer (some ⟨o,0,none⟩),.slice A n c] w fun e w' => e = .returned (.int .i64 (mayD L net L.length)) ∧ Below w.heap.size w w' := by
  have HA := Aside0.mk h
  have DT := Aside0.mk hd
  have LL := Aside0.mk hl
  have HN := Aside0.mk hn
  have KN := Aside0.mk kn
  have LN := Aside0.mk (show net.length = n from hn.1)
  have KL := Aside0.mk (show OkD L by rw [← hd];exact h.bag.bag.ok)
  have BL := Aside0.mk (bag_len b t w h.bag.bag)
  rw [hd] at BL
  have o0 := (blk_cell h.blk 0).trans rfl
  obtain ⟨res,hres⟩ : ∃ res,mayD L net L.length = res := ⟨_,rfl⟩
  have RES := Aside0.mk hres
  rw [hres]
  clear h hd hl hn kn hres
  go_enter Try.func86,Try.ntmps86
  go_wp2_with (fail)
  refine BL.out.mono ?_
  rintro e w1 ⟨rfl,rfl⟩
  obtain ⟨ρ,hρ⟩ : ∃ ρ : Int,(L.length : Int) = ρ := ⟨_,rfl⟩
  have RHO := Aside0.mk hρ
  rw [hρ]
  rw [hρ] at RES
  clear BL hρ
  go_wp2_with (fail)
  go_loopw [5,8,9,17] (fun rv _ _ iv wr => ∃ (i : Nat) (r : Int),rv = .int .i64 r ∧ iv = .int .i64 (i : Int) ∧ i ≤ n ∧ Aside0 (mayD L (net.drop i) r = res ∧ ρ - i ≤ r ∧ r ≤ ρ + i) ∧ Aside0 (Below w.heap.size w wr)) (fun _ _ _ iv _ => n - (intOf iv).toNat)
  case atStart => exact ⟨0,ρ,rfl,rfl,Nat.zero_le _,⟨by rw [List.drop_zero];exact RES.out,by omega,by omega⟩,⟨Below.refl _ _⟩⟩
  case round =>
    obtain ⟨i,r,rfl,rfl,hi,AL,IB⟩ := hrel
    have r0 : -2000 ≤ r := by have := AL.out.2;have := RHO.out;have := LN.out;omega
    have r1 : r ≤ 200000 := by have := AL.out.2;have := RHO.out;have := LL.out;omega
    by_cases hin : i < n
    · have k0 : decide ((i : Int) < (n : Int)) = true := decide_eq_true (by omega)
      have k0' : decide (i < n) = true := decide_eq_true hin
      have p0 : (0 : Int) ≤ (i : Int) := by omega
      have p1 : (i : Int) < (n : Int) := by omega
      obtain ⟨x,hx⟩ : ∃ x,net[i]? = some x := ⟨net[i]'(by have := LN.out;omega),List.getElem?_eq_getElem _⟩
      obtain ⟨ad,Ax,cx,e1,x0,x1,hxc⟩ := ent_get (Kd.C_below HN.out IB.out) hin hx
      subst e1
      have XC := Aside0.mk hxc
      have XO := Aside0.mk (KN.out x (List.mem_of_getElem? hx))
      have LD := Aside0.mk (show net.drop i = x :: net.drop (i + 1) by
        have hil : i < net.length := by have := LN.out;omega
        rw [List.drop_eq_getElem_cons hil]
        rw [List.getElem?_eq_getElem hil] at hx
        rw [Option.some.inj hx])
      clear hx hxc
      obtain ⟨xr,xm⟩ := x
      simp only at *
      have BM := Aside0.mk (fun W (hb : Below w.heap.size w W) (hr : RowC W Ax cx xr) => bag_many b t Ax cx xr W (HA.out.bag.bag.below hb) hr)
      have QB := Aside0.mk (many_bd (r := xr) KL.out)
      rw [DT.out] at BM
      obtain ⟨q,hq⟩ : ∃ q,manyD xr L = q := ⟨_,rfl⟩
      rw [hq] at BM QB
      have AL2 := Aside0.mk (show (if q + xm < 0 ∨ 1073741824 < q + xm then 10 else mayD L (net.drop (i + 1)) (if q = 0 then r + 1 else if q + xm = 0 then r - 1 else r)) = res by
        have := AL.out.1
        rw [LD.out] at this
        simp only [mayD] at this
        rw [hq] at this
        exact this)
      have q0 := QB.out.1
      have q1 := QB.out.2
      have m0 := XO.out.2.2.1
      have m1 := XO.out.2.2.2
      clear hq
      go_wp2_with (fail)
      have BA := below_alloc (Below.refl wr.heap.size wr) (Obj.cells #[.slice Ax xr.length cx,.int .i64 xm] 34)
      have XC5 := Aside0.mk (XC.out.below BA)
      have IB5 := Aside0.mk (IB.out.trans (BA.mono IB.out.size))
      have e0 := (blk_cell (blk_new wr (Obj.cells #[.slice Ax xr.length cx,.int .i64 xm] 34)) 0).trans rfl
      have e1 := (blk_cell (blk_new wr (Obj.cells #[.slice Ax xr.length cx,.int .i64 xm] 34)) 1).trans rfl
      obtain ⟨g,hg⟩ : ∃ g,wr.heap.size = g := ⟨_,rfl⟩
      rw [hg] at e0 e1 ⊢
      clear BA x0 x1 IB XC hg
      generalize wr.alloc (Obj.cells #[.slice Ax xr.length cx,.int .i64 xm] 34) = w5 at *
      have o5 := (IB5.out.cell (World.block_lt_of_cell? _ _ o0)).trans o0
      go_region_held3 (fun w' => w'.cell? ⟨o,0,none⟩ = some (.pointer (some ⟨b,0,none⟩)) ∧ w'.cell? ⟨g,0,none⟩ = some (.slice Ax xr.length cx)) (first | go_keep | exact ⟨by assumption,by assumption⟩) (first
        | (go_at_call 18;(with_reducible refine (BM.out _ ?_ ?_).mono ?_);exact ⟨IB5.out.os,IB5.out.tape,IB5.out.output,IB5.out.size,IB5.out.block⟩;exact XC5.out.below ((SameW.drew w5).below _);rintro e w6 ⟨rfl,hb⟩;replace o5 := (hb.cell (World.block_lt_of_cell? _ _ o5)).trans o5;replace e0 := (hb.cell (World.block_lt_of_cell? _ _ e0)).trans e0;replace e1 := (hb.cell (World.block_lt_of_cell? _ _ e1)).trans e1;have IB6 := Aside0.mk (IB5.out.trans (((SameW.drew w5).below _).trans (hb.mono IB5.out.size)));clear hb IB5 XC5))
      by_cases c0 : q + xm < 0
      · have d0 : decide (q + xm < 0) = true := decide_eq_true c0
        obtain rfl : (10 : Int) = res := by have := AL2.out;rw [if_pos (.inl c0)] at this;exact this
        clear c0
        go_wp2_with (fail)
        go_ret
        exact ⟨rfl,IB6.out⟩
      · have d0 : decide (q + xm < 0) = false := decide_eq_false c0
        by_cases c1 : 1073741824 < q + xm
        · have d1 : decide (1073741824 < q + xm) = true := decide_eq_true c1
          obtain rfl : (10 : Int) = res := by have := AL2.out;rw [if_pos (.inr c1)] at this;exact this
          clear c0 c1
          go_wp2_with (fail)
          go_ret
          exact ⟨rfl,IB6.out⟩
        · have d1 : decide (1073741824 < q + xm) = false := decide_eq_false c1
          have AL3 := Aside0.mk (AL2.out ▸ (if_neg (by omega)).symm : mayD L (net.drop (i + 1)) (if q = 0 then r + 1 else if q + xm = 0 then r - 1 else r) = res)
          have AB := Aside0.mk AL.out.2
          clear AL2 AL c0 c1
          by_cases c2 : q = 0
          · have d2 : (q == 0) = true := by simp [c2]
            have AL4 := Aside0.mk (show mayD L (net.drop (i + 1)) (r + 1) = res by have := AL3.out;rw [if_pos c2] at this;exact this)
            clear c2
            go_wp2_with (fail)
            go_roundw
            case rel => exact ⟨i + 1,r + 1,rfl,by go_num,hin,⟨AL4.out,by have := AB.out;omega,by have := AB.out;omega⟩,IB6⟩
            case measure => simp [intOf];omega
          · have d2 : (q == 0) = false := by simp [c2]
            by_cases c3 : q + xm = 0
            · have d3 : (q + xm == 0) = true := by simp [c3]
              have AL4 := Aside0.mk (show mayD L (net.drop (i + 1)) (r - 1) = res by have := AL3.out;rw [if_neg c2,if_pos c3] at this;exact this)
              clear c2 c3
              go_wp2_with (fail)
              go_roundw
              case rel => exact ⟨i + 1,r - 1,rfl,by go_num,hin,⟨AL4.out,by have := AB.out;omega,by have := AB.out;omega⟩,IB6⟩
              case measure => simp [intOf];omega
            · have d3 : (q + xm == 0) = false := by simp [c3]
              have AL4 := Aside0.mk (show mayD L (net.drop (i + 1)) r = res by have := AL3.out;rw [if_neg c2,if_neg c3] at this;exact this)
              clear c2 c3
              go_wp2_with (fail)
              go_roundw
              case rel => exact ⟨i + 1,r,rfl,by go_num,hin,⟨AL4.out,by have := AB.out;omega,by have := AB.out;omega⟩,IB6⟩
              case measure => simp [intOf];omega
    · have k0 : decide ((i : Int) < (n : Int)) = false := decide_eq_false (by omega)
      have k0' : decide (i < n) = false := decide_eq_false hin
      have ME := Aside0.mk (show (if 1500 < r then (6 : Int) else 0) = res by
        have := AL.out.1
        rw [List.drop_of_length_le (by have := LN.out;omega)] at this
        exact this)
      clear AL
      by_cases c0 : 1500 < r
      · have d0 : decide ((1500 : Int) < r) = true := decide_eq_true c0
        obtain rfl : (6 : Int) = res := by have := ME.out;rw [if_pos c0] at this;exact this
        clear c0
        go_wp2_with (fail)
        go_ret
        exact ⟨rfl,IB.out⟩
      · have d0 : decide ((1500 : Int) < r) = false := decide_eq_false c0
        obtain rfl : (0 : Int) = res := by have := ME.out;rw [if_neg c0] at this;exact this
        clear c0
        go_wp2_with (fail)
        go_ret
        exact ⟨rfl,IB.out⟩
end Go.Proofs.Ythmbfcfomcaaaaa.Z
end
section
namespace Go.Proofs.Ythmbfcfomcaaaaa.Z
set_option linter.unusedVariables false
set_option linter.unusedSimpArgs false
open Go.RowKit Go.Proofs.YthmbfcfomcaaaaaW.PrintWords Go.Proofs.YthmbfcfomcaaaaaW.PrintLast Go.Proofs.YthmbfcfomcaaaaaW.PrintMore Go.Proofs.Ythmbfcfomcaaaaa.Cmp
end Go.Proofs.Ythmbfcfomcaaaaa.Z
end
section
namespace Go.Proofs.Ythmbfcfomcaaaaa.Z
set_option linter.unusedVariables false
set_option linter.unusedSimpArgs false
open Go.RowKit Go.Proofs.YthmbfcfomcaaaaaW.PrintWords Go.Proofs.YthmbfcfomcaaaaaW.PrintLast Go.Proofs.YthmbfcfomcaaaaaW.PrintMore Go.Proofs.Ythmbfcfomcaaaaa.Cmp
theorem mul_len (m : Int) : ∀ (O L : List En),SrtD L → OkD L → (mulD m O L).length ≤ L.length + O.length
  | [],L,_,_ => Nat.le_refl _
  | e :: O,L,hs,hk => by
    obtain ⟨i1,i2⟩ := addD_inv (r := e.f0) (m := e.f1 * m) hs hk
    have h1 := mul_len m O (addD e.f0 (e.f1 * m) L).2 i1 i2
    have h2 := addD_len e.f0 (e.f1 * m) hs
    simp only [mulD,List.length_cons]
    omega
end Go.Proofs.Ythmbfcfomcaaaaa.Z
end
section
namespace Go.Proofs.Ythmbfcfomcaaaaa.Z
set_option linter.unusedVariables false
set_option linter.unusedSimpArgs false
open Go.RowKit Go.Proofs.YthmbfcfomcaaaaaW.PrintWords Go.Proofs.YthmbfcfomcaaaaaW.PrintLast Go.Proofs.YthmbfcfomcaaaaaW.PrintMore Go.Proofs.Ythmbfcfomcaaaaa.Cmp
structure OneR (N : Nat) (w : World) (g : Nat) (A : Option Addr) (c : Nat) (L : List En) (E : Nat → Prop) : Prop where
  ref : RefV w g A c L E
  g_le : N ≤ g
  e_le : ∀ k,E k → N ≤ k
theorem OneR.below {N : Nat} {w w1 : World} {g : Nat} {A : Option Addr} {c : Nat} {L : List En} {E : Nat → Prop} (h : OneR N w g A c L E) (hb : Below w.heap.size w w1) : OneR N w1 g A c L E := ⟨h.ref.below hb,h.g_le,h.e_le⟩
end Go.Proofs.Ythmbfcfomcaaaaa.Z
end
section
namespace Go.Proofs.Ythmbfcfomcaaaaa.Z
set_option linter.unusedVariables false
set_option linter.unusedSimpArgs false
open Go.RowKit Go.Proofs.YthmbfcfomcaaaaaW.PrintWords Go.Proofs.YthmbfcfomcaaaaaW.PrintLast Go.Proofs.YthmbfcfomcaaaaaW.PrintMore Go.Proofs.Ythmbfcfomcaaaaa.Cmp
theorem RefCh.trans {w w1 w2 : World} {g : Nat} {E E1 E2 : Nat → Prop} (h : RefCh w w1 g E E1) (k : RefCh w1 w2 g E1 E2) : RefCh w w2 g E E2 :=
  ⟨h.ch.then_ k.ch (fun j s => .inl s),fun j hj => (k.dat j hj).elim (h.dat j) (fun q => .inr (Nat.le_trans h.ch.size q))⟩
theorem cell_of {w w' : World} {a : Addr} (h : w'.heap[a.block]? = w.heap[a.block]?) : w'.cell? a = w.cell? a := by unfold World.cell?;rw [h]
theorem add_block (a : Addr) (n : Nat) : (a.add n).block = a.block := by unfold Addr.add;split <;> rfl
end Go.Proofs.Ythmbfcfomcaaaaa.Z
end
section
namespace Go.Proofs.Ythmbfcfomcaaaaa.Z
set_option linter.unusedVariables false
set_option linter.unusedSimpArgs false
open Go.RowKit Go.Proofs.YthmbfcfomcaaaaaW.PrintWords Go.Proofs.YthmbfcfomcaaaaaW.PrintLast Go.Proofs.YthmbfcfomcaaaaaW.PrintMore Go.Proofs.Ythmbfcfomcaaaaa.Cmp
theorem ent_getF {w : World} {ok : Nat → Prop} {A : Option Addr} {n : Nat} {L : List En} (h : Kd.F k34 w ok A n L) {i : Nat} (hi : i < n) {x : En} (hx : L[i]? = some x) :
    ∃ ad A0 c0,A = some ad ∧ w.cell? (ad.add (i * 2)) = some (.slice A0 x.f0.length c0) ∧ w.cell? ⟨(ad.add (i * 2)).block,(ad.add (i * 2)).off + 1,none⟩ = some (.int .i64 x.f1) ∧ x.f0.length ≤ c0 ∧ Kd.F k66 w ok A0 x.f0.length x.f0 := by
  obtain ⟨ad,cs,e1,hcl,hK,hcc,_⟩ := Kd.F_get h z34 (i : Int) (by omega) (by omega)
  simp only [Int.toNat_natCast] at hK hcc
  rw [List.getD_eq_getElem?_getD,hx] at hK
  obtain ⟨A0,c0,e2,hl,hF⟩ := k34_openF hK
  subst e2
  have hc : ∀ j u,[Value.slice A0 x.f0.length c0,Value.int .i64 x.f1][j]? = some u → w.cell? (ad.add (i * 2 + j)) = some u := hcc
  exact ⟨ad,A0,c0,e1,hc 0 _ rfl,by rw [← add_field _ _ 1 (by omega)];exact hc 1 _ rfl,hl,hF⟩
theorem BagCh.more {w w1 w2 : World} {b : Nat} {t t' : Tr} {D D' S : Nat → Prop} (h : BagCh w w1 b t t' D D') (k : Ch S w1 w2) (hs : ∀ k,S k → w.heap.size ≤ k) : BagCh w w2 b t t' D D' := ⟨h.ch.then_ k (fun k s => .inr (hs k s)),h.ids,h.dat⟩
structure AppI (N M NN : Nat) (w3 wr : World) (o b : Nat) (t : Tr) (D : Nat → Prop) (v : Value) (L T : List En) : Prop where
  ex : ∃ ti Di,docT ti = L ∧ OnceAt N wr o b ti Di ∧ BagCh w3 wr b t ti D Di ∧ Kd.N k34 34 wr M (fun k => M ≤ k ∧ ¬ BagOwn b ti Di k) v T ∧ ∀ k,v.ownBlock = some k → NN ≤ k
theorem N_bagged {w w1 : World} {b M : Nat} {t t' : Tr} {D D' : Nat → Prop} {v : Value} {T : List En} (h : Kd.N k34 34 w M (fun k => M ≤ k ∧ ¬ BagOwn b t D k) v T) (hc : BagCh w w1 b t t' D D') : Kd.N k34 34 w1 M (fun k => M ≤ k ∧ ¬ BagOwn b t' D' k) v T :=
  Kd.N_mono (Kd.N_step (Kd.N_bound h) (fun k hk hlt => hc.ch.block k hlt (fun s => hk.1.2 (s.elim .inl (fun q => .inr (.inl q)))))) (fun k hk => ⟨hk.1.1,fun ho => (hc.own k ho).elim hk.1.2 (fun q => by have := hk.2;omega)⟩)
theorem tell_snoc {L net : List En} {i : Nat} {x : En} (hx : net[i]? = some x) : tellD L (net.take (i + 1)) = tellD L (net.take i) ++ tell1 L x := by
  rw [List.take_add_one,hx]
  unfold tellD
  rw [List.flatMap_append]
  simp
theorem keep_cell {S : Nat → Prop} {w w1 : World} {a : Addr} {v : Value} (hc : Ch S w w1) (h : w.cell? a = some v) (hn : ¬ S a.block) : w1.cell? a = some v :=
  (cell_of (hc.block a.block (World.block_lt_of_cell? _ _ h) hn)).trans h
theorem of_inv0 (l : List En) : SrtD (ofD l []).2 ∧ OkD (ofD l []).2 ∧ (ofD l []).2.length ≤ l.length := by
  obtain ⟨h1,h2,h3⟩ := of_inv l [] List.Pairwise.nil (fun x hx => (by cases hx))
  exact ⟨h1,h2,by rw [List.length_nil,Nat.zero_add] at h3;exact h3⟩
theorem tell_len (L : List En) : ∀ net : List En,(tellD L net).length ≤ net.length
  | [] => Nat.le_refl _
  | e :: es => by
    have h := tell_len L es
    have h1 : (tell1 L e).length ≤ 1 := by unfold tell1;split;exact Nat.le_refl 1;split;exact Nat.le_refl 1;exact Nat.zero_le 1
    rw [tell_cons,List.length_append,List.length_cons]
    omega
theorem mul_take {L net : List En} (ho : SrtD net) (ko : OkD net) (hs : SrtD L) (hk : OkD L) (ha : allD 1 net L = true) {i : Nat} {x : En} (hx : net[i]? = some x) :
    addD x.f0 x.f1 (mulD 1 (net.take i) L) = (0,mulD 1 (net.take (i + 1)) L) ∧ manyD x.f0 (mulD 1 (net.take i) L) = manyD x.f0 L := by
  have hi : i < net.length := (List.getElem?_eq_some_iff.1 hx).1
  have e : net = net.take i ++ x :: net.drop (i + 1) := by
    have h1 := (List.take_append_drop i net).symm
    rw [List.drop_eq_getElem_cons hi] at h1
    rw [List.getElem?_eq_getElem hi] at hx
    rw [Option.some.inj hx] at h1
    exact h1
  have e2 : net.take (i + 1) = net.take i ++ [x] := by rw [List.take_add_one,hx];rfl
  generalize net.take i = T1 at e e2 ⊢
  generalize net.drop (i + 1) = T2 at e
  rw [e] at ho ko ha
  rw [e2]
  exact ⟨mul_step ho ko hs hk ha,many_mul ho ko hs hk ha⟩
set_option maxHeartbeats 8000000 in
set_option maxRecDepth 100000 in
theorem once_apply {N : Nat} {o b : Nat} {t : Tr} {D : Nat → Prop} (A : Option Addr) (n c : Nat) (l L : List En) (w : World) (h : OnceAt N w o b t D) (hd : docT t = L) (hL : OnceD L) (hl : Kd.C k34 w A n l) (hn : n ≤ 1000) (hNM : N ≤ w.heap.size) :
    Calls Try.prog 50 #[.pointer (some ⟨o,0,none⟩),.slice A n c] w fun e w' => ∃ v t' D',e = .returned (.tuple #[v,.int .i64 (appD l L).1]) ∧ docT t' = (appD l L).2.2 ∧ OnceAt N w' o b t' D' ∧ BagCh w w' b t t' D D' ∧ Kd.N k34 34 w' w.heap.size (fun k => w.heap.size ≤ k ∧ ¬ BagOwn b t' D' k) v (appD l L).2.1 := by
  have LN := Aside0.mk (show l.length = n from hl.1)
  have NT := Aside0.mk (net_at A n c l w hl hn)
  have HA := Aside0.mk h
  have DT := Aside0.mk hd
  have HL := Aside0.mk hL
  have OI := Aside0.mk (of_inv0 l)
  unfold appD
  unfold netD at NT
  obtain ⟨⟨q,nt⟩,hq⟩ : ∃ x,ofD l [] = x := ⟨_,rfl⟩
  rw [hq] at NT OI ⊢
  simp only at NT OI ⊢
  obtain ⟨M,hM⟩ : ∃ M,w.heap.size = M := ⟨_,rfl⟩
  have HM := Aside0.mk hM
  have NM := Aside0.mk (show N ≤ M from hM ▸ hNM)
  rw [hM] at NT
  have LTO := Aside0.mk (show ∀ k,OnceOwn o b t D k → k < M from fun k hk => by rw [← hM];exact h.lt k hk)
  by_cases h0 : q = 0
  case neg =>
    rw [if_neg h0]
    rw [if_neg h0] at NT
    have c0 : (q != 0) = true := by simp [h0]
    clear h hd hL hl hq h0 OI
    rw [hM]
    clear hM
    go_enter Try.func50,Try.ntmps50
    go_wp2_with (fail)
    refine NT.out.mono ?_
    rintro e w1 ⟨v,rfl,_,hb⟩
    have B1 := Aside0.mk hb
    clear hb
    go_wp2_with (fail)
    go_ret2
    have B0 : Below w.heap.size w w1 := HM.out ▸ B1.out
    exact ⟨_,t,D,rfl,DT.out,HA.out.below B0,BagCh.same B0,Kd.N_nil _ _ _ _ _⟩
  case pos =>
  subst h0
  rw [if_pos rfl]
  rw [if_pos rfl] at NT
  have hL2 := hL
  clear h hl hq
  by_cases hm : mayD L nt L.length = 0
  case neg =>
    rw [if_neg hm]
    obtain ⟨mc,hmc⟩ : ∃ mc,mayD L nt L.length = mc := ⟨_,rfl⟩
    have HMC := Aside0.mk hmc
    have c0 : (mc != 0) = true := by rw [← hmc];simp [hm]
    rw [hmc]
    clear hmc hm hd hL hL2
    rw [hM]
    clear hM
    go_enter Try.func50,Try.ntmps50
    go_wp2_with (fail)
    refine NT.out.mono ?_
    rintro e w1 ⟨v,rfl,hv,hb⟩
    have B1 := Aside0.mk (show Below w.heap.size w w1 from HM.out ▸ hb)
    obtain ⟨A1,c1,rfl⟩ := Kd.R_slice hv
    have CV := Aside0.mk (Kd.R_reads' hv).2.2
    clear hb hv NT
    go_wp2_with (fail)
    refine (once_may A1 nt.length c1 nt L w1 (HA.out.below B1.out) DT.out (by have := HL.out.few;omega) CV.out OI.out.2.1 (by have := OI.out.2.2;have := LN.out;omega)).mono ?_
    rintro e w2 ⟨rfl,hb⟩
    have B2 := Aside0.mk (B1.out.trans (hb.mono B1.out.size))
    rw [HMC.out]
    clear hb CV
    go_wp2_with (fail)
    go_ret2
    exact ⟨_,t,D,rfl,DT.out,HA.out.below B2.out,BagCh.same B2.out,Kd.N_nil _ _ _ _ _⟩
  case pos =>
  rw [if_pos hm]
  have HMC := Aside0.mk hm
  have AD := Aside0.mk (inB_all OI.out.2.1 ((may_iff _ _ _).1 hm).1)
  clear hm hd hL hL2
  rw [hM]
  clear hM
  go_enter Try.func50,Try.ntmps50
  go_wp2_with (fail)
  refine NT.out.mono ?_
  rintro e w1 ⟨v,rfl,hv,hb⟩
  have B1 := Aside0.mk (show Below w.heap.size w w1 from HM.out ▸ hb)
  obtain ⟨A1,c1,rfl⟩ := Kd.R_slice hv
  have CV := Aside0.mk (Kd.R_reads' hv).2.2
  have FV := Aside0.mk (show Kd.F k34 w1 (fun k => M ≤ k ∧ k < w1.heap.size) A1 nt.length nt from Kd.F_mono (Kd.R_F (Kd.R_bound hv)) (fun k hk => ⟨hk.2.1,hk.2.2.1⟩))
  clear hb hv NT
  go_wp2_with (fail)
  refine (once_may A1 nt.length c1 nt L w1 (HA.out.below B1.out) DT.out (by have := HL.out.few;omega) CV.out OI.out.2.1 (by have := OI.out.2.2;have := LN.out;omega)).mono ?_
  rintro e w3 ⟨rfl,hb⟩
  have B3 := Aside0.mk (B1.out.trans (hb.mono B1.out.size))
  have FV3 := Aside0.mk (show Kd.F k34 w3 (fun k => M ≤ k ∧ k < w3.heap.size) A1 nt.length nt from Kd.F_mono (Kd.F_below FV.out hb) (fun k hk => ⟨hk.1,Nat.lt_of_lt_of_le hk.2 hb.size⟩))
  have HA3 := Aside0.mk (HA.out.below B3.out)
  rw [HMC.out]
  have NB := Aside0.mk (show nt.length ≤ 1000 by have := OI.out.2.2;have := LN.out;omega)
  have MN := Aside0.mk (show M ≤ w3.heap.size from HM.out ▸ B3.out.size)
  clear hb CV FV B1
  obtain ⟨m,hm⟩ : ∃ m,nt.length = m := ⟨_,rfl⟩
  have LM := Aside0.mk hm
  rw [hm]
  rw [hm] at FV3 NB
  have m0 : m ≤ 1000 := NB.out
  clear hm
  go_wp2_with (fail)
  go_loopw [9,31] (fun v iv wr => ∃ i : Nat,iv = .int .i64 (i : Int) ∧ i ≤ m ∧ Aside0 (AppI N M w3.heap.size w3 wr o b t D v (mulD 1 (nt.take i) L) (tellD L (nt.take i)))) (fun _ iv _ => m - (intOf iv).toNat)
  case atStart => exact ⟨0,rfl,Nat.zero_le _,⟨⟨t,D,DT.out,HA3.out,BagCh.same (Below.refl _ _),Kd.N_nil _ _ _ _ _,fun k hk => by simp [Value.ownBlock] at hk⟩⟩⟩
  case round =>
    rename World => wr
    rename Value => vb
    obtain ⟨i,rfl,hi,AI⟩ := hrel
    obtain ⟨ti,Di,hdi,hoi,hci,hni,hvi⟩ := AI.out.ex
    have DTI := Aside0.mk hdi
    have OAI := Aside0.mk hoi
    have CHI := Aside0.mk hci
    have NVI := Aside0.mk hni
    have OVI := Aside0.mk hvi
    obtain ⟨Ab,cb,eb⟩ := Kd.N_slice hni
    obtain ⟨Lb,hLb⟩ : ∃ Lb,tellD L (nt.take i) = Lb := ⟨_,rfl⟩
    have HLB := Aside0.mk hLb
    rw [hLb] at NVI eb
    have LBL := Aside0.mk (show Lb.length ≤ 100000 by have := tell_len L (nt.take i);rw [hLb,List.length_take] at this;omega)
    subst eb
    clear AI hdi hoi hci hni hvi hLb
    by_cases hin : i < m
    · have k0 : decide ((i : Int) < (m : Int)) = true := decide_eq_true (by omega)
      have k0' : decide (i < m) = true := decide_eq_true hin
      have p0 : (0 : Int) ≤ (i : Int) := by omega
      have p1 : (i : Int) < (m : Int) := by omega
      obtain ⟨x,hx⟩ : ∃ x,nt[i]? = some x := ⟨nt[i]'(by have := LM.out;omega),List.getElem?_eq_getElem _⟩
      have FVR := Aside0.mk (show Kd.F k34 wr (fun k => M ≤ k ∧ k < w3.heap.size) A1 m nt from Kd.F_step FV3.out (fun k hk hlt => CHI.out.ch.block k hk.2 (fun s => by have := LTO.out k (.inr (s.elim .inl (fun q => .inr (.inl q))));have := hk.1;omega)))
      obtain ⟨ad,Ax,cx,e1,x0,x1,hxk,hxf⟩ := ent_getF FVR.out hin hx
      subst e1
      have XK := Aside0.mk hxk
      have XF := Aside0.mk hxf
      have XO := Aside0.mk (OI.out.2.1 x (List.mem_of_getElem? hx))
      have MT := Aside0.mk (mul_take OI.out.1 OI.out.2.1 HL.out.srt HL.out.ok AD.out hx)
      have TS := Aside0.mk (tell_snoc (L := L) hx)
      rw [HLB.out] at TS
      clear hx hxk hxf
      obtain ⟨xr,xm⟩ := x
      simp only at *
      obtain ⟨q,hq⟩ : ∃ q,manyD xr L = q := ⟨_,rfl⟩
      rw [hq] at MT
      have QB := Aside0.mk (many_bd (r := xr) HL.out.ok)
      rw [hq] at QB
      have TE := Aside0.mk (show tell1 L ⟨xr,xm⟩ = if q = 0 then [⟨xr,1⟩] else if q + xm = 0 then [⟨xr,-1⟩] else [] by unfold tell1;simp only;rw [hq])
      have q0 := QB.out.1
      have q1 := QB.out.2
      have m1 := XO.out.2.2.1
      have m2 := XO.out.2.2.2
      clear hq
      go_wp2_with (fail)
      have BA := below_alloc (Below.refl wr.heap.size wr) (Obj.cells #[.slice Ax xr.length cx,.int .i64 xm] 34)
      have XF5 := Aside0.mk (Kd.F_below XF.out BA)
      have OA5 := Aside0.mk (OAI.out.below BA)
      have BC5 := Aside0.mk (CHI.out.trans (BagCh.same BA))
      have NV5 := Aside0.mk (N_bagged NVI.out (BagCh.same BA))
      have e0 := (blk_cell (blk_new wr (Obj.cells #[.slice Ax xr.length cx,.int .i64 xm] 34)) 0).trans rfl
      have e1 := (blk_cell (blk_new wr (Obj.cells #[.slice Ax xr.length cx,.int .i64 xm] 34)) 1).trans rfl
      have GW := Aside0.mk (fun k (hk : BagOwn b ti Di k) => Nat.ne_of_lt (OAI.out.bag.bag.own_lt k hk))
      obtain ⟨g,hg⟩ : ∃ g,wr.heap.size = g := ⟨_,rfl⟩
      rw [hg] at e0 e1 GW ⊢
      clear BA x0 x1 XF OAI CHI NVI FVR hg
      generalize wr.alloc (Obj.cells #[.slice Ax xr.length cx,.int .i64 xm] 34) = w5 at *
      have o5 := (blk_cell OA5.out.blk 0).trans rfl
      have BM := Aside0.mk (bag_many b ti Ax cx xr w5.drew (OA5.out.bag.bag.below ((SameW.drew w5).below _)) ⟨XK.out,Kd.F_now (Kd.F_below XF5.out ((SameW.drew w5).below _))⟩)
      rw [DTI.out,MT.out.2] at BM
      go_region_held3 (fun w' => w'.cell? ⟨o,0,none⟩ = some (.pointer (some ⟨b,0,none⟩)) ∧ w'.cell? ⟨g,0,none⟩ = some (.slice Ax xr.length cx)) (first | go_keep | exact ⟨by assumption,by assumption⟩) (first
        | (go_at_call 18;(with_reducible refine BM.out.mono ?_);rintro e w6 ⟨rfl,hb⟩;replace o5 := (hb.cell (World.block_lt_of_cell? _ _ o5)).trans o5;replace e0 := (hb.cell (World.block_lt_of_cell? _ _ e0)).trans e0;replace e1 := (hb.cell (World.block_lt_of_cell? _ _ e1)).trans e1;have B6 := Aside0.mk (show Below w5.heap.size w5 w6 from ((SameW.drew w5).below _).trans hb);clear hb))
      have XF6 := Aside0.mk (Kd.F_below XF5.out B6.out)
      have OA6 := Aside0.mk (OA5.out.below B6.out)
      have BC6 := Aside0.mk (BC5.out.trans (BagCh.same B6.out))
      have NV6 := Aside0.mk (N_bagged NV5.out (BagCh.same B6.out))
      clear XF5 OA5 BC5 NV5 B6 BM
      go_wp2_with (fail)
      have BAD := Aside0.mk (bag_add b ti Ax cx xr xm w6.drew (OA6.out.bag.bag.below ((SameW.drew w6).below _)) ⟨XK.out,Kd.F_now (Kd.F_below XF6.out ((SameW.drew w6).below _))⟩ (by rw [← doc_len,DTI.out];have := mul_len 1 (nt.take i) L HL.out.srt HL.out.ok;have := HL.out.few;rw [List.length_take] at *;omega))
      rw [DTI.out,MT.out.1] at BAD
      simp only at BAD
      go_region_held3 (fun w' => w'.cell? ⟨o,0,none⟩ = some (.pointer (some ⟨b,0,none⟩)) ∧ w'.cell? ⟨g,0,none⟩ = some (.slice Ax xr.length cx) ∧ w'.cell? ⟨g,1,none⟩ = some (.int .i64 xm)) (first | go_keep | exact ⟨by assumption,by assumption,by assumption⟩) (first
        | (go_at_call 16;(with_reducible refine BAD.out.mono ?_);rintro e w7 ⟨t7,D7,rfl,hd7,hb7,hc7⟩;have HC7 := Aside0.mk hc7.ch;replace o5 := keep_cell HC7.out (show w6.drew.cell? ⟨o,0,none⟩ = _ from o5) (fun s => OA6.out.o_not (s.elim .inl (fun q => .inr (.inl q))));replace e0 := keep_cell HC7.out (show w6.drew.cell? ⟨g,0,none⟩ = _ from e0) (fun s => GW.out g (s.elim .inl (fun q => .inr (.inl q))) rfl);replace e1 := keep_cell HC7.out (show w6.drew.cell? ⟨g,1,none⟩ = _ from e1) (fun s => GW.out g (s.elim .inl (fun q => .inr (.inl q))) rfl);have DT7 := Aside0.mk hd7;have BB7 := Aside0.mk hb7;have BCC := Aside0.mk (show BagCh w6 w7 b ti t7 Di D7 from (BagCh.same ((SameW.drew w6).below _)).trans hc7);clear hd7 hb7 hc7))
      have OA7 := Aside0.mk (show OnceAt N w7 o b t7 D7 from ⟨BCC.out.ch.blk OA6.out.blk (fun s => OA6.out.o_not (s.elim .inl (fun q => .inr (.inl q)))),⟨BB7.out,fun k hk => (BCC.out.own k hk).elim (OA6.out.bag.own k) (fun q => Nat.le_trans (Nat.le_trans (Nat.le_trans NM.out MN.out) BC6.out.ch.size) q)⟩,OA6.out.o_le,fun ho => (BCC.out.own o ho).elim OA6.out.o_not (fun q => by have := blk_lt OA6.out.blk;omega)⟩)
      have BC7 := Aside0.mk (BC6.out.trans BCC.out)
      have NV7 := Aside0.mk (N_bagged NV6.out BCC.out)
      have XF7 := Aside0.mk (show Kd.F k66 w7 (fun k => M ≤ k ∧ k < w3.heap.size) Ax xr.length xr from Kd.F_step XF6.out (fun k hk hlt => BCC.out.ch.block k hlt (fun s => (BC6.out.own k (s.elim .inl (fun q => .inr (.inl q)))).elim (fun q => by have := LTO.out k (.inr q);have := hk.1;omega) (fun q => by have := hk.2;omega))))
      have MW7 := Aside0.mk (show M ≤ w7.heap.size from Nat.le_trans MN.out BC7.out.ch.size)
      have HOK := Aside0.mk (show ∀ k,(M ≤ k ∧ k < w3.heap.size) → (M ≤ k ∧ ¬ BagOwn b t7 D7 k) ∧ some k ≠ (Value.slice Ab Lb.length cb).ownBlock from fun k hk => ⟨⟨hk.1,fun ho => (BC7.out.own k ho).elim (fun q => by have := LTO.out k (.inr q);have := hk.1;omega) (fun q => by have := hk.2;omega)⟩,fun e => by have := OVI.out k e.symm;have := hk.2;omega⟩)
      have HFR := Aside0.mk (show ∀ k,w7.heap.size ≤ k → M ≤ k ∧ ¬ BagOwn b t7 D7 k from fun k hk => ⟨Nat.le_trans MW7.out hk,fun ho => by have := OA7.out.bag.bag.own_lt k ho;omega⟩)
      clear BAD OA6 BC6 NV6 XF6 BCC BB7
      by_cases c2 : q = 0
      · have d2 : (q == 0) = true := by simp [c2]
        have TE2 := Aside0.mk (show tellD L (nt.take (i + 1)) = Lb ++ [⟨xr,1⟩] by rw [TS.out,TE.out,if_pos c2])
        clear c2
        go_wp2_with (((with_reducible refine gate_builtin (b := .append) (xs := #[.tmp 54,.tmp 58]) rfl ?_);at_builtin;refine Kd.N_append k34 (w0 := w7) M rfl (.tmp 54) (.tmp 58) 22 34 (.agg #[(.slice none 0 0),(.int .i64 0)]) 32 rfl Try.underlying22 info34 rfl (by decide) (by omega) (.slice Ab Lb.length cb) Lb (⟨xr,1⟩ : En) [.slice Ax xr.length cx,.int .i64 1] (fun k => M ≤ k ∧ ¬ BagOwn b t7 D7 k) (fun k => M ≤ k ∧ k < w3.heap.size) rfl rfl (k34_mkF _ _ (⟨xr,1⟩ : En) XK.out XF7.out) HOK.out HFR.out NV7.out (Below.refl _ _) MW7.out (by have := LBL.out;omega) ?_;intro v8 w8 hv _ hg hat;have NV8 := Aside0.mk hv;have GR8 := Aside0.mk hg;have AT8 := Aside0.mk hat;clear hv hg hat))
        have CH8 := Aside0.mk (ch_grown (S := fun k => some k = (Value.slice Ab Lb.length cb).ownBlock) GR8.out (fun k e => e.symm))
        have OA8 := Aside0.mk (OA7.out.keep CH8.out (fun k s ho => by
          have h1 := NV7.out.1 k s.symm
          rcases ho with rfl | q2
          · have := LTO.out _ (.inl rfl);have := h1.1;omega
          · exact h1.2 q2))
        have BC8 := Aside0.mk (BC7.out.more CH8.out (fun k s => OVI.out k s.symm))
        have OV8 := Aside0.mk (own_new2 OVI.out (Nat.le_trans BC7.out.ch.size (Nat.le_refl _)) AT8.out)
        go_roundw
        case rel => exact ⟨i + 1,by go_num,hin,⟨⟨t7,D7,DT7.out,OA8.out,BC8.out,by rw [TE2.out];exact NV8.out,OV8.out⟩⟩⟩
        case measure => simp [intOf];omega
      · have d2 : (q == 0) = false := by simp [c2]
        by_cases c3 : q + xm = 0
        · have d3 : (q + xm == 0) = true := by simp [c3]
          have TE2 := Aside0.mk (show tellD L (nt.take (i + 1)) = Lb ++ [⟨xr,-1⟩] by rw [TS.out,TE.out,if_neg c2,if_pos c3])
          clear c2 c3
          go_wp2_with (((with_reducible refine gate_builtin (b := .append) (xs := #[.tmp 66,.tmp 70]) rfl ?_);at_builtin;refine Kd.N_append k34 (w0 := w7) M rfl (.tmp 66) (.tmp 70) 22 34 (.agg #[(.slice none 0 0),(.int .i64 0)]) 32 rfl Try.underlying22 info34 rfl (by decide) (by omega) (.slice Ab Lb.length cb) Lb (⟨xr,(-1)⟩ : En) [.slice Ax xr.length cx,.int .i64 (-1)] (fun k => M ≤ k ∧ ¬ BagOwn b t7 D7 k) (fun k => M ≤ k ∧ k < w3.heap.size) rfl rfl (k34_mkF _ _ (⟨xr,(-1)⟩ : En) XK.out XF7.out) HOK.out HFR.out NV7.out (Below.refl _ _) MW7.out (by have := LBL.out;omega) ?_;intro v8 w8 hv _ hg hat;have NV8 := Aside0.mk hv;have GR8 := Aside0.mk hg;have AT8 := Aside0.mk hat;clear hv hg hat))
          have CH8 := Aside0.mk (ch_grown (S := fun k => some k = (Value.slice Ab Lb.length cb).ownBlock) GR8.out (fun k e => e.symm))
          have OA8 := Aside0.mk (OA7.out.keep CH8.out (fun k s ho => by
            have h1 := NV7.out.1 k s.symm
            rcases ho with rfl | q2
            · have := LTO.out _ (.inl rfl);have := h1.1;omega
            · exact h1.2 q2))
          have BC8 := Aside0.mk (BC7.out.more CH8.out (fun k s => OVI.out k s.symm))
          have OV8 := Aside0.mk (own_new2 OVI.out (Nat.le_trans BC7.out.ch.size (Nat.le_refl _)) AT8.out)
          go_roundw
          case rel => exact ⟨i + 1,by go_num,hin,⟨⟨t7,D7,DT7.out,OA8.out,BC8.out,by rw [TE2.out];exact NV8.out,OV8.out⟩⟩⟩
          case measure => simp [intOf];omega
        · have d3 : (q + xm == 0) = false := by simp [c3]
          have TE2 := Aside0.mk (show tellD L (nt.take (i + 1)) = Lb by rw [TS.out,TE.out,if_neg c2,if_neg c3,List.append_nil])
          clear c2 c3
          go_wp2_with (fail)
          go_roundw
          case rel => exact ⟨i + 1,by go_num,hin,⟨⟨t7,D7,DT7.out,OA7.out,BC7.out,by rw [TE2.out];exact NV7.out,OVI.out⟩⟩⟩
          case measure => simp [intOf];omega
    · have k0 : decide ((i : Int) < (m : Int)) = false := decide_eq_false (by omega)
      have k0' : decide (i < m) = false := decide_eq_false hin
      have TK := Aside0.mk (show nt.take i = nt from List.take_of_length_le (by have := LM.out;omega))
      rw [TK.out] at DTI HLB
      go_wp2_with (fail)
      go_ret2
      exact ⟨_,ti,Di,rfl,DTI.out,OAI.out,(BagCh.same B3.out).trans CHI.out,by rw [HLB.out];exact NVI.out⟩
end Go.Proofs.Ythmbfcfomcaaaaa.Z
end
section
namespace Go.Proofs.Ythmbfcfomcaaaaa.Z
set_option linter.unusedVariables false
set_option linter.unusedSimpArgs false
open Go.RowKit Go.Proofs.YthmbfcfomcaaaaaW.PrintWords Go.Proofs.YthmbfcfomcaaaaaW.PrintLast Go.Proofs.YthmbfcfomcaaaaaW.PrintMore Go.Proofs.Ythmbfcfomcaaaaa.Cmp
end Go.Proofs.Ythmbfcfomcaaaaa.Z
end
section
namespace Go.Proofs.Ythmbfcfomcaaaaa.Z
set_option linter.unusedVariables false
set_option linter.unusedSimpArgs false
open Go.RowKit Go.Proofs.YthmbfcfomcaaaaaW.PrintWords Go.Proofs.YthmbfcfomcaaaaaW.PrintLast Go.Proofs.YthmbfcfomcaaaaaW.PrintMore Go.Proofs.Ythmbfcfomcaaaaa.Cmp
theorem ent_one {w : World} {g c : Nat} {A : Option Addr} {x : En} (h : w.heap[g]? = some (.cells #[.slice A x.f0.length c,.int .i64 x.f1] 34 (0,0))) (hr : RowC w A c x.f0) : Kd.C k34 w (some ⟨g,0,none⟩) 1 [x] :=
  ⟨rfl,by simp,fun _ => ⟨_,rfl,fun j p hj => by
    cases j with
    | succ j => simp at hj
    | zero =>
      simp only [List.getElem?_cons_zero,Option.some.injEq] at hj
      subst hj
      refine ⟨_,rfl,k34_mk w x hr.cap hr.row,fun i u hi => ?_⟩
      rw [Nat.zero_mul,Nat.zero_add,add_plain]
      have h1 := blk_cell h i
      rw [h1,← hi]
      simp⟩⟩
theorem n_one {w : World} {M : Nat} {ok : Nat → Prop} {v : Value} {x : En} (h : Kd.N k34 34 w M ok v [x]) : ∃ g c,v = .slice (some ⟨g,0,none⟩) 1 c ∧ w.cell? ⟨g,1,none⟩ = some (.int .i64 x.f1) := by
  obtain ⟨g,c,rfl,_⟩ := Kd.N_form h (by simp)
  have hC := (Kd.N_reads' h).2.2
  obtain ⟨ad,A0,c0,e1,h0,h1,_⟩ := ent_get hC (i := 0) (by simp) (x := x) rfl
  injection e1 with e1
  subst e1
  exact ⟨g,c,rfl,by simpa [Addr.add] using h1⟩
theorem rows1_nil (w : World) : Calls Try.prog 51 #[.pointer none] w fun e w' => e = .returned (.slice none 0 0) ∧ w = w' := by
  go_enter Try.func51,Try.ntmps51
  go_wp2
  go_ret
  exact ⟨rfl,rfl⟩
theorem many1_nil (A : Option Addr) (n c : Nat) (w : World) : Calls Try.prog 53 #[.pointer none,.slice A n c] w fun e w' => e = .returned (.int .i64 0) ∧ w = w' := by
  go_enter Try.func53,Try.ntmps53
  go_wp2
  go_ret
  exact ⟨rfl,rfl⟩
theorem apply_nil (A : Option Addr) (n c : Nat) (w : World) : Calls Try.prog 50 #[.pointer none,.slice A n c] w fun e w' => e = .returned (.tuple #[.slice none 0 0,.int .i64 1]) ∧ w = w' := by
  go_enter Try.func50,Try.ntmps50
  go_wp2
  go_ret2
  exact ⟨rfl,rfl⟩
theorem ap1 : appD [⟨[knV 1],2⟩] [] = (0,[⟨[knV 1],1⟩],[⟨[knV 1],2⟩]) := by kernel_rfl
theorem ap2 : appD [⟨[knV 1],-1⟩] [⟨[knV 1],2⟩] = (0,[],[⟨[knV 1],1⟩]) := by kernel_rfl
theorem ap3 : appD [⟨[knV 1],-1⟩] [⟨[knV 1],1⟩] = (0,[⟨[knV 1],-1⟩],[]) := by kernel_rfl
theorem apply_one {N : Nat} {o b g c : Nat} {t : Tr} {D : Nat → Prop} {x : En} {L : List En} {A : Option Addr} {w W : World} {q : Int} {T L' : List En} (h : OnceAt N w o b t D) (hd : docT t = L) (hL : OnceD L) (hNM : N ≤ w.heap.size) (hr : RowC w A c x.f0) (hW : w.alloc (.cells #[.slice A x.f0.length c,.int .i64 x.f1] 34) = W) (hg : w.heap.size = g) (ha : appD [x] L = (q,T,L')) :
    Calls Try.prog 50 #[.pointer (some ⟨o,0,none⟩),.slice (some ⟨g,0,none⟩) 1 1] W fun e w' => ∃ v t' D',e = .returned (.tuple #[v,.int .i64 q]) ∧ docT t' = L' ∧ OnceD L' ∧ OnceAt N w' o b t' D' ∧ BagCh w w' b t t' D D' ∧ Kd.N k34 34 w' w.heap.size (fun k => w.heap.size ≤ k ∧ ¬ BagOwn b t' D' k) v T := by
  have BA : Below w.heap.size w W := hW ▸ below_alloc (Below.refl _ _) _
  have HB : W.heap[g]? = some (.cells #[.slice A x.f0.length c,.int .i64 x.f1] 34 (0,0)) := by rw [← hW,← hg];exact blk_new w _
  have h1 := once_apply (some ⟨g,0,none⟩) 1 1 [x] L W (h.below BA) hd hL (ent_one HB (hr.below BA)) (by omega) (Nat.le_trans hNM BA.size)
  have hl := (app_law (l := [x]) hL).1
  rw [ha] at h1 hl
  refine h1.mono ?_
  rintro e w' ⟨v,t',D',rfl,h2,h3,h4,h5⟩
  exact ⟨v,t',D',rfl,h2,hl,h3,(BagCh.same BA).trans h4,Kd.N_mono (Kd.N_lower h5 BA.size) (fun k hk => ⟨Nat.le_trans BA.size hk.1,hk.2⟩)⟩
set_option maxHeartbeats 4000000 in
set_option maxRecDepth 100000 in
theorem known20_at (w : World) : Calls Try.prog 49 #[] w fun e w' => e = .returned (.bool true) ∧ Below w.heap.size w w' := by
  obtain ⟨N,hN⟩ : ∃ N,w.heap.size = N := ⟨_,rfl⟩
  have I0 := Aside0.mk (NextW.refl w)
  have ON := Aside0.mk (once_new w)
  rw [hN] at I0 ON ⊢
  clear hN
  go_enter Try.func49,Try.ntmps49
  go_wp2_with (fail)
  refine ON.out.mono ?_
  rintro e w1 ⟨o,b,rfl,hA,hb⟩
  have I1 := Aside0.mk (NextW.mk hb (Nat.le_trans hA.o_le (Nat.le_of_lt (blk_lt hA.blk))))
  have HA := Aside0.mk hA
  clear hA hb I0 ON
  go_upto_region 3 with (fail)
  have B2 : Below w1.heap.size w1 (w1.alloc (Obj.cells #[.int .i64 2,.bool false,.int .i64 1,.string ⟨#[]⟩] 66)) := below_alloc (Below.refl w1.heap.size w1) _
  have I2 := Aside0.mk (I1.out.next B2)
  have R2 := Aside0.mk (show Lit (w1.alloc (Obj.cells #[.int .i64 2,.bool false,.int .i64 1,.string ⟨#[]⟩] 66)) (BagOwn b .nil fun _ => False) w1.heap.size (knV 1) from ⟨blk_new w1 _,fun ho => absurd (HA.out.bag.bag.own_lt _ ho) (Nat.lt_irrefl _)⟩)
  have HA2 := Aside0.mk (HA.out.below B2)
  obtain ⟨x1,hx1⟩ : ∃ x1,w1.heap.size = x1 := ⟨_,rfl⟩
  rw [hx1] at R2 ⊢
  clear hx1 I1 HA B2
  generalize w1.alloc (Obj.cells #[.int .i64 2,.bool false,.int .i64 1,.string ⟨#[]⟩] 66) = w2 at *
  go_wp2_with (fail)
  refine (apply_one (x := ⟨[knV 1],2⟩) HA2.out rfl once_nil I2.out.le R2.out.row rfl rfl ap1).mono ?_
  rintro e w3 ⟨v3,t3,D3,rfl,hd,hl,hA,hc,hv⟩
  have D3E := Aside0.mk hd
  have L3 := Aside0.mk hl
  have HA3 := Aside0.mk hA
  have R3 := Aside0.mk (R2.out.step hc.off)
  have I3 := Aside0.mk (I2.out.nextN (hc.ch.toBelow I2.out.le (fun k s => HA2.out.bag.own k (s.elim .inl (fun q => .inr (.inl q))))))
  have V3 := Aside0.mk (Kd.N_mono (Kd.N_lower hv (Nat.zero_le _)) (fun k hk => (⟨Nat.zero_le k,hk.2⟩ : 0 ≤ k ∧ ¬ BagOwn b t3 D3 k)))
  clear hd hl hA hc hv HA2 R2 I2
  go_wp2_with (fail)
  refine (apply_one (x := ⟨[knV 1],-1⟩) HA3.out D3E.out L3.out I3.out.le R3.out.row rfl rfl ap2).mono ?_
  rintro e w4 ⟨v4,t4,D4,rfl,hd,hl,hA,hc,hv⟩
  have D4E := Aside0.mk hd
  have L4 := Aside0.mk hl
  have HA4 := Aside0.mk hA
  have R4 := Aside0.mk (R3.out.step hc.off)
  have I4 := Aside0.mk (I3.out.nextN (hc.ch.toBelow I3.out.le (fun k s => HA3.out.bag.own k (s.elim .inl (fun q => .inr (.inl q))))))
  have V4 := Aside0.mk (N_bagged V3.out hc)
  obtain ⟨A4,c4,rfl⟩ := Kd.N_slice hv
  clear hd hl hA hc hv HA3 R3 I3 V3
  go_wp2_with (fail)
  refine (apply_one (x := ⟨[knV 1],-1⟩) HA4.out D4E.out L4.out I4.out.le R4.out.row rfl rfl ap3).mono ?_
  rintro e w5 ⟨v5,t5,D5,rfl,hd,hl,hA,hc,hv⟩
  have I5 := Aside0.mk (I4.out.nextN (hc.ch.toBelow I4.out.le (fun k s => HA4.out.bag.own k (s.elim .inl (fun q => .inr (.inl q))))))
  obtain ⟨g3,c3,e3,z3⟩ := n_one (N_bagged V4.out hc)
  obtain ⟨g5,c5,e5,z5⟩ := n_one hv
  subst e3 e5
  clear hd hl hA hc hv HA4 R4 I4 V4
  go_wp2_with (fail)
  go_ret
  exact ⟨rfl,I5.out.at_⟩
set_option maxHeartbeats 4000000 in
set_option maxRecDepth 100000 in
theorem pick_nil (A : Option Addr) (n c : Nat) (w : World) : Calls Try.prog 11 #[.slice A n c] w fun e w' => e = .returned (.bool true) ∧ Below w.heap.size w w' := by
  obtain ⟨N,hN⟩ : ∃ N,w.heap.size = N := ⟨_,rfl⟩
  have I0 := Aside0.mk (NextW.refl w)
  rw [hN] at I0 ⊢
  have KE := Aside0.mk (fun W (h : NextW N w W) => (known20_at W).mono (fun e w' (q : e = .returned (.bool true) ∧ Below W.heap.size W w') => show e = .returned (.bool true) ∧ Below N w w' from ⟨q.1,(h.next q.2).at_⟩))
  clear hN
  go_enter Try.func11,Try.ntmps11
  go_wp2_with (fail)
  have B1 := below_alloc (Below.refl w.heap.size w) (Obj.cells #[.slice A n c,.int .i64 1] 34)
  have I1 := Aside0.mk (I0.out.next B1)
  obtain ⟨g,hg⟩ : ∃ g,w.heap.size = g := ⟨_,rfl⟩
  rw [hg]
  generalize w.alloc (Obj.cells #[.slice A n c,.int .i64 1] 34) = w1 at *
  clear B1 hg
  refine (apply_nil _ _ _ w1).mono ?_
  rintro e w' ⟨rfl,rfl⟩
  go_wp2_with (fail)
  refine (rows1_nil w1).mono ?_
  rintro e w' ⟨rfl,rfl⟩
  go_wp2_with (fail)
  refine (many1_nil _ _ _ w1).mono ?_
  rintro e w' ⟨rfl,rfl⟩
  go_wp2_with (fail)
  refine (KE.out _ I1.out).mono ?_
  rintro e w2 ⟨rfl,hb⟩
  go_wp2_with (fail)
  go_ret
  exact ⟨rfl,hb⟩
end Go.Proofs.Ythmbfcfomcaaaaa.Z
end
section
namespace Go.Proofs.Ythmbfcfomcaaaaa.Z
set_option linter.unusedVariables false
open Go.RowKit Go.Proofs.YthmbfcfomcaaaaaW.PrintWords Go.Proofs.YthmbfcfomcaaaaaW.PrintLast Go.Proofs.YthmbfcfomcaaaaaW.PrintMore
def verdererlaw20_PickNil.f (l0 : List (S66)) : Option (Bool) := some true
theorem verdererlaw20_PickNil.calls (A0 : Option Addr) (c0 : Nat) (l0 : List (S66)) (r : Bool) (w : World) (hr0 : Kd.C k66 w A0 l0.length l0) (hc0 : l0.length ≤ c0) (h : verdererlaw20_PickNil.f l0 = some r) :
    Calls Try.prog 11 #[.slice A0 l0.length c0] w fun e w' => e = .returned (.bool r) ∧ Below w.heap.size w w' := by
  obtain rfl := Option.some.inj h
  exact pick_nil A0 l0.length c0 w
end Go.Proofs.Ythmbfcfomcaaaaa.Z
end
section
namespace Go.Proofs.Ythmbfcfomcaaaaa.Z
open Go.RowKit Go.Proofs.YthmbfcfomcaaaaaW.PrintWords Go.Proofs.YthmbfcfomcaaaaaW.PrintLast Go.Proofs.YthmbfcfomcaaaaaW.PrintMore
theorem pickNil_pure : ∀ (l0 : (List S66)),(l0.length ≤ maxLen ∧ ∀ x ∈ l0,G66 x) → verdererlaw20_PickNil.f l0 = some true := by
  intros
  rfl
end Go.Proofs.Ythmbfcfomcaaaaa.Z
end
namespace Go.Proofs.Ythmbfcfomcaaaaa.pickNil
open Go.ChangeShapes Go.WideShapes Go.ChangeAt Go.RowKit Go.Proofs.YthmbfcfomcaaaaaW.PrintWords
open Go.ChangeMaps (open_string shut_string)
set_option linter.unusedVariables false
theorem own : ownKnob Try.prog.godebug = none := by kernel_rfl
theorem laidOut : laidOutB Try.prog = true := by kernel_rfl
set_option maxRecDepth 100000 in
theorem lifted (os : Os) (started : os.Started) (H : Type) (enc : TypeId × Value → H) :
    ReturnsInHanded {} Try.checked os 11 .any (Rows.pickNilSpec.pre6 enc Try.prog Try.f11 Rows.pickNilRow.domain false) (Rows.pickNilSpec.post enc Try.prog Try.f11 false true false false) := by
  refine returnsInHanded_of_change (C := Try.checked) own started (by kernel_rfl) Try.func11
    (ChangeSpec.witness6 (enc := enc) (C := Try.checked) false ⟨#[],#[.slice none 0 0],[]⟩ 8 (by kernel_rfl) (by kernel_rfl) (by kernel_rfl) (by kernel_rfl)) ?_
  intro W base args ds gs before hval0 hW hcnd _
  have hval : ∀ (j : Nat) t v,Try.f11.params[j]? = some t → args[j]? = some v → Value.okWide Try.prog W .any base t v := hval0
  have hW' := hW
  obtain ⟨p,q,hA0,hV,rfl,hfz,hnd⟩ := hW
  have hA : DataW.TrodAll enc Try.prog W 0 (fun _ => true) true Try.f11.params.toList args.toList ds p := hA0
  rw [Try.params11] at hA hval
  obtain ⟨v0,vs0,d0,ds0,p0,q0,hargs,rfl,rfl,h0,r0⟩ := trodAll_cons hA
  obtain ⟨rfl,rfl,rfl⟩ := trodAll_nil r0
  obtain rfl : args = #[v0] := by cases args;simp_all
  obtain ⟨rfl,rfl⟩ := trodVars_none hV
  obtain ⟨a0,len0,cap0,rfl⟩ := okWide_slice Try.underlying23 (hval 0 23 v0 rfl rfl)
  have k0 := h0
  have lt0 : ∀ x ∈ p0,x.block < W.heap.size := by obtain ⟨m,hm⟩ := k0;exact DataW.trod_lt m _ _ _ hm
  obtain ⟨l0,hK0,hG0⟩ : ∃ l,((Kd.slice 66 Z.k66) : Kd (List Z.S66)).K W l [.slice a0 len0 cap0] ∧ (l.length ≤ maxLen ∧ ∀ x ∈ l,Z.G66 x) := by obtain ⟨fuel,hf⟩ := h0;exact (show OfTrod Try.prog 23 (Kd.slice 66 Z.k66) _ from (ofTrod_slice Try.underlying23 (by kernel_rfl) Z.of66)) _ _ _ _ _ _ _ _ _ hf
  obtain ⟨A0,c0,he0,hl0,hC0⟩ := hK0
  simp only [List.cons.injEq,Value.slice.injEq,and_true] at he0
  obtain ⟨rfl,rfl,rfl⟩ := he0
  clear hA0 hval0
  have h := Z.pickNil_pure l0 hG0
  refine (Z.verdererlaw20_PickNil.calls _ _ l0 true W hC0 hl0 h).mono fun e W' ⟨he,bel⟩ => ?_
  subst he
  exact ⟨_,rfl,_,_,_,[],_,[],hW',trodAll_mk1 (shut_bool Try.underlying4 _),(trodAll_cons_mk (Below.trod laidOut (by kernel_rfl) (of_decide_eq_true (by kernel_rfl)) k0 bel lt0) trodAll_mk0),rfl,bel.frame _,fun h => by cases h⟩
theorem over : Rows.pickNilRow.holds Try.pinned (OpenSpec.ofChange Rows.pickNilSpec) :=
  OpenClaim.holds_of_wide 11 Try.f11 rfl rfl rfl rfl rfl rfl rfl ⟨rfl,rfl,rfl,rfl,rfl⟩ rfl rfl rfl rfl rfl (by kernel_rfl) Try.func11 (by kernel_rfl)
    (of_decide_eq_true (by kernel_rfl)) (by unfold Func.isWrapper;first | (rw [if_pos (by decide +kernel)];kernel_rfl) | (rw [if_neg (by decide +kernel)];exact ⟨rfl,rfl⟩))
    (fun os started H enc _ => lifted os started H enc)
theorem proved : Rows.PickNilSaid := over
#print axioms proved
end Go.Proofs.Ythmbfcfomcaaaaa.pickNil
namespace Go.Proofs.Ythmbfcfomcaaaaa
theorem pickNil_holds : Rows.PickNilSaid := pickNil.proved
end Go.Proofs.Ythmbfcfomcaaaaa
