/-
  verdererlaw02.RowParts: for every input the law returns true, and each argument reads behind the call as it read before. No condition.
-/
import Derived.Test.YtfoaeigoajooeaaMRowPartsa
import Derived.Test.YtfoaeigoajooeaaMRowPartsb
import Derived.Test.YtfoaeigoajooeaaMRowPartsd
import Derived.Test.YtfoaeigoajooeaaMRowPartse
import Derived.Test.YtfoaeigoajooeaaRows
import Derived.WalkKit
import Derived.ProofKit
import Derived.OpenShut
import Derived.ShutString
import Derived.ChangeOld
import Derived.Below
/- Values and rows in their order: what value.Compare and row.Compare answer. -/
namespace Go.Proofs.Ytfoaeigoajooeaa.Z
open Go.RowKit Go.Proofs.YtfoaeigoajooeaaW.PrintWords Go.Proofs.YtfoaeigoajooeaaW.PrintLast Go.Proofs.YtfoaeigoajooeaaW.PrintMore Go.Proofs.Ytfoaeigoajooeaa.Cmp
theorem wrap_id {x : Int} (h0 : -9223372036854775808 ≤ x) (h1 : x ≤ 9223372036854775807) : wrap64 x = x := by unfold wrap64;omega
theorem wrap_succ {n : Nat} {m : Nat} (h : n < m) (hm : m ≤ 9223372036854775807) : wrap64 ((n : Int) + 1) = ((n + 1 : Nat) : Int) := by rw [wrap_id (by omega) (by omega)];omega
def b2i (b : Bool) : Int := if b then 1 else 0
def kcmp (a b : S50) : Int := if a.f0 = 1 then cmpI (b2i a.f1) (b2i b.f1) else if a.f0 = 2 then cmpI a.f2 b.f2 else if a.f0 = 3 then cmpB a.f3.data.toList b.f3.data.toList else 0
def vcmp (a b : S50) : Int := if a.f0 = b.f0 then kcmp a b else cmpI a.f0 b.f0
theorem vcmp_law : CmpLaw vcmp := by
  have anti : ∀ a b,vcmp b a = - vcmp a b := by
    intro a b
    unfold vcmp
    by_cases h : a.f0 = b.f0
    · rw [if_pos h,if_pos h.symm]
      unfold kcmp
      rw [← h]
      by_cases h1 : a.f0 = 1
      · rw [if_pos h1,if_pos h1];exact cmpI_law.anti _ _
      · by_cases h2 : a.f0 = 2
        · rw [if_neg h1,if_neg h1,if_pos h2,if_pos h2];exact cmpI_law.anti _ _
        · by_cases h3 : a.f0 = 3
          · rw [if_neg h1,if_neg h1,if_neg h2,if_neg h2,if_pos h3,if_pos h3];exact cmpB_law.anti _ _
          · rw [if_neg h1,if_neg h1,if_neg h2,if_neg h2,if_neg h3,if_neg h3];rfl
    · rw [if_neg h,if_neg (fun e => h e.symm)];exact cmpI_law.anti _ _
  refine ⟨fun a b => ?_,anti,fun a b d h1 h2 => ?_⟩
  · unfold vcmp kcmp
    repeat' split
    all_goals first | exact cmpI_law.lo _ _ | exact cmpB_law.lo _ _ | omega
  · unfold vcmp at *
    by_cases hab : a.f0 = b.f0
    · rw [if_pos hab] at h1
      by_cases hbd : b.f0 = d.f0
      · rw [if_pos hbd] at h2
        rw [if_pos (hab.trans hbd)]
        unfold kcmp at *
        rw [← hab] at h2
        by_cases k1 : a.f0 = 1
        · rw [if_pos k1] at h1 h2 ⊢;exact cmpI_law.le _ _ _ h1 h2
        · by_cases k2 : a.f0 = 2
          · rw [if_neg k1,if_pos k2] at h1 h2 ⊢;exact cmpI_law.le _ _ _ h1 h2
          · by_cases k3 : a.f0 = 3
            · rw [if_neg k1,if_neg k2,if_pos k3] at h1 h2 ⊢;exact cmpB_law.le _ _ _ h1 h2
            · rw [if_neg k1,if_neg k2,if_neg k3];omega
      · rw [if_neg hbd] at h2
        rw [if_neg (fun e => hbd (hab.symm.trans e)),hab]
        exact h2
    · rw [if_neg hab] at h1
      by_cases hbd : b.f0 = d.f0
      · rw [if_neg (fun e => hab (e.trans hbd.symm)),← hbd]
        exact h1
      · rw [if_neg hbd] at h2
        have n1 : cmpI a.f0 b.f0 ≠ 0 := fun e => hab (cmpI_eq.1 e)
        have h3 := cmpI_law.lt_le (show cmpI a.f0 b.f0 < 0 by omega) h2
        rw [if_neg (fun e => by have := cmpI_eq.2 e;omega)]
        omega
def rcmp (a b : List S50) : Int := lexC vcmp a b
theorem rcmp_law : CmpLaw rcmp := lexC_law vcmp_law
theorem isNaN_f (x : Int) : cmp_isNaN_70.f x = some false := by unfold cmp_isNaN_70.f;simp
theorem isNaN_g (x : Int) : cmp_isNaN_71.f x = some false := by unfold cmp_isNaN_71.f;simp
theorem cmp_f (a b : Int) : cmp_Compare_63.f a b = some (cmpI a b) := by
  unfold cmp_Compare_63.f cmpI
  rw [isNaN_f,isNaN_f]
  simp only [Option.bind_some,Bool.false_eq_true,if_false,gt_iff_lt]
  repeat' split
  all_goals first | rfl | omega
theorem cmp_g (a b : Int) : cmp_Compare_65.f a b = some (cmpI a b) := by
  unfold cmp_Compare_65.f cmpI
  rw [isNaN_g,isNaN_g]
  simp only [Option.bind_some,Bool.false_eq_true,if_false,gt_iff_lt]
  repeat' split
  all_goals first | rfl | omega
theorem truth_f (b : Bool) : value_truth.f b = some (b2i b) := by cases b <;> rfl
theorem vcmp_f (a b : S50) : value_Compare.f a.f0 a.f1 a.f2 a.f3 b.f0 b.f1 b.f2 b.f3 = some (vcmp a b) := by
  unfold value_Compare.f vcmp kcmp
  rw [truth_f,truth_f,cmp_g]
  simp only [Option.bind_some,cmp_f,strings_Compare.f,compareBytes_eq]
  repeat' split
  all_goals rfl
theorem rd_nat (xs : List S50) (i : Nat) : rd_T50 xs (i : Int) = xs.getD i z50 := rfl
theorem rd_get {xs : List S50} {i : Nat} (h : i < xs.length) : rd_T50 xs (i : Int) = xs[i] := by rw [rd_nat];simp [List.getD,List.getElem?_eq_getElem h]
theorem drop_rd {xs : List S50} {i : Nat} (h : i < xs.length) : xs.drop i = rd_T50 xs (i : Int) :: xs.drop (i + 1) := by rw [rd_get h];exact List.drop_eq_getElem_cons h
theorem compareFunc_l0 (x0 x1 : List S50) (hl : x0.length ≤ 9223372036854775807) : ∀ d i k,x0.length - i = d → i ≤ x0.length → i ≤ x1.length → d < k → slices_CompareFunc.l0 k x0 x1 x0 (x0.length : Int) (i : Int) = some (rcmp (x0.drop i) (x1.drop i)) := by
  intro d
  induction d with
  | zero =>
    intro i k hd hi hi1 hk
    obtain ⟨k,rfl⟩ : ∃ m,k = m + 1 := ⟨k - 1,by omega⟩
    simp only [slices_CompareFunc.l0]
    rw [if_neg (by omega)]
    have e0 : x0.drop i = [] := List.drop_eq_nil_of_le (by omega)
    rw [e0]
    by_cases h : i < x1.length
    · rw [if_pos (by omega),drop_rd h];rfl
    · rw [if_neg (by omega),List.drop_eq_nil_of_le (by omega)];rfl
  | succ d ih =>
    intro i k hd hi hi1 hk
    obtain ⟨k,rfl⟩ : ∃ m,k = m + 1 := ⟨k - 1,by omega⟩
    have hlt : i < x0.length := by omega
    simp only [slices_CompareFunc.l0]
    rw [if_pos (by omega),if_pos (by omega),if_pos (by omega),drop_rd hlt]
    by_cases h : i < x1.length
    · rw [if_neg (by omega),if_pos (by omega),vcmp_f,Option.bind_some,drop_rd h]
      by_cases h0 : vcmp (rd_T50 x0 i) (rd_T50 x1 i) = 0
      · rw [if_pos h0,wrap_succ hlt hl,ih (i + 1) k (by omega) (by omega) (by omega) (by omega)]
        simp [rcmp,lexC,h0]
      · rw [if_neg h0]
        simp [rcmp,lexC,h0]
    · rw [if_pos (by omega),List.drop_eq_nil_of_le (show x1.length ≤ i by omega)]
      rfl
theorem rowCompare_f (a b : List S50) (ha : a.length ≤ 9223372036854775807) (k : Nat) (hk : a.length < k) : row_Compare.f k a b = some (rcmp a b) := by
  unfold row_Compare.f slices_CompareFunc.f
  have h := compareFunc_l0 a b ha a.length 0 k (by omega) (by omega) (by omega) hk
  rw [show ((0 : Nat) : Int) = 0 from rfl] at h
  rw [h]
  rfl
end Go.Proofs.Ytfoaeigoajooeaa.Z
/- The document's order of values and rows is the same;rows that are one,cell by cell. -/
namespace Go.Proofs.Ytfoaeigoajooeaa.Z
open Go.RowKit Go.Proofs.YtfoaeigoajooeaaW.PrintWords Go.Proofs.YtfoaeigoajooeaaW.PrintLast Go.Proofs.YtfoaeigoajooeaaW.PrintMore Go.Proofs.Ytfoaeigoajooeaa.Cmp
theorem bt_get {s : ByteArray} {i : Nat} (h : i < s.size) : bt s (i : Int) = ((s.data.toList[i]'(by simpa using h)).toNat : Int) := by
  rw [← bt_at s (i : Int) (by simpa using h)]
  rfl
theorem bytes_drop {s : ByteArray} {i : Nat} (h : i < s.size) : s.data.toList.drop i = s.data.toList[i]'(by simpa using h) :: s.data.toList.drop (i + 1) := List.drop_eq_getElem_cons (by simpa using h)
theorem text_l0 (a b : ByteArray) (ha : a.size ≤ 9223372036854775807) : ∀ d i k,a.size - i = d → i ≤ a.size → i ≤ b.size → 2 * d + 1 < k → verdererref01_Text.l0 k a b (i : Int) = some (cmpB (a.data.toList.drop i) (b.data.toList.drop i)) := by
  intro d
  induction d with
  | zero =>
    intro i k hd hi hib hk
    obtain ⟨k,rfl⟩ : ∃ m,k = m + 2 := ⟨k - 2,by omega⟩
    have e0 : a.data.toList.drop i = [] := List.drop_eq_nil_of_le (by simp;omega)
    simp only [verdererref01_Text.l0]
    rw [if_neg (by omega),e0]
    simp only [verdererref01_Text.j1,Bool.false_eq_true,if_false]
    by_cases h : i < b.size
    · rw [if_pos (by omega),bytes_drop h];rfl
    · rw [if_neg (by omega),if_neg (by omega),List.drop_eq_nil_of_le (by simp;omega)];rfl
  | succ d ih =>
    intro i k hd hi hib hk
    obtain ⟨k,rfl⟩ : ∃ m,k = m + 2 := ⟨k - 2,by omega⟩
    have hlt : i < a.size := by omega
    simp only [verdererref01_Text.l0]
    rw [if_pos (by omega)]
    simp only [verdererref01_Text.j1]
    by_cases h : i < b.size
    · rw [if_pos (decide_eq_true (by omega)),if_pos (by omega),if_pos (by omega),if_pos (by omega),bt_get hlt,bt_get h,bytes_drop hlt,bytes_drop h]
      generalize a.data.toList[i]'(by simpa using hlt) = x
      generalize b.data.toList[i]'(by simpa using h) = y
      have e : cmpB (x :: a.data.toList.drop (i + 1)) (y :: b.data.toList.drop (i + 1)) = if cmpI x.toNat y.toNat = 0 then cmpB (a.data.toList.drop (i + 1)) (b.data.toList.drop (i + 1)) else cmpI x.toNat y.toNat := rfl
      rw [e,wrap_succ hlt ha,ih (i + 1) k (by omega) (by omega) (by omega) (by omega)]
      unfold cmpI
      by_cases h1 : (x.toNat : Int) < y.toNat
      · rw [if_pos h1,if_pos h1,if_neg (by omega)]
      · by_cases h2 : (y.toNat : Int) < x.toNat
        · rw [if_neg h1,if_neg h1,if_pos h2,if_pos h2,if_neg (by omega)]
        · rw [if_neg h1,if_neg h1,if_neg h2,if_neg h2,if_pos rfl]
    · rw [if_neg (by simp;omega),if_neg (by omega),if_pos (by omega),bytes_drop hlt,List.drop_eq_nil_of_le (show b.data.toList.length ≤ i by simp;omega)]
      rfl
theorem text_f (a b : ByteArray) (ha : a.size ≤ 9223372036854775807) (k : Nat) (hk : 2 * a.size + 1 < k) : verdererref01_Text.f k a b = some (cmpB a.data.toList b.data.toList) := by
  have h := text_l0 a b ha a.size 0 k (by omega) (by omega) (by omega) hk
  rw [show ((0 : Nat) : Int) = 0 from rfl] at h
  exact h
theorem vcmp_ref (a b : S50) (ha : a.f3.size ≤ 9223372036854775807) (k : Nat) (hk : 2 * a.f3.size + 1 < k) : verdererref01_Compare.f k a.f0 a.f1 a.f2 a.f3 b.f0 b.f1 b.f2 b.f3 = some (vcmp a b) := by
  unfold verdererref01_Compare.f vcmp
  rw [text_f _ _ ha k hk]
  simp only [Option.bind_some]
  by_cases h1 : a.f0 < b.f0
  · rw [if_pos h1,if_neg (by omega)]
    unfold cmpI
    rw [if_pos h1]
  · by_cases h2 : a.f0 > b.f0
    · rw [if_neg h1,if_pos h2,if_neg (by omega)]
      unfold cmpI
      rw [if_neg h1,if_pos h2]
    · have e : (if a.f0 = b.f0 then kcmp a b else cmpI a.f0 b.f0) = kcmp a b := if_pos (by omega)
      rw [if_neg h1,if_neg h2,e]
      unfold kcmp
      by_cases k1 : a.f0 = 1
      · rw [if_pos k1,if_pos k1]
        cases a.f1 <;> cases b.f1 <;> rfl
      · by_cases k2 : a.f0 = 2
        · rw [if_neg k1,if_pos k2,if_neg k1,if_pos k2]
          unfold cmpI
          repeat' split
          all_goals first | rfl | omega
        · by_cases k3 : a.f0 = 3
          · rw [if_neg k1,if_neg k2,if_pos k3,if_neg k1,if_neg k2,if_pos k3]
          · rw [if_neg k1,if_neg k2,if_neg k3,if_neg k1,if_neg k2,if_neg k3]
theorem refCompare_l0 (x0 x1 : List S50) (hl : x0.length ≤ 9223372036854775807) (M : Nat) (hM : ∀ x ∈ x0,x.f3.size ≤ M) (hM2 : M ≤ 9223372036854775807) : ∀ d i k,x0.length - i = d → i ≤ x0.length → i ≤ x1.length → 2 * d + 2 * M + 3 < k → verdererref02_Compare.l0 k x0 x1 (i : Int) = some (rcmp (x0.drop i) (x1.drop i)) := by
  intro d
  induction d with
  | zero =>
    intro i k hd hi hib hk
    obtain ⟨k,rfl⟩ : ∃ m,k = m + 2 := ⟨k - 2,by omega⟩
    simp only [verdererref02_Compare.l0]
    rw [if_neg (by omega),List.drop_eq_nil_of_le (show x0.length ≤ i by omega)]
    simp only [verdererref02_Compare.j1,Bool.false_eq_true,if_false]
    by_cases h : i < x1.length
    · rw [if_pos (by omega),drop_rd h];rfl
    · rw [if_neg (by omega),if_neg (by omega),List.drop_eq_nil_of_le (by omega)];rfl
  | succ d ih =>
    intro i k hd hi hib hk
    obtain ⟨k,rfl⟩ : ∃ m,k = m + 2 := ⟨k - 2,by omega⟩
    have hlt : i < x0.length := by omega
    simp only [verdererref02_Compare.l0]
    rw [if_pos (by omega)]
    simp only [verdererref02_Compare.j1]
    have hx : (rd_T50 x0 (i : Int)).f3.size ≤ M := by rw [rd_get hlt];exact hM _ (List.getElem_mem hlt)
    by_cases h : i < x1.length
    · rw [if_pos (decide_eq_true (by omega)),if_pos (by omega),if_pos (by omega),if_pos (by omega),vcmp_ref _ _ (by omega) k (by omega),Option.bind_some,drop_rd hlt,drop_rd h]
      by_cases h0 : vcmp (rd_T50 x0 i) (rd_T50 x1 i) = 0
      · rw [if_pos h0,wrap_succ hlt hl,ih (i + 1) k (by omega) (by omega) (by omega) (by omega)]
        simp [rcmp,lexC,h0]
      · rw [if_neg h0]
        simp [rcmp,lexC,h0]
    · rw [if_neg (by simp;omega),if_neg (by omega),if_pos (by omega),drop_rd hlt,List.drop_eq_nil_of_le (show x1.length ≤ i by omega)]
      rfl
theorem refCompare_f (a b : List S50) (ha : a.length ≤ 9223372036854775807) (M : Nat) (hM : ∀ x ∈ a,x.f3.size ≤ M) (hM2 : M ≤ 9223372036854775807) (k : Nat) (hk : 2 * a.length + 2 * M + 3 < k) : verdererref02_Compare.f k a b = some (rcmp a b) := by
  have h := refCompare_l0 a b ha M hM hM2 a.length 0 k (by omega) (by omega) (by omega) hk
  rw [show ((0 : Nat) : Int) = 0 from rfl] at h
  exact h
/-- A bound of all texts of some values. -/
theorem texts_bound (l : List S50) (h : ∀ x ∈ l,x.f3.size ≤ 9223372036854775807) : ∃ M,(∀ x ∈ l,x.f3.size ≤ M) ∧ M ≤ 9223372036854775807 := ⟨9223372036854775807,h,Nat.le_refl _⟩
theorem equal_l0 (x : List S50) (hl : x.length ≤ 9223372036854775807) : ∀ d i k,x.length - i = d → i ≤ x.length → d < k → verdererref02_Equal.l0 k x x (i : Int) = some true := by
  intro d
  induction d with
  | zero =>
    intro i k hd hi hk
    obtain ⟨k,rfl⟩ : ∃ m,k = m + 1 := ⟨k - 1,by omega⟩
    simp only [verdererref02_Equal.l0]
    rw [if_neg (by omega)]
  | succ d ih =>
    intro i k hd hi hk
    obtain ⟨k,rfl⟩ : ∃ m,k = m + 1 := ⟨k - 1,by omega⟩
    simp only [verdererref02_Equal.l0]
    rw [if_pos (by omega),if_pos (by omega),if_pos (by omega),if_neg (by simp),wrap_succ (show i < x.length by omega) hl,ih (i + 1) k (by omega) (by omega) (by omega)]
theorem equal_self (x : List S50) (hl : x.length ≤ 9223372036854775807) (k : Nat) (hk : x.length < k) : verdererref02_Equal.f k x x = some true := by
  unfold verdererref02_Equal.f
  rw [if_pos rfl]
  have h := equal_l0 x hl x.length 0 k (by omega) (by omega) hk
  rw [show ((0 : Nat) : Int) = 0 from rfl] at h
  exact h
end Go.Proofs.Ytfoaeigoajooeaa.Z
/- Cells of rows,copies,and whether rows can be. -/
namespace Go.Proofs.Ytfoaeigoajooeaa.Z
open Go.RowKit Go.Proofs.YtfoaeigoajooeaaW.PrintWords Go.Proofs.YtfoaeigoajooeaaW.PrintLast Go.Proofs.YtfoaeigoajooeaaW.PrintMore Go.Proofs.Ytfoaeigoajooeaa.Cmp
theorem of_f (x : List S50) (hx : x.length < 3518437208883) : row_Of.f x = some x := by
  unfold row_Of.f slices_Clone.f
  simp only [Option.bind_some,List.length_nil,Nat.zero_add,List.nil_append]
  rw [if_pos hx]
  rfl
/-- Can a value be? -/
def vright (a : S50) : Bool := if a.f0 = 0 then !a.f1 && (a.f2 == 0 && a.f3.toList == ([] : List UInt8)) else if a.f0 = 1 then (a.f2 == 0 && a.f3.toList == ([] : List UInt8)) else if a.f0 = 2 then (!a.f1 && a.f3.toList == ([] : List UInt8)) else if a.f0 = 3 then (!a.f1 && (a.f2 == 0 && decide (a.f3.size ≤ 60))) else false
theorem vright_f (a : S50) : value_Right.f a.f0 a.f1 a.f2 a.f3 = some (vright a) := by
  unfold value_Right.f vright
  simp only [value_Null.f,value_Bool.f,value_Int.f,value_Text.f,Option.bind_some]
  by_cases k0 : a.f0 = 0
  · rw [if_pos k0,if_pos k0,k0];cases a.f1 <;> simp
  · by_cases k1 : a.f0 = 1
    · rw [if_neg k0,if_neg k0,if_pos k1,if_pos k1,k1];cases a.f1 <;> simp
    · by_cases k2 : a.f0 = 2
      · rw [if_neg k0,if_neg k0,if_neg k1,if_neg k1,if_pos k2,if_pos k2,k2];cases a.f1 <;> simp
      · by_cases k3 : a.f0 = 3
        · rw [if_neg k0,if_neg k0,if_neg k1,if_neg k1,if_neg k2,if_neg k2,if_pos k3,if_pos k3,k3]
          cases a.f1 <;> simp
          · by_cases h : a.f2 = 0
            · rw [if_pos h]
              simp [h]
              omega
            · rw [if_neg h]
              simp [h]
        · rw [if_neg k0,if_neg k0,if_neg k1,if_neg k1,if_neg k2,if_neg k2,if_neg k3,if_neg k3]
theorem vright_ref (a : S50) : verdererref01_Right.f a.f0 a.f1 a.f2 a.f3 = some (vright a) := by
  have he : a.f3.toList = [] → a.f3.size = 0 := fun h => by have := data_length a.f3;rw [show a.f3.data.toList = a.f3.toList from by rw [ByteArray.toList_eq]] at this;rw [← this,h];rfl
  unfold verdererref01_Right.f vright
  by_cases kl : a.f0 < 0
  · rw [if_pos kl,if_neg (by omega),if_neg (by omega),if_neg (by omega),if_neg (by omega)]
  · by_cases kg : a.f0 > 3
    · rw [if_neg kl,if_pos kg,if_neg (by omega),if_neg (by omega),if_neg (by omega),if_neg (by omega)]
    · rw [if_neg kl,if_neg kg]
      by_cases ht : a.f3.toList = []
      · have hs := he ht
        by_cases k1 : a.f0 = 1
        · rw [if_pos k1,if_neg (show ¬ a.f0 = 2 by omega),if_neg (show ¬ a.f0 = 3 by omega),if_neg (show ¬ a.f0 = 0 by omega),if_pos k1]
          by_cases h2 : a.f2 = 0 <;> simp [h2,ht,hs]
        · by_cases k2 : a.f0 = 2
          · rw [if_neg k1,if_pos k2,if_neg (show ¬ a.f0 = 3 by omega),if_neg (show ¬ a.f0 = 0 by omega),if_neg k1,if_pos k2]
            cases a.f1 <;> simp [ht,hs]
          · rw [if_neg k1,if_neg k2]
            by_cases k3 : a.f0 = 3
            · rw [if_neg (show ¬ a.f0 = 0 by omega),if_neg k1,if_neg k2,if_pos k3,if_pos k3]
              cases a.f1 <;> by_cases h2 : a.f2 = 0 <;> simp [h2,hs]
            · rw [if_pos (show a.f0 = 0 by omega),if_neg k3]
              cases a.f1 <;> by_cases h2 : a.f2 = 0 <;> simp [h2,ht,hs]
      · by_cases k1 : a.f0 = 1
        · rw [if_pos k1,if_neg (show ¬ a.f0 = 2 by omega),if_neg (show ¬ a.f0 = 3 by omega),if_neg (show ¬ a.f0 = 0 by omega),if_pos k1]
          by_cases h2 : a.f2 = 0 <;> simp [h2,ht]
        · by_cases k2 : a.f0 = 2
          · rw [if_neg k1,if_pos k2,if_neg (show ¬ a.f0 = 3 by omega),if_neg (show ¬ a.f0 = 0 by omega),if_neg k1,if_pos k2]
            cases a.f1 <;> simp [ht]
          · rw [if_neg k1,if_neg k2]
            by_cases k3 : a.f0 = 3
            · rw [if_neg (show ¬ a.f0 = 0 by omega),if_neg k1,if_neg k2,if_pos k3,if_pos k3]
              cases a.f1 <;> by_cases h2 : a.f2 = 0 <;> simp [h2]
              omega
            · rw [if_pos (show a.f0 = 0 by omega),if_neg k3]
              cases a.f1 <;> by_cases h2 : a.f2 = 0 <;> simp [h2,ht]
theorem right1_f (a : S50) : row_Right_1.f a.f0 a.f1 a.f2 a.f3 = some (!vright a) := by
  unfold row_Right_1.f
  rw [vright_f]
  rfl
def rright (r : List S50) : Bool := decide (r.length ≤ 40) && r.all vright
theorem indexFunc_l0 (x : List S50) (hl : x.length ≤ 9223372036854775807) : ∀ d i k,x.length - i = d → i ≤ x.length → d < k → ∃ r,slices_IndexFunc.l0 k x (x.length : Int) (i : Int) = some r ∧ decide (r ≥ 0) = !((x.drop i).all vright) := by
  intro d
  induction d with
  | zero =>
    intro i k hd hi hk
    obtain ⟨k,rfl⟩ : ∃ m,k = m + 1 := ⟨k - 1,by omega⟩
    refine ⟨-1,?_,?_⟩
    · simp only [slices_IndexFunc.l0]
      rw [if_neg (by omega)]
    · rw [List.drop_eq_nil_of_le (by omega)];rfl
  | succ d ih =>
    intro i k hd hi hk
    obtain ⟨k,rfl⟩ : ∃ m,k = m + 1 := ⟨k - 1,by omega⟩
    have hlt : i < x.length := by omega
    simp only [slices_IndexFunc.l0]
    rw [if_pos (by omega),if_pos (by omega),if_pos (by omega),right1_f,Option.bind_some,drop_rd hlt,List.all_cons]
    cases hv : vright (rd_T50 x i) with
    | false =>
      refine ⟨(i : Int),?_,?_⟩
      · rfl
      · simp
    | true =>
      simp only [Bool.not_true,Bool.false_eq_true,if_false,Bool.true_and]
      rw [wrap_succ hlt hl]
      exact ih (i + 1) k (by omega) (by omega) (by omega)
theorem rright_f (r : List S50) (k : Nat) (hk : 40 < k) : row_Right.f k r = some (rright r) := by
  unfold row_Right.f rright slices_ContainsFunc.f slices_IndexFunc.f
  by_cases h : r.length ≤ 40
  · obtain ⟨q,h1,h2⟩ := indexFunc_l0 r (by omega) r.length 0 k (by omega) (by omega) (by omega)
    rw [show ((0 : Nat) : Int) = 0 from rfl] at h1
    rw [if_pos (by omega),h1]
    simp only [Option.bind_some,h2]
    simp [h]
  · rw [if_neg (by omega)]
    simp [h]
theorem refRight_l0 (x : List S50) (hl : x.length ≤ 9223372036854775807) : ∀ d i k,x.length - i = d → i ≤ x.length → d < k → verdererref02_Right.l0 k x (i : Int) = some ((x.drop i).all vright) := by
  intro d
  induction d with
  | zero =>
    intro i k hd hi hk
    obtain ⟨k,rfl⟩ : ∃ m,k = m + 1 := ⟨k - 1,by omega⟩
    simp only [verdererref02_Right.l0]
    rw [if_neg (by omega),List.drop_eq_nil_of_le (by omega)]
    rfl
  | succ d ih =>
    intro i k hd hi hk
    obtain ⟨k,rfl⟩ : ∃ m,k = m + 1 := ⟨k - 1,by omega⟩
    have hlt : i < x.length := by omega
    simp only [verdererref02_Right.l0]
    rw [if_pos (by omega),if_pos (by omega),vright_ref,Option.bind_some,drop_rd hlt,List.all_cons]
    cases vright (rd_T50 x i) with
    | false => rfl
    | true =>
      simp only [if_true,Bool.true_and]
      rw [wrap_succ hlt hl]
      exact ih (i + 1) k (by omega) (by omega) (by omega)
theorem rright_ref (r : List S50) (k : Nat) (hk : 40 < k) : verdererref02_Right.f k r = some (rright r) := by
  unfold verdererref02_Right.f rright
  by_cases h : r.length ≤ 40
  · have h1 := refRight_l0 r (by omega) r.length 0 k (by omega) (by omega) (by omega)
    rw [show ((0 : Nat) : Int) = 0 from rfl] at h1
    rw [if_neg (by omega),h1]
    simp [h]
  · rw [if_pos (by omega)]
    simp [h]
end Go.Proofs.Ytfoaeigoajooeaa.Z
/- Some cells of rows,rows one behind the other,pairs of cells. -/
namespace Go.Proofs.Ytfoaeigoajooeaa.Z
open Go.RowKit Go.Proofs.YtfoaeigoajooeaaW.PrintWords Go.Proofs.YtfoaeigoajooeaaW.PrintLast Go.Proofs.YtfoaeigoajooeaaW.PrintMore Go.Proofs.Ytfoaeigoajooeaa.Cmp
theorem rdI_get {xs : List Int} {i : Nat} (h : i < xs.length) : rd xs (i : Int) = xs[i] := by unfold rd;simp [List.getD,List.getElem?_eq_getElem h]
theorem dropI_rd {xs : List Int} {i : Nat} (h : i < xs.length) : xs.drop i = rd xs (i : Int) :: xs.drop (i + 1) := by rw [rdI_get h];exact List.drop_eq_getElem_cons h
theorem rdP_get {xs : List S39} {i : Nat} (h : i < xs.length) : rd_T39 xs (i : Int) = xs[i] := by unfold rd_T39;simp [List.getD,List.getElem?_eq_getElem h]
theorem dropP_rd {xs : List S39} {i : Nat} (h : i < xs.length) : xs.drop i = rd_T39 xs (i : Int) :: xs.drop (i + 1) := by rw [rdP_get h];exact List.drop_eq_getElem_cons h
/-- Some cells of a row,behind others. -/
def pickF (r : List S50) : List Int → List S50 → List S50 × Int
  | [],acc => (acc,0)
  | c :: cs,acc => if c < 0 ∨ c ≥ (r.length : Int) then ([],2) else pickF r cs (acc ++ [rd_T50 r c])
theorem pick_l0 (r : List S50) (cols : List Int) (hl : cols.length ≤ 1000000000) : ∀ d i k acc,cols.length - i = d → i ≤ cols.length → acc.length ≤ i → d < k → row_Pick.l0 k r acc cols (cols.length : Int) (i : Int) = some (pickF r (cols.drop i) acc) := by
  intro d
  induction d with
  | zero =>
    intro i k acc hd hi ha hk
    obtain ⟨k,rfl⟩ : ∃ m,k = m + 1 := ⟨k - 1,by omega⟩
    simp only [row_Pick.l0]
    rw [if_neg (by omega),List.drop_eq_nil_of_le (by omega)]
    rfl
  | succ d ih =>
    intro i k acc hd hi ha hk
    obtain ⟨k,rfl⟩ : ∃ m,k = m + 1 := ⟨k - 1,by omega⟩
    have hlt : i < cols.length := by omega
    simp only [row_Pick.l0]
    rw [if_pos (by omega),if_pos (by omega),if_pos (by omega),dropI_rd hlt]
    simp only [pickF]
    by_cases h1 : rd cols (i : Int) < 0
    · rw [if_pos h1,if_pos (.inl h1)]
    · by_cases h2 : rd cols (i : Int) ≥ (r.length : Int)
      · rw [if_neg h1,if_pos h2,if_pos (.inr h2)]
      · rw [if_neg h1,if_neg h2,if_pos (by omega),if_pos (by omega),if_pos (by omega),if_neg (by omega),wrap_succ hlt (by omega)]
        exact ih (i + 1) k _ (by omega) (by omega) (by simp;omega) (by omega)
theorem pick_f (r : List S50) (cols : List Int) (hl : cols.length ≤ 1000000000) (k : Nat) (hk : cols.length < k) : row_Pick.f k r cols = some (pickF r cols []) := by
  unfold row_Pick.f
  have h := pick_l0 r cols hl cols.length 0 k [] (by omega) (by omega) (by simp) hk
  rw [show ((0 : Nat) : Int) = 0 from rfl] at h
  rw [if_pos (by omega),if_pos (by omega),h]
  rfl
theorem pickR_l0 (r : List S50) (cols : List Int) (hl : cols.length ≤ 1000000000) : ∀ d i k acc,cols.length - i = d → i ≤ cols.length → acc.length ≤ i → d < k → verdererref02_Pick.l0 k r cols acc (i : Int) = some (pickF r (cols.drop i) acc) := by
  intro d
  induction d with
  | zero =>
    intro i k acc hd hi ha hk
    obtain ⟨k,rfl⟩ : ∃ m,k = m + 1 := ⟨k - 1,by omega⟩
    simp only [verdererref02_Pick.l0]
    rw [if_neg (by omega),List.drop_eq_nil_of_le (by omega)]
    rfl
  | succ d ih =>
    intro i k acc hd hi ha hk
    obtain ⟨k,rfl⟩ : ∃ m,k = m + 1 := ⟨k - 1,by omega⟩
    have hlt : i < cols.length := by omega
    simp only [verdererref02_Pick.l0]
    rw [if_pos (by omega),if_pos (by omega),dropI_rd hlt]
    simp only [pickF]
    by_cases h1 : rd cols (i : Int) < 0
    · rw [if_pos h1,if_pos (.inl h1)]
    · by_cases h2 : rd cols (i : Int) ≥ (r.length : Int)
      · rw [if_neg h1,if_pos h2,if_pos (.inr h2)]
      · rw [if_neg h1,if_neg h2,if_pos (by omega),if_pos (by omega),if_pos (by omega),if_neg (by omega),wrap_succ hlt (by omega)]
        exact ih (i + 1) k _ (by omega) (by omega) (by simp;omega) (by omega)
theorem pickR_f (r : List S50) (cols : List Int) (hl : cols.length ≤ 1000000000) (k : Nat) (hk : cols.length < k) : verdererref02_Pick.f k r cols = some (pickF r cols []) := by
  have h := pickR_l0 r cols hl cols.length 0 k [] (by omega) (by omega) (by simp) hk
  rw [show ((0 : Nat) : Int) = 0 from rfl] at h
  exact h
theorem pickF_len (r : List S50) : ∀ cols acc,(pickF r cols acc).1.length ≤ acc.length + cols.length := by
  intro cols
  induction cols with
  | nil => intro acc;simp [pickF]
  | cons c cs ih =>
    intro acc
    simp only [pickF]
    split
    · simp
    · have := ih (acc ++ [rd_T50 r c])
      simp at this ⊢
      omega
/-- All cells of a row are the row. -/
theorem pickF_all (r : List S50) : ∀ d i,r.length - i = d → i ≤ r.length → pickF r ((List.range' i d).map (fun n : Nat => (n : Int))) (r.take i) = (r,0) := by
  intro d
  induction d with
  | zero =>
    intro i hd hi
    rw [List.take_of_length_le (by omega)]
    rfl
  | succ d ih =>
    intro i hd hi
    rw [List.range'_succ,List.map_cons]
    simp only [pickF]
    rw [if_neg (by omega),rd_get (show i < r.length by omega),← List.take_succ_eq_append_getElem (show i < r.length by omega)]
    exact ih (i + 1) (by omega) (by omega)
/-- Do pairs of cells go together? -/
def pairsF (a b : List S50) (l : List S39) : Bool := l.all fun p => decide (0 ≤ p.f0) && decide (p.f0 < (a.length : Int)) && decide (0 ≤ p.f1) && decide (p.f1 < (b.length : Int)) && decide (vcmp (rd_T50 a p.f0) (rd_T50 b p.f1) = 0)
theorem cell_f (r : List S50) (i : Int) : row_cell.f r i = if 0 ≤ i ∧ i < (r.length : Int) then some ((rd_T50 r i).f0,(rd_T50 r i).f1,(rd_T50 r i).f2,(rd_T50 r i).f3,true) else some (0,false,0,⟨#[]⟩,false) := by
  unfold row_cell.f
  by_cases h1 : i < 0
  · rw [if_pos h1,if_neg (by omega)]
  · by_cases h2 : i ≥ (r.length : Int)
    · rw [if_neg h1,if_pos h2,if_neg (by omega)]
    · rw [if_neg h1,if_neg h2,if_pos (by omega),if_pos (by omega),if_pos (by omega)]
theorem pairs_l0 (a b : List S50) (l : List S39) (hl : l.length ≤ 9223372036854775807) : ∀ d i k,l.length - i = d → i ≤ l.length → d < k → row_Pairs.l0 k a b l (l.length : Int) (i : Int) = some (pairsF a b (l.drop i)) := by
  intro d
  induction d with
  | zero =>
    intro i k hd hi hk
    obtain ⟨k,rfl⟩ : ∃ m,k = m + 1 := ⟨k - 1,by omega⟩
    simp only [row_Pairs.l0]
    rw [if_neg (by omega),List.drop_eq_nil_of_le (by omega)]
    rfl
  | succ d ih =>
    intro i k hd hi hk
    obtain ⟨k,rfl⟩ : ∃ m,k = m + 1 := ⟨k - 1,by omega⟩
    have hlt : i < l.length := by omega
    simp only [row_Pairs.l0]
    rw [if_pos (by omega),if_pos (by omega),if_pos (by omega),dropP_rd hlt,cell_f,cell_f]
    generalize rd_T39 l (i : Int) = p
    have e : pairsF a b (p :: l.drop (i + 1)) = ((decide (0 ≤ p.f0) && decide (p.f0 < (a.length : Int)) && decide (0 ≤ p.f1) && decide (p.f1 < (b.length : Int)) && decide (vcmp (rd_T50 a p.f0) (rd_T50 b p.f1) = 0)) && pairsF a b (l.drop (i + 1))) := rfl
    rw [e]
    by_cases h1 : 0 ≤ p.f0 ∧ p.f0 < (a.length : Int)
    · rw [if_pos h1]
      by_cases h2 : 0 ≤ p.f1 ∧ p.f1 < (b.length : Int)
      · rw [if_pos h2]
        simp only [Option.bind_some,if_true]
        rw [vcmp_f,Option.bind_some]
        by_cases h3 : vcmp (rd_T50 a p.f0) (rd_T50 b p.f1) = 0
        · rw [if_pos h3,wrap_succ hlt hl,ih (i + 1) k (by omega) (by omega) (by omega)]
          simp [h1,h2,h3]
        · rw [if_neg h3]
          simp [h3]
      · rw [if_neg h2]
        simp only [Option.bind_some,if_true,Bool.false_eq_true,if_false]
        rcases Decidable.not_and_iff_or_not.1 h2 with h | h <;> simp [h]
    · rw [if_neg h1]
      have e2 : ∀ z : Option (Int × Bool × Int × ByteArray × Bool),(∃ q,z = some q) → ((some ((0 : Int),false,(0 : Int),(⟨#[]⟩ : ByteArray),false)).bind fun bt240 => z.bind fun bt246 => (if bt240.2.2.2.2 = true then (if bt246.2.2.2.2 = true then ((value_Compare.f bt240.1 bt240.2.1 bt240.2.2.1 bt240.2.2.2.1 bt246.1 bt246.2.1 bt246.2.2.1 bt246.2.2.2.1).bind fun t252 => (if t252 = 0 then (row_Pairs.l0 k a b l (l.length : Int) (wrap64 ((i : Int) + 1))) else (some false))) else (some false)) else (some false))) = some false := by
        rintro z ⟨q,rfl⟩
        simp
      rw [e2 _ (by split <;> exact ⟨_,rfl⟩)]
      rcases Decidable.not_and_iff_or_not.1 h1 with h | h <;> simp [h]
theorem pairs_f (a b : List S50) (l : List S39) (hl : l.length ≤ 9223372036854775807) (k : Nat) (hk : l.length < k) : row_Pairs.f k a b l = some (pairsF a b l) := by
  have h := pairs_l0 a b l hl l.length 0 k (by omega) (by omega) hk
  rw [show ((0 : Nat) : Int) = 0 from rfl] at h
  exact h
theorem rd_mem {xs : List S50} {i : Int} (h0 : 0 ≤ i) (h1 : i < (xs.length : Int)) : rd_T50 xs i ∈ xs := by
  obtain ⟨n,rfl⟩ := Int.eq_ofNat_of_zero_le h0
  rw [rd_get (by omega)]
  exact List.getElem_mem _
theorem pairsR_l0 (a b : List S50) (l : List S39) (hl : l.length ≤ 9223372036854775807) (M : Nat) (hM : ∀ x ∈ a,x.f3.size ≤ M) (hM2 : M ≤ 9223372036854775807) : ∀ d i k,l.length - i = d → i ≤ l.length → d + 2 * M + 2 < k → verdererref02_Pairs.l0 k a b l (i : Int) = some (pairsF a b (l.drop i)) := by
  intro d
  induction d with
  | zero =>
    intro i k hd hi hk
    obtain ⟨k,rfl⟩ : ∃ m,k = m + 1 := ⟨k - 1,by omega⟩
    simp only [verdererref02_Pairs.l0]
    rw [if_neg (by omega),List.drop_eq_nil_of_le (by omega)]
    rfl
  | succ d ih =>
    intro i k hd hi hk
    obtain ⟨k,rfl⟩ : ∃ m,k = m + 1 := ⟨k - 1,by omega⟩
    have hlt : i < l.length := by omega
    simp only [verdererref02_Pairs.l0]
    rw [if_pos (by omega),if_pos (by omega),dropP_rd hlt]
    generalize rd_T39 l (i : Int) = p
    have e : pairsF a b (p :: l.drop (i + 1)) = ((decide (0 ≤ p.f0) && decide (p.f0 < (a.length : Int)) && decide (0 ≤ p.f1) && decide (p.f1 < (b.length : Int)) && decide (vcmp (rd_T50 a p.f0) (rd_T50 b p.f1) = 0)) && pairsF a b (l.drop (i + 1))) := rfl
    rw [e]
    by_cases h1 : p.f0 < 0
    · rw [if_pos h1];simp [show ¬ 0 ≤ p.f0 by omega]
    · by_cases h2 : p.f0 ≥ (a.length : Int)
      · rw [if_neg h1,if_pos h2];simp [show ¬ p.f0 < (a.length : Int) by omega]
      · by_cases h3 : p.f1 < 0
        · rw [if_neg h1,if_neg h2,if_pos h3];simp [show ¬ 0 ≤ p.f1 by omega]
        · by_cases h4 : p.f1 ≥ (b.length : Int)
          · rw [if_neg h1,if_neg h2,if_neg h3,if_pos h4];simp [show ¬ p.f1 < (b.length : Int) by omega]
          · have hm := hM _ (rd_mem (xs := a) (i := p.f0) (by omega) (by omega))
            rw [if_neg h1,if_neg h2,if_neg h3,if_neg h4,if_pos (by omega),if_pos (by omega),if_pos (by omega),if_pos (by omega),vcmp_ref _ _ (by omega) k (by omega),Option.bind_some]
            by_cases h5 : vcmp (rd_T50 a p.f0) (rd_T50 b p.f1) = 0
            · rw [if_pos h5,wrap_succ hlt hl,ih (i + 1) k (by omega) (by omega) (by omega)]
              simp [h5,show 0 ≤ p.f0 by omega,show p.f0 < (a.length : Int) by omega,show 0 ≤ p.f1 by omega,show p.f1 < (b.length : Int) by omega]
            · rw [if_neg h5]
              simp [h5]
theorem pairsR_f (a b : List S50) (l : List S39) (hl : l.length ≤ 9223372036854775807) (M : Nat) (hM : ∀ x ∈ a,x.f3.size ≤ M) (hM2 : M ≤ 9223372036854775807) (k : Nat) (hk : l.length + 2 * M + 2 < k) : verdererref02_Pairs.f k a b l = some (pairsF a b l) := by
  have h := pairsR_l0 a b l hl M hM hM2 l.length 0 k (by omega) (by omega) hk
  rw [show ((0 : Nat) : Int) = 0 from rfl] at h
  exact h
theorem join_f (a b : List S50) (ha : a.length ≤ 1000) (hb : b.length ≤ 1000) (k : Nat) : row_Join.f (k + 6) [a,b] = some (a ++ b) := by
  unfold row_Join.f slices_Concat.f
  have w1 : wrap64 (0 + (a.length : Int)) = (a.length : Int) := by rw [wrap_id (by omega) (by omega)];omega
  have w2 : wrap64 ((a.length : Int) + (b.length : Int)) = (a.length : Int) + (b.length : Int) := wrap_id (by omega) (by omega)
  have r0 : rd_L4 [a,b] 0 = a := rfl
  have r1 : rd_L4 [a,b] 1 = b := rfl
  have i1 : wrap64 ((0 : Int) + 1) = 1 := wrap_id (by omega) (by omega)
  have i2 : wrap64 ((1 : Int) + 1) = 2 := wrap_id (by omega) (by omega)
  simp only [slices_Concat.l0,slices_Concat.l1,List.length_cons,List.length_nil,r0,i1,r1,i2,w1,w2]
  rw [if_pos (by omega),if_pos (by omega),if_pos (by omega),if_neg (by omega),if_pos (by omega),if_pos (by omega),if_pos (by omega),if_neg (by omega),if_neg (by omega)]
  unfold slices_Grow.f
  rw [if_pos (by omega)]
  simp only [Option.bind_some,List.length_nil,List.nil_append]
  rw [if_pos (by omega),if_pos (by omega),if_pos (by omega),if_pos (by omega),if_pos (by omega),if_pos (by omega),if_pos (by omega),if_pos (by omega),if_neg (by omega)]
  rfl
theorem joinR_f (a b : List S50) (ha : a.length ≤ 1000) (hb : b.length ≤ 1000) : verdererref02_Join.f a b = some (a ++ b) := by
  unfold verdererref02_Join.f
  rw [if_pos (by simp;omega)]
  simp only [Option.bind_some,List.nil_append]
  rw [if_pos (by omega)]
end Go.Proofs.Ytfoaeigoajooeaa.Z
/- The fixed calls of chapter 2's statements come as they must. -/
namespace Go.Proofs.Ytfoaeigoajooeaa.Z
open Go.RowKit Go.Proofs.YtfoaeigoajooeaaW.PrintWords Go.Proofs.YtfoaeigoajooeaaW.PrintLast Go.Proofs.YtfoaeigoajooeaaW.PrintMore
theorem known02 (k : Nat) (hk : 60 ≤ k) : verdererlaw02_known.f k = some true := at_rounds (fun k => verdererlaw02_known.mono k) hk (by decide +kernel)
end Go.Proofs.Ytfoaeigoajooeaa.Z
/- The plain law of RowParts. -/
namespace Go.Proofs.Ytfoaeigoajooeaa.Z
open Go.RowKit Go.Proofs.YtfoaeigoajooeaaW.PrintWords Go.Proofs.YtfoaeigoajooeaaW.PrintLast Go.Proofs.YtfoaeigoajooeaaW.PrintMore Go.Proofs.Ytfoaeigoajooeaa.Cmp
theorem rowParts_j0 (l0 l1 : List S50) (l2 : List Int) (l3 : List S39) (b : Bool) (M : Nat) (hM : ∀ x ∈ l0,x.f3.size ≤ M) (hM2 : M ≤ 9223372036854775807) (h0 : b = false → l0.length ≤ 100 ∧ l1.length ≤ 100 ∧ l2.length ≤ 100 ∧ l3.length ≤ 100) (k : Nat) (hk : 2 * M + 1000 < k) : verdererlaw02_RowParts.j0 (k + 1) l0 l1 l2 l3 b = some true := by
  rw [verdererlaw02_RowParts.j0]
  cases b with
  | true => simp only [if_true,known02 k (by omega),Option.bind_some]
  | false =>
    obtain ⟨h0,h1,h2,h3⟩ := h0 rfl
    simp only [Bool.false_eq_true,if_false]
    have hj : row_Join.f k [l0,l1] = some (l0 ++ l1) := by
      obtain ⟨m,rfl⟩ : ∃ m,k = m + 6 := ⟨k - 6,by omega⟩
      exact join_f l0 l1 (by omega) (by omega) m
    have hp := pickF_len l0 l2 []
    rw [pick_f l0 l2 (by omega) k (by omega),pickR_f l0 l2 (by omega) k (by omega),hj,joinR_f l0 l1 (by omega) (by omega),pairs_f l0 l1 l3 (by omega) k (by omega),pairsR_f l0 l1 l3 (by omega) M hM hM2 k (by omega)]
    simp only [Option.bind_some,beq_self_eq_true,if_true]
    rw [equal_self _ (by simp at hp;omega) k (by simp at hp;omega),equal_self (l0 ++ l1) (by simp;omega) k (by simp;omega)]
    simp only [known02 k (by omega),Option.bind_some,if_true]
theorem rowParts_pure : ∀ (l0 : (List S50)) (l1 : (List S50)) (l2 : (List Int)) (l3 : (List S39)),(l0.length ≤ maxLen ∧ ∀ x ∈ l0,G50 x) → (l1.length ≤ maxLen ∧ ∀ x ∈ l1,G50 x) → (l2.length ≤ maxLen ∧ ∀ x ∈ l2,(Lit.int .i64 x).wf = true) → (l3.length ≤ maxLen ∧ ∀ x ∈ l3,G39 x) → ∃ k,verdererlaw02_RowParts.f k l0 l1 l2 l3 = some true := by
  intro l0 l1 l2 l3 g0 _ _ _
  obtain ⟨M,hM,hM2⟩ := texts_bound l0 (fun x hx => (g0.2 x hx).2.2.2)
  refine ⟨2 * M + 1001 + 1,?_⟩
  unfold verdererlaw02_RowParts.f
  split
  · exact rowParts_j0 _ _ _ _ _ M hM hM2 (by simp) _ (by omega)
  · split
    · exact rowParts_j0 _ _ _ _ _ M hM hM2 (by simp) _ (by omega)
    · split
      · exact rowParts_j0 _ _ _ _ _ M hM hM2 (by simp) _ (by omega)
      · exact rowParts_j0 _ _ _ _ _ M hM hM2 (fun h => by have := of_decide_eq_false h;omega) _ (by omega)
end Go.Proofs.Ytfoaeigoajooeaa.Z
namespace Go.Proofs.Ytfoaeigoajooeaa.rowParts
open Go.ChangeShapes Go.WideShapes Go.ChangeAt Go.RowKit Go.Proofs.YtfoaeigoajooeaaW.PrintWords
open Go.ChangeMaps (open_string shut_string)
set_option linter.unusedVariables false
theorem own : ownKnob Try.prog.godebug = none := by kernel_rfl
theorem laidOut : laidOutB Try.prog = true := by kernel_rfl
set_option maxRecDepth 100000 in
theorem lifted (os : Os) (started : os.Started) (H : Type) (enc : TypeId × Value → H) :
    ReturnsInHanded {} Try.checked os 4 .any (Rows.rowPartsSpec.pre6 enc Try.prog Try.f4 Rows.rowPartsRow.domain false) (Rows.rowPartsSpec.post enc Try.prog Try.f4 false true false false) := by
  refine returnsInHanded_of_change (C := Try.checked) own started (by kernel_rfl) Try.func4
    (ChangeSpec.witness6 (enc := enc) (C := Try.checked) false ⟨#[],#[.slice none 0 0,.slice none 0 0,.slice none 0 0,.slice none 0 0],[]⟩ 8 (by kernel_rfl) (by kernel_rfl) (by kernel_rfl) (by kernel_rfl)) ?_
  intro W base args ds gs before hval0 hW hcnd _
  have hval : ∀ (j : Nat) t v,Try.f4.params[j]? = some t → args[j]? = some v → Value.okWide Try.prog W .any base t v := hval0
  have hW' := hW
  obtain ⟨p,q,hA0,hV,rfl,hfz,hnd⟩ := hW
  have hA : DataW.TrodAll enc Try.prog W 0 (fun _ => true) true Try.f4.params.toList args.toList ds p := hA0
  rw [Try.params4] at hA hval
  obtain ⟨v0,vs0,d0,ds0,p0,q0,hargs,rfl,rfl,h0,r0⟩ := trodAll_cons hA
  obtain ⟨v1,vs1,d1,ds1,p1,q1,rfl,rfl,rfl,h1,r1⟩ := trodAll_cons r0
  obtain ⟨v2,vs2,d2,ds2,p2,q2,rfl,rfl,rfl,h2,r2⟩ := trodAll_cons r1
  obtain ⟨v3,vs3,d3,ds3,p3,q3,rfl,rfl,rfl,h3,r3⟩ := trodAll_cons r2
  obtain ⟨rfl,rfl,rfl⟩ := trodAll_nil r3
  obtain rfl : args = #[v0,v1,v2,v3] := by cases args;simp_all
  obtain ⟨rfl,rfl⟩ := trodVars_none hV
  obtain ⟨a0,len0,cap0,rfl⟩ := okWide_slice Try.underlying22 (hval 0 22 v0 rfl rfl)
  have k0 := h0
  have lt0 : ∀ x ∈ p0,x.block < W.heap.size := by obtain ⟨m,hm⟩ := k0;exact DataW.trod_lt m _ _ _ hm
  obtain ⟨l0,hK0,hG0⟩ : ∃ l,((Kd.slice 50 Z.k50) : Kd (List Z.S50)).K W l [.slice a0 len0 cap0] ∧ (l.length ≤ maxLen ∧ ∀ x ∈ l,Z.G50 x) := by obtain ⟨fuel,hf⟩ := h0;exact (show OfTrod Try.prog 22 (Kd.slice 50 Z.k50) _ from (ofTrod_slice Try.underlying22 (by kernel_rfl) Z.of50)) _ _ _ _ _ _ _ _ _ hf
  obtain ⟨A0,c0,he0,hl0,hC0⟩ := hK0
  simp only [List.cons.injEq,Value.slice.injEq,and_true] at he0
  obtain ⟨rfl,rfl,rfl⟩ := he0
  obtain ⟨a1,len1,cap1,rfl⟩ := okWide_slice Try.underlying22 (hval 1 22 v1 rfl rfl)
  have k1 := h1
  have lt1 : ∀ x ∈ p1,x.block < W.heap.size := by obtain ⟨m,hm⟩ := k1;exact DataW.trod_lt m _ _ _ hm
  obtain ⟨l1,hK1,hG1⟩ : ∃ l,((Kd.slice 50 Z.k50) : Kd (List Z.S50)).K W l [.slice a1 len1 cap1] ∧ (l.length ≤ maxLen ∧ ∀ x ∈ l,Z.G50 x) := by obtain ⟨fuel,hf⟩ := h1;exact (show OfTrod Try.prog 22 (Kd.slice 50 Z.k50) _ from (ofTrod_slice Try.underlying22 (by kernel_rfl) Z.of50)) _ _ _ _ _ _ _ _ _ hf
  obtain ⟨A1,c1,he1,hl1,hC1⟩ := hK1
  simp only [List.cons.injEq,Value.slice.injEq,and_true] at he1
  obtain ⟨rfl,rfl,rfl⟩ := he1
  obtain ⟨a2,len2,cap2,rfl⟩ := okWide_slice Try.underlying26 (hval 2 26 v2 rfl rfl)
  have k2 := h2
  have lt2 : ∀ x ∈ p2,x.block < W.heap.size := by obtain ⟨m,hm⟩ := k2;exact DataW.trod_lt m _ _ _ hm
  obtain ⟨l2,hK2,hG2⟩ : ∃ l,((Kd.slice 3 (Kd.int .i64)) : Kd (List Int)).K W l [.slice a2 len2 cap2] ∧ (l.length ≤ maxLen ∧ ∀ x ∈ l,(Lit.int .i64 x).wf = true) := by obtain ⟨fuel,hf⟩ := h2;exact (show OfTrod Try.prog 26 (Kd.slice 3 (Kd.int .i64)) _ from (ofTrod_slice Try.underlying26 (by kernel_rfl) (ofTrod_int Try.underlying3))) _ _ _ _ _ _ _ _ _ hf
  obtain ⟨A2,c2,he2,hl2,hC2⟩ := hK2
  simp only [List.cons.injEq,Value.slice.injEq,and_true] at he2
  obtain ⟨rfl,rfl,rfl⟩ := he2
  obtain ⟨a3,len3,cap3,rfl⟩ := okWide_slice Try.underlying27 (hval 3 27 v3 rfl rfl)
  have k3 := h3
  have lt3 : ∀ x ∈ p3,x.block < W.heap.size := by obtain ⟨m,hm⟩ := k3;exact DataW.trod_lt m _ _ _ hm
  obtain ⟨l3,hK3,hG3⟩ : ∃ l,((Kd.slice 39 Z.k39) : Kd (List Z.S39)).K W l [.slice a3 len3 cap3] ∧ (l.length ≤ maxLen ∧ ∀ x ∈ l,Z.G39 x) := by obtain ⟨fuel,hf⟩ := h3;exact (show OfTrod Try.prog 27 (Kd.slice 39 Z.k39) _ from (ofTrod_slice Try.underlying27 (by kernel_rfl) Z.of39)) _ _ _ _ _ _ _ _ _ hf
  obtain ⟨A3,c3,he3,hl3,hC3⟩ := hK3
  simp only [List.cons.injEq,Value.slice.injEq,and_true] at he3
  obtain ⟨rfl,rfl,rfl⟩ := he3
  clear hA0 hval0
  obtain ⟨k,h⟩ := Z.rowParts_pure l0 l1 l2 l3 hG0 hG1 hG2 hG3
  refine (Z.verdererlaw02_RowParts.calls k (fun _ => True) _ _ l0 (fun _ => True) _ _ l1 _ _ l2 _ _ l3 true W (Kd.V_mk hl0 (F_of_C Z.ho50 hC0)) (Kd.V_mk hl1 (F_of_C Z.ho50 hC1)) hC2 hl2 hC3 hl3 h).mono fun e W' ⟨he,bel⟩ => ?_
  subst he
  exact ⟨_,rfl,_,_,_,[],_,[],hW',trodAll_mk1 (shut_bool Try.underlying4 _),(trodAll_cons_mk (Below.trod laidOut (by kernel_rfl) (of_decide_eq_true (by kernel_rfl)) k0 bel lt0) (trodAll_cons_mk (Below.trod laidOut (by kernel_rfl) (of_decide_eq_true (by kernel_rfl)) k1 bel lt1) (trodAll_cons_mk (Below.trod laidOut (by kernel_rfl) (of_decide_eq_true (by kernel_rfl)) k2 bel lt2) (trodAll_cons_mk (Below.trod laidOut (by kernel_rfl) (of_decide_eq_true (by kernel_rfl)) k3 bel lt3) trodAll_mk0)))),rfl,bel.frame _,fun h => by cases h⟩
theorem over : Rows.rowPartsRow.holds Try.pinned (OpenSpec.ofChange Rows.rowPartsSpec) :=
  OpenClaim.holds_of_wide 4 Try.f4 rfl rfl rfl rfl rfl rfl rfl ⟨rfl,rfl,rfl,rfl,rfl⟩ rfl rfl rfl rfl rfl (by kernel_rfl) Try.func4 (by kernel_rfl)
    (of_decide_eq_true (by kernel_rfl)) (by unfold Func.isWrapper;first | (rw [if_pos (by decide +kernel)];kernel_rfl) | (rw [if_neg (by decide +kernel)];exact ⟨rfl,rfl⟩))
    (fun os started H enc _ => lifted os started H enc)
theorem proved : Rows.RowPartsSaid := over
#print axioms proved
end Go.Proofs.Ytfoaeigoajooeaa.rowParts
namespace Go.Proofs.Ytfoaeigoajooeaa
/-- The row,under a short name,for the claim. -/
theorem rowParts_holds : Rows.RowPartsSaid := rowParts.proved
end Go.Proofs.Ytfoaeigoajooeaa
