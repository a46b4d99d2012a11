/-
  verdererlaw04.PackOrder: for every input the law returns true, and each argument reads behind the call as it read before. No condition.
-/
import Derived.Test.YtfoaeigoajooeaaMPackOrdera
import Derived.Test.YtfoaeigoajooeaaMPackOrderb
import Derived.Test.YtfoaeigoajooeaaMPackOrderc
import Derived.Test.YtfoaeigoajooeaaMPackOrderd
import Derived.Laws.Bits64b
import Derived.Lib.Bytes
import Derived.Test.YtfoaeigoajooeaaRows
import Derived.WalkKit
import Derived.ProofKit
import Derived.OpenShut
import Derived.ShutString
import Derived.ChangeOld
import Derived.Below
/- Values and rows in their order: what value.Compare and row.Compare answer. -/
namespace Go.Proofs.Ytfoaeigoajooeaa.Z
open Go.RowKit Go.Proofs.YtfoaeigoajooeaaW.PrintWords Go.Proofs.YtfoaeigoajooeaaW.PrintLast Go.Proofs.YtfoaeigoajooeaaW.PrintMore Go.Proofs.Ytfoaeigoajooeaa.Cmp
theorem wrap_id {x : Int} (h0 : -9223372036854775808 ≤ x) (h1 : x ≤ 9223372036854775807) : wrap64 x = x := by unfold wrap64;omega
theorem wrap_succ {n : Nat} {m : Nat} (h : n < m) (hm : m ≤ 9223372036854775807) : wrap64 ((n : Int) + 1) = ((n + 1 : Nat) : Int) := by rw [wrap_id (by omega) (by omega)];omega
def b2i (b : Bool) : Int := if b then 1 else 0
def kcmp (a b : S50) : Int := if a.f0 = 1 then cmpI (b2i a.f1) (b2i b.f1) else if a.f0 = 2 then cmpI a.f2 b.f2 else if a.f0 = 3 then cmpB a.f3.data.toList b.f3.data.toList else 0
def vcmp (a b : S50) : Int := if a.f0 = b.f0 then kcmp a b else cmpI a.f0 b.f0
theorem vcmp_law : CmpLaw vcmp := by
  have anti : ∀ a b,vcmp b a = - vcmp a b := by
    intro a b
    unfold vcmp
    by_cases h : a.f0 = b.f0
    · rw [if_pos h,if_pos h.symm]
      unfold kcmp
      rw [← h]
      by_cases h1 : a.f0 = 1
      · rw [if_pos h1,if_pos h1];exact cmpI_law.anti _ _
      · by_cases h2 : a.f0 = 2
        · rw [if_neg h1,if_neg h1,if_pos h2,if_pos h2];exact cmpI_law.anti _ _
        · by_cases h3 : a.f0 = 3
          · rw [if_neg h1,if_neg h1,if_neg h2,if_neg h2,if_pos h3,if_pos h3];exact cmpB_law.anti _ _
          · rw [if_neg h1,if_neg h1,if_neg h2,if_neg h2,if_neg h3,if_neg h3];rfl
    · rw [if_neg h,if_neg (fun e => h e.symm)];exact cmpI_law.anti _ _
  refine ⟨fun a b => ?_,anti,fun a b d h1 h2 => ?_⟩
  · unfold vcmp kcmp
    repeat' split
    all_goals first | exact cmpI_law.lo _ _ | exact cmpB_law.lo _ _ | omega
  · unfold vcmp at *
    by_cases hab : a.f0 = b.f0
    · rw [if_pos hab] at h1
      by_cases hbd : b.f0 = d.f0
      · rw [if_pos hbd] at h2
        rw [if_pos (hab.trans hbd)]
        unfold kcmp at *
        rw [← hab] at h2
        by_cases k1 : a.f0 = 1
        · rw [if_pos k1] at h1 h2 ⊢;exact cmpI_law.le _ _ _ h1 h2
        · by_cases k2 : a.f0 = 2
          · rw [if_neg k1,if_pos k2] at h1 h2 ⊢;exact cmpI_law.le _ _ _ h1 h2
          · by_cases k3 : a.f0 = 3
            · rw [if_neg k1,if_neg k2,if_pos k3] at h1 h2 ⊢;exact cmpB_law.le _ _ _ h1 h2
            · rw [if_neg k1,if_neg k2,if_neg k3];omega
      · rw [if_neg hbd] at h2
        rw [if_neg (fun e => hbd (hab.symm.trans e)),hab]
        exact h2
    · rw [if_neg hab] at h1
      by_cases hbd : b.f0 = d.f0
      · rw [if_neg (fun e => hab (e.trans hbd.symm)),← hbd]
        exact h1
      · rw [if_neg hbd] at h2
        have n1 : cmpI a.f0 b.f0 ≠ 0 := fun e => hab (cmpI_eq.1 e)
        have h3 := cmpI_law.lt_le (show cmpI a.f0 b.f0 < 0 by omega) h2
        rw [if_neg (fun e => by have := cmpI_eq.2 e;omega)]
        omega
def rcmp (a b : List S50) : Int := lexC vcmp a b
theorem rcmp_law : CmpLaw rcmp := lexC_law vcmp_law
theorem isNaN_f (x : Int) : cmp_isNaN_70.f x = some false := by unfold cmp_isNaN_70.f;simp
theorem isNaN_g (x : Int) : cmp_isNaN_71.f x = some false := by unfold cmp_isNaN_71.f;simp
theorem cmp_f (a b : Int) : cmp_Compare_63.f a b = some (cmpI a b) := by
  unfold cmp_Compare_63.f cmpI
  rw [isNaN_f,isNaN_f]
  simp only [Option.bind_some,Bool.false_eq_true,if_false,gt_iff_lt]
  repeat' split
  all_goals first | rfl | omega
theorem cmp_g (a b : Int) : cmp_Compare_65.f a b = some (cmpI a b) := by
  unfold cmp_Compare_65.f cmpI
  rw [isNaN_g,isNaN_g]
  simp only [Option.bind_some,Bool.false_eq_true,if_false,gt_iff_lt]
  repeat' split
  all_goals first | rfl | omega
theorem truth_f (b : Bool) : value_truth.f b = some (b2i b) := by cases b <;> rfl
theorem vcmp_f (a b : S50) : value_Compare.f a.f0 a.f1 a.f2 a.f3 b.f0 b.f1 b.f2 b.f3 = some (vcmp a b) := by
  unfold value_Compare.f vcmp kcmp
  rw [truth_f,truth_f,cmp_g]
  simp only [Option.bind_some,cmp_f,strings_Compare.f,compareBytes_eq]
  repeat' split
  all_goals rfl
theorem rd_nat (xs : List S50) (i : Nat) : rd_T50 xs (i : Int) = xs.getD i z50 := rfl
theorem rd_get {xs : List S50} {i : Nat} (h : i < xs.length) : rd_T50 xs (i : Int) = xs[i] := by rw [rd_nat];simp [List.getD,List.getElem?_eq_getElem h]
theorem drop_rd {xs : List S50} {i : Nat} (h : i < xs.length) : xs.drop i = rd_T50 xs (i : Int) :: xs.drop (i + 1) := by rw [rd_get h];exact List.drop_eq_getElem_cons h
theorem compareFunc_l0 (x0 x1 : List S50) (hl : x0.length ≤ 9223372036854775807) : ∀ d i k,x0.length - i = d → i ≤ x0.length → i ≤ x1.length → d < k → slices_CompareFunc.l0 k x0 x1 x0 (x0.length : Int) (i : Int) = some (rcmp (x0.drop i) (x1.drop i)) := by
  intro d
  induction d with
  | zero =>
    intro i k hd hi hi1 hk
    obtain ⟨k,rfl⟩ : ∃ m,k = m + 1 := ⟨k - 1,by omega⟩
    simp only [slices_CompareFunc.l0]
    rw [if_neg (by omega)]
    have e0 : x0.drop i = [] := List.drop_eq_nil_of_le (by omega)
    rw [e0]
    by_cases h : i < x1.length
    · rw [if_pos (by omega),drop_rd h];rfl
    · rw [if_neg (by omega),List.drop_eq_nil_of_le (by omega)];rfl
  | succ d ih =>
    intro i k hd hi hi1 hk
    obtain ⟨k,rfl⟩ : ∃ m,k = m + 1 := ⟨k - 1,by omega⟩
    have hlt : i < x0.length := by omega
    simp only [slices_CompareFunc.l0]
    rw [if_pos (by omega),if_pos (by omega),if_pos (by omega),drop_rd hlt]
    by_cases h : i < x1.length
    · rw [if_neg (by omega),if_pos (by omega),vcmp_f,Option.bind_some,drop_rd h]
      by_cases h0 : vcmp (rd_T50 x0 i) (rd_T50 x1 i) = 0
      · rw [if_pos h0,wrap_succ hlt hl,ih (i + 1) k (by omega) (by omega) (by omega) (by omega)]
        simp [rcmp,lexC,h0]
      · rw [if_neg h0]
        simp [rcmp,lexC,h0]
    · rw [if_pos (by omega),List.drop_eq_nil_of_le (show x1.length ≤ i by omega)]
      rfl
theorem rowCompare_f (a b : List S50) (ha : a.length ≤ 9223372036854775807) (k : Nat) (hk : a.length < k) : row_Compare.f k a b = some (rcmp a b) := by
  unfold row_Compare.f slices_CompareFunc.f
  have h := compareFunc_l0 a b ha a.length 0 k (by omega) (by omega) (by omega) hk
  rw [show ((0 : Nat) : Int) = 0 from rfl] at h
  rw [h]
  rfl
end Go.Proofs.Ytfoaeigoajooeaa.Z
/- The document's order of values and rows is the same;rows that are one,cell by cell. -/
namespace Go.Proofs.Ytfoaeigoajooeaa.Z
open Go.RowKit Go.Proofs.YtfoaeigoajooeaaW.PrintWords Go.Proofs.YtfoaeigoajooeaaW.PrintLast Go.Proofs.YtfoaeigoajooeaaW.PrintMore Go.Proofs.Ytfoaeigoajooeaa.Cmp
theorem bt_get {s : ByteArray} {i : Nat} (h : i < s.size) : bt s (i : Int) = ((s.data.toList[i]'(by simpa using h)).toNat : Int) := by
  rw [← bt_at s (i : Int) (by simpa using h)]
  rfl
theorem bytes_drop {s : ByteArray} {i : Nat} (h : i < s.size) : s.data.toList.drop i = s.data.toList[i]'(by simpa using h) :: s.data.toList.drop (i + 1) := List.drop_eq_getElem_cons (by simpa using h)
theorem text_l0 (a b : ByteArray) (ha : a.size ≤ 9223372036854775807) : ∀ d i k,a.size - i = d → i ≤ a.size → i ≤ b.size → 2 * d + 1 < k → verdererref01_Text.l0 k a b (i : Int) = some (cmpB (a.data.toList.drop i) (b.data.toList.drop i)) := by
  intro d
  induction d with
  | zero =>
    intro i k hd hi hib hk
    obtain ⟨k,rfl⟩ : ∃ m,k = m + 2 := ⟨k - 2,by omega⟩
    have e0 : a.data.toList.drop i = [] := List.drop_eq_nil_of_le (by simp;omega)
    simp only [verdererref01_Text.l0]
    rw [if_neg (by omega),e0]
    simp only [verdererref01_Text.j1,Bool.false_eq_true,if_false]
    by_cases h : i < b.size
    · rw [if_pos (by omega),bytes_drop h];rfl
    · rw [if_neg (by omega),if_neg (by omega),List.drop_eq_nil_of_le (by simp;omega)];rfl
  | succ d ih =>
    intro i k hd hi hib hk
    obtain ⟨k,rfl⟩ : ∃ m,k = m + 2 := ⟨k - 2,by omega⟩
    have hlt : i < a.size := by omega
    simp only [verdererref01_Text.l0]
    rw [if_pos (by omega)]
    simp only [verdererref01_Text.j1]
    by_cases h : i < b.size
    · rw [if_pos (decide_eq_true (by omega)),if_pos (by omega),if_pos (by omega),if_pos (by omega),bt_get hlt,bt_get h,bytes_drop hlt,bytes_drop h]
      generalize a.data.toList[i]'(by simpa using hlt) = x
      generalize b.data.toList[i]'(by simpa using h) = y
      have e : cmpB (x :: a.data.toList.drop (i + 1)) (y :: b.data.toList.drop (i + 1)) = if cmpI x.toNat y.toNat = 0 then cmpB (a.data.toList.drop (i + 1)) (b.data.toList.drop (i + 1)) else cmpI x.toNat y.toNat := rfl
      rw [e,wrap_succ hlt ha,ih (i + 1) k (by omega) (by omega) (by omega) (by omega)]
      unfold cmpI
      by_cases h1 : (x.toNat : Int) < y.toNat
      · rw [if_pos h1,if_pos h1,if_neg (by omega)]
      · by_cases h2 : (y.toNat : Int) < x.toNat
        · rw [if_neg h1,if_neg h1,if_pos h2,if_pos h2,if_neg (by omega)]
        · rw [if_neg h1,if_neg h1,if_neg h2,if_neg h2,if_pos rfl]
    · rw [if_neg (by simp;omega),if_neg (by omega),if_pos (by omega),bytes_drop hlt,List.drop_eq_nil_of_le (show b.data.toList.length ≤ i by simp;omega)]
      rfl
theorem text_f (a b : ByteArray) (ha : a.size ≤ 9223372036854775807) (k : Nat) (hk : 2 * a.size + 1 < k) : verdererref01_Text.f k a b = some (cmpB a.data.toList b.data.toList) := by
  have h := text_l0 a b ha a.size 0 k (by omega) (by omega) (by omega) hk
  rw [show ((0 : Nat) : Int) = 0 from rfl] at h
  exact h
theorem vcmp_ref (a b : S50) (ha : a.f3.size ≤ 9223372036854775807) (k : Nat) (hk : 2 * a.f3.size + 1 < k) : verdererref01_Compare.f k a.f0 a.f1 a.f2 a.f3 b.f0 b.f1 b.f2 b.f3 = some (vcmp a b) := by
  unfold verdererref01_Compare.f vcmp
  rw [text_f _ _ ha k hk]
  simp only [Option.bind_some]
  by_cases h1 : a.f0 < b.f0
  · rw [if_pos h1,if_neg (by omega)]
    unfold cmpI
    rw [if_pos h1]
  · by_cases h2 : a.f0 > b.f0
    · rw [if_neg h1,if_pos h2,if_neg (by omega)]
      unfold cmpI
      rw [if_neg h1,if_pos h2]
    · have e : (if a.f0 = b.f0 then kcmp a b else cmpI a.f0 b.f0) = kcmp a b := if_pos (by omega)
      rw [if_neg h1,if_neg h2,e]
      unfold kcmp
      by_cases k1 : a.f0 = 1
      · rw [if_pos k1,if_pos k1]
        cases a.f1 <;> cases b.f1 <;> rfl
      · by_cases k2 : a.f0 = 2
        · rw [if_neg k1,if_pos k2,if_neg k1,if_pos k2]
          unfold cmpI
          repeat' split
          all_goals first | rfl | omega
        · by_cases k3 : a.f0 = 3
          · rw [if_neg k1,if_neg k2,if_pos k3,if_neg k1,if_neg k2,if_pos k3]
          · rw [if_neg k1,if_neg k2,if_neg k3,if_neg k1,if_neg k2,if_neg k3]
theorem refCompare_l0 (x0 x1 : List S50) (hl : x0.length ≤ 9223372036854775807) (M : Nat) (hM : ∀ x ∈ x0,x.f3.size ≤ M) (hM2 : M ≤ 9223372036854775807) : ∀ d i k,x0.length - i = d → i ≤ x0.length → i ≤ x1.length → 2 * d + 2 * M + 3 < k → verdererref02_Compare.l0 k x0 x1 (i : Int) = some (rcmp (x0.drop i) (x1.drop i)) := by
  intro d
  induction d with
  | zero =>
    intro i k hd hi hib hk
    obtain ⟨k,rfl⟩ : ∃ m,k = m + 2 := ⟨k - 2,by omega⟩
    simp only [verdererref02_Compare.l0]
    rw [if_neg (by omega),List.drop_eq_nil_of_le (show x0.length ≤ i by omega)]
    simp only [verdererref02_Compare.j1,Bool.false_eq_true,if_false]
    by_cases h : i < x1.length
    · rw [if_pos (by omega),drop_rd h];rfl
    · rw [if_neg (by omega),if_neg (by omega),List.drop_eq_nil_of_le (by omega)];rfl
  | succ d ih =>
    intro i k hd hi hib hk
    obtain ⟨k,rfl⟩ : ∃ m,k = m + 2 := ⟨k - 2,by omega⟩
    have hlt : i < x0.length := by omega
    simp only [verdererref02_Compare.l0]
    rw [if_pos (by omega)]
    simp only [verdererref02_Compare.j1]
    have hx : (rd_T50 x0 (i : Int)).f3.size ≤ M := by rw [rd_get hlt];exact hM _ (List.getElem_mem hlt)
    by_cases h : i < x1.length
    · rw [if_pos (decide_eq_true (by omega)),if_pos (by omega),if_pos (by omega),if_pos (by omega),vcmp_ref _ _ (by omega) k (by omega),Option.bind_some,drop_rd hlt,drop_rd h]
      by_cases h0 : vcmp (rd_T50 x0 i) (rd_T50 x1 i) = 0
      · rw [if_pos h0,wrap_succ hlt hl,ih (i + 1) k (by omega) (by omega) (by omega) (by omega)]
        simp [rcmp,lexC,h0]
      · rw [if_neg h0]
        simp [rcmp,lexC,h0]
    · rw [if_neg (by simp;omega),if_neg (by omega),if_pos (by omega),drop_rd hlt,List.drop_eq_nil_of_le (show x1.length ≤ i by omega)]
      rfl
theorem refCompare_f (a b : List S50) (ha : a.length ≤ 9223372036854775807) (M : Nat) (hM : ∀ x ∈ a,x.f3.size ≤ M) (hM2 : M ≤ 9223372036854775807) (k : Nat) (hk : 2 * a.length + 2 * M + 3 < k) : verdererref02_Compare.f k a b = some (rcmp a b) := by
  have h := refCompare_l0 a b ha M hM hM2 a.length 0 k (by omega) (by omega) (by omega) hk
  rw [show ((0 : Nat) : Int) = 0 from rfl] at h
  exact h
/-- A bound of all texts of some values. -/
theorem texts_bound (l : List S50) (h : ∀ x ∈ l,x.f3.size ≤ 9223372036854775807) : ∃ M,(∀ x ∈ l,x.f3.size ≤ M) ∧ M ≤ 9223372036854775807 := ⟨9223372036854775807,h,Nat.le_refl _⟩
theorem equal_l0 (x : List S50) (hl : x.length ≤ 9223372036854775807) : ∀ d i k,x.length - i = d → i ≤ x.length → d < k → verdererref02_Equal.l0 k x x (i : Int) = some true := by
  intro d
  induction d with
  | zero =>
    intro i k hd hi hk
    obtain ⟨k,rfl⟩ : ∃ m,k = m + 1 := ⟨k - 1,by omega⟩
    simp only [verdererref02_Equal.l0]
    rw [if_neg (by omega)]
  | succ d ih =>
    intro i k hd hi hk
    obtain ⟨k,rfl⟩ : ∃ m,k = m + 1 := ⟨k - 1,by omega⟩
    simp only [verdererref02_Equal.l0]
    rw [if_pos (by omega),if_pos (by omega),if_pos (by omega),if_neg (by simp),wrap_succ (show i < x.length by omega) hl,ih (i + 1) k (by omega) (by omega) (by omega)]
theorem equal_self (x : List S50) (hl : x.length ≤ 9223372036854775807) (k : Nat) (hk : x.length < k) : verdererref02_Equal.f k x x = some true := by
  unfold verdererref02_Equal.f
  rw [if_pos rfl]
  have h := equal_l0 x hl x.length 0 k (by omega) (by omega) hk
  rw [show ((0 : Nat) : Int) = 0 from rfl] at h
  exact h
end Go.Proofs.Ytfoaeigoajooeaa.Z
/- Cells of rows,copies,and whether rows can be. -/
namespace Go.Proofs.Ytfoaeigoajooeaa.Z
open Go.RowKit Go.Proofs.YtfoaeigoajooeaaW.PrintWords Go.Proofs.YtfoaeigoajooeaaW.PrintLast Go.Proofs.YtfoaeigoajooeaaW.PrintMore Go.Proofs.Ytfoaeigoajooeaa.Cmp
theorem of_f (x : List S50) (hx : x.length < 3518437208883) : row_Of.f x = some x := by
  unfold row_Of.f slices_Clone.f
  simp only [Option.bind_some,List.length_nil,Nat.zero_add,List.nil_append]
  rw [if_pos hx]
  rfl
/-- Can a value be? -/
def vright (a : S50) : Bool := if a.f0 = 0 then !a.f1 && (a.f2 == 0 && a.f3.toList == ([] : List UInt8)) else if a.f0 = 1 then (a.f2 == 0 && a.f3.toList == ([] : List UInt8)) else if a.f0 = 2 then (!a.f1 && a.f3.toList == ([] : List UInt8)) else if a.f0 = 3 then (!a.f1 && (a.f2 == 0 && decide (a.f3.size ≤ 60))) else false
theorem vright_f (a : S50) : value_Right.f a.f0 a.f1 a.f2 a.f3 = some (vright a) := by
  unfold value_Right.f vright
  simp only [value_Null.f,value_Bool.f,value_Int.f,value_Text.f,Option.bind_some]
  by_cases k0 : a.f0 = 0
  · rw [if_pos k0,if_pos k0,k0];cases a.f1 <;> simp
  · by_cases k1 : a.f0 = 1
    · rw [if_neg k0,if_neg k0,if_pos k1,if_pos k1,k1];cases a.f1 <;> simp
    · by_cases k2 : a.f0 = 2
      · rw [if_neg k0,if_neg k0,if_neg k1,if_neg k1,if_pos k2,if_pos k2,k2];cases a.f1 <;> simp
      · by_cases k3 : a.f0 = 3
        · rw [if_neg k0,if_neg k0,if_neg k1,if_neg k1,if_neg k2,if_neg k2,if_pos k3,if_pos k3,k3]
          cases a.f1 <;> simp
          · by_cases h : a.f2 = 0
            · rw [if_pos h]
              simp [h]
              omega
            · rw [if_neg h]
              simp [h]
        · rw [if_neg k0,if_neg k0,if_neg k1,if_neg k1,if_neg k2,if_neg k2,if_neg k3,if_neg k3]
theorem vright_ref (a : S50) : verdererref01_Right.f a.f0 a.f1 a.f2 a.f3 = some (vright a) := by
  have he : a.f3.toList = [] → a.f3.size = 0 := fun h => by have := data_length a.f3;rw [show a.f3.data.toList = a.f3.toList from by rw [ByteArray.toList_eq]] at this;rw [← this,h];rfl
  unfold verdererref01_Right.f vright
  by_cases kl : a.f0 < 0
  · rw [if_pos kl,if_neg (by omega),if_neg (by omega),if_neg (by omega),if_neg (by omega)]
  · by_cases kg : a.f0 > 3
    · rw [if_neg kl,if_pos kg,if_neg (by omega),if_neg (by omega),if_neg (by omega),if_neg (by omega)]
    · rw [if_neg kl,if_neg kg]
      by_cases ht : a.f3.toList = []
      · have hs := he ht
        by_cases k1 : a.f0 = 1
        · rw [if_pos k1,if_neg (show ¬ a.f0 = 2 by omega),if_neg (show ¬ a.f0 = 3 by omega),if_neg (show ¬ a.f0 = 0 by omega),if_pos k1]
          by_cases h2 : a.f2 = 0 <;> simp [h2,ht,hs]
        · by_cases k2 : a.f0 = 2
          · rw [if_neg k1,if_pos k2,if_neg (show ¬ a.f0 = 3 by omega),if_neg (show ¬ a.f0 = 0 by omega),if_neg k1,if_pos k2]
            cases a.f1 <;> simp [ht,hs]
          · rw [if_neg k1,if_neg k2]
            by_cases k3 : a.f0 = 3
            · rw [if_neg (show ¬ a.f0 = 0 by omega),if_neg k1,if_neg k2,if_pos k3,if_pos k3]
              cases a.f1 <;> by_cases h2 : a.f2 = 0 <;> simp [h2,hs]
            · rw [if_pos (show a.f0 = 0 by omega),if_neg k3]
              cases a.f1 <;> by_cases h2 : a.f2 = 0 <;> simp [h2,ht,hs]
      · by_cases k1 : a.f0 = 1
        · rw [if_pos k1,if_neg (show ¬ a.f0 = 2 by omega),if_neg (show ¬ a.f0 = 3 by omega),if_neg (show ¬ a.f0 = 0 by omega),if_pos k1]
          by_cases h2 : a.f2 = 0 <;> simp [h2,ht]
        · by_cases k2 : a.f0 = 2
          · rw [if_neg k1,if_pos k2,if_neg (show ¬ a.f0 = 3 by omega),if_neg (show ¬ a.f0 = 0 by omega),if_neg k1,if_pos k2]
            cases a.f1 <;> simp [ht]
          · rw [if_neg k1,if_neg k2]
            by_cases k3 : a.f0 = 3
            · rw [if_neg (show ¬ a.f0 = 0 by omega),if_neg k1,if_neg k2,if_pos k3,if_pos k3]
              cases a.f1 <;> by_cases h2 : a.f2 = 0 <;> simp [h2]
              omega
            · rw [if_pos (show a.f0 = 0 by omega),if_neg k3]
              cases a.f1 <;> by_cases h2 : a.f2 = 0 <;> simp [h2,ht]
theorem right1_f (a : S50) : row_Right_1.f a.f0 a.f1 a.f2 a.f3 = some (!vright a) := by
  unfold row_Right_1.f
  rw [vright_f]
  rfl
def rright (r : List S50) : Bool := decide (r.length ≤ 40) && r.all vright
theorem indexFunc_l0 (x : List S50) (hl : x.length ≤ 9223372036854775807) : ∀ d i k,x.length - i = d → i ≤ x.length → d < k → ∃ r,slices_IndexFunc.l0 k x (x.length : Int) (i : Int) = some r ∧ decide (r ≥ 0) = !((x.drop i).all vright) := by
  intro d
  induction d with
  | zero =>
    intro i k hd hi hk
    obtain ⟨k,rfl⟩ : ∃ m,k = m + 1 := ⟨k - 1,by omega⟩
    refine ⟨-1,?_,?_⟩
    · simp only [slices_IndexFunc.l0]
      rw [if_neg (by omega)]
    · rw [List.drop_eq_nil_of_le (by omega)];rfl
  | succ d ih =>
    intro i k hd hi hk
    obtain ⟨k,rfl⟩ : ∃ m,k = m + 1 := ⟨k - 1,by omega⟩
    have hlt : i < x.length := by omega
    simp only [slices_IndexFunc.l0]
    rw [if_pos (by omega),if_pos (by omega),if_pos (by omega),right1_f,Option.bind_some,drop_rd hlt,List.all_cons]
    cases hv : vright (rd_T50 x i) with
    | false =>
      refine ⟨(i : Int),?_,?_⟩
      · rfl
      · simp
    | true =>
      simp only [Bool.not_true,Bool.false_eq_true,if_false,Bool.true_and]
      rw [wrap_succ hlt hl]
      exact ih (i + 1) k (by omega) (by omega) (by omega)
theorem rright_f (r : List S50) (k : Nat) (hk : 40 < k) : row_Right.f k r = some (rright r) := by
  unfold row_Right.f rright slices_ContainsFunc.f slices_IndexFunc.f
  by_cases h : r.length ≤ 40
  · obtain ⟨q,h1,h2⟩ := indexFunc_l0 r (by omega) r.length 0 k (by omega) (by omega) (by omega)
    rw [show ((0 : Nat) : Int) = 0 from rfl] at h1
    rw [if_pos (by omega),h1]
    simp only [Option.bind_some,h2]
    simp [h]
  · rw [if_neg (by omega)]
    simp [h]
theorem refRight_l0 (x : List S50) (hl : x.length ≤ 9223372036854775807) : ∀ d i k,x.length - i = d → i ≤ x.length → d < k → verdererref02_Right.l0 k x (i : Int) = some ((x.drop i).all vright) := by
  intro d
  induction d with
  | zero =>
    intro i k hd hi hk
    obtain ⟨k,rfl⟩ : ∃ m,k = m + 1 := ⟨k - 1,by omega⟩
    simp only [verdererref02_Right.l0]
    rw [if_neg (by omega),List.drop_eq_nil_of_le (by omega)]
    rfl
  | succ d ih =>
    intro i k hd hi hk
    obtain ⟨k,rfl⟩ : ∃ m,k = m + 1 := ⟨k - 1,by omega⟩
    have hlt : i < x.length := by omega
    simp only [verdererref02_Right.l0]
    rw [if_pos (by omega),if_pos (by omega),vright_ref,Option.bind_some,drop_rd hlt,List.all_cons]
    cases vright (rd_T50 x i) with
    | false => rfl
    | true =>
      simp only [if_true,Bool.true_and]
      rw [wrap_succ hlt hl]
      exact ih (i + 1) k (by omega) (by omega) (by omega)
theorem rright_ref (r : List S50) (k : Nat) (hk : 40 < k) : verdererref02_Right.f k r = some (rright r) := by
  unfold verdererref02_Right.f rright
  by_cases h : r.length ≤ 40
  · have h1 := refRight_l0 r (by omega) r.length 0 k (by omega) (by omega) (by omega)
    rw [show ((0 : Nat) : Int) = 0 from rfl] at h1
    rw [if_neg (by omega),h1]
    simp [h]
  · rw [if_pos (by omega)]
    simp [h]
end Go.Proofs.Ytfoaeigoajooeaa.Z
/- Values and rows as bytes: what pack.Row and the document's own Row answer. -/
namespace Go.Proofs.Ytfoaeigoajooeaa.Z
open Go.RowKit Go.Proofs.YtfoaeigoajooeaaW.PrintWords Go.Proofs.YtfoaeigoajooeaaW.PrintLast Go.Proofs.YtfoaeigoajooeaaW.PrintMore Go.Proofs.Ytfoaeigoajooeaa.Cmp
theorem xor_top_lo {m : Nat} (h : m < 9223372036854775808) : m ^^^ 9223372036854775808 = m + 9223372036854775808 := by
  have e : 9223372036854775808 + m = 9223372036854775808 ||| m := Nat.two_pow_add_eq_or_of_lt (i := 63) (b := m) (by omega) 1
  rw [Nat.add_comm,e]
  apply Nat.eq_of_testBit_eq
  intro i
  rw [Nat.testBit_xor,Nat.testBit_or,show (9223372036854775808 : Nat) = 2 ^ 63 from rfl,Nat.testBit_two_pow]
  by_cases hi : 63 = i
  · subst hi
    simp [Nat.testBit_lt_two_pow (show m < 2 ^ 63 by omega)]
  · simp [hi]
theorem xor_top {n : Nat} (h : n < 18446744073709551616) : n ^^^ 9223372036854775808 = (n + 9223372036854775808) % 18446744073709551616 := by
  rcases Nat.lt_or_ge n 9223372036854775808 with h1 | h1
  · rw [xor_top_lo h1];omega
  · obtain ⟨m,rfl⟩ : ∃ m,n = m + 9223372036854775808 := ⟨n - 9223372036854775808,by omega⟩
    rw [← xor_top_lo (show m < 9223372036854775808 by omega),Nat.xor_assoc,Nat.xor_self,Nat.xor_zero,xor_top_lo (show m < 9223372036854775808 by omega)]
    omega
/-- A number of 64 bits behind the turning of its first bit. -/
def turn (x : Int) : Int := (x + 9223372036854775808) % 18446744073709551616
theorem turn_xor (x : Int) : Go.bits .xor .u64 (IntKind.u64.wrap x) 9223372036854775808 = turn x := by
  rw [Go.IntKind.wrap_u64]
  obtain ⟨n,hn⟩ : ∃ n : Nat,x % 18446744073709551616 = n := ⟨(x % 18446744073709551616).toNat,by omega⟩
  have hlt : n < 18446744073709551616 := by omega
  rw [hn,show (9223372036854775808 : Int) = ((9223372036854775808 : Nat) : Int) from rfl,Go.bits_xor_u64_nat n _ hlt (by decide),xor_top hlt]
  unfold turn
  omega
theorem turn_wrap (x : Int) : IntKind.u64.wrap (IntKind.u64.wrap x + 9223372036854775808) = turn x := by
  rw [Go.IntKind.wrap_u64,Go.IntKind.wrap_u64]
  unfold turn
  omega
theorem shr_at (X : Int) (i : Nat) (h : i ≤ 64) : shr .u64 X (i : Int) = X / 2 ^ i := by
  unfold shr
  rw [show ((i : Int)).toNat = i from rfl,show IntKind.u64.bits = 64 from rfl,Nat.min_eq_left h]
/-- A number's eight bytes. -/
def eight (X : Int) : List Int := [X / 72057594037927936 % 256,X / 281474976710656 % 256,X / 1099511627776 % 256,X / 4294967296 % 256,X / 16777216 % 256,X / 65536 % 256,X / 256 % 256,X % 256]
theorem eight_shr (X : Int) : [shr .u64 X 56 % 256,shr .u64 X 48 % 256,shr .u64 X 40 % 256,shr .u64 X 32 % 256,shr .u64 X 24 % 256,shr .u64 X 16 % 256,shr .u64 X 8 % 256,shr .u64 X 0 % 256] = eight X := by
  have h := fun i h => shr_at X i h
  rw [show (56 : Int) = ((56 : Nat) : Int) from rfl,show (48 : Int) = ((48 : Nat) : Int) from rfl,show (40 : Int) = ((40 : Nat) : Int) from rfl,show (32 : Int) = ((32 : Nat) : Int) from rfl,show (24 : Int) = ((24 : Nat) : Int) from rfl,show (16 : Int) = ((16 : Nat) : Int) from rfl,show (8 : Int) = ((8 : Nat) : Int) from rfl,show (0 : Int) = ((0 : Nat) : Int) from rfl,
    h 56 (by omega),h 48 (by omega),h 40 (by omega),h 32 (by omega),h 24 (by omega),h 16 (by omega),h 8 (by omega),h 0 (by omega)]
  simp [eight]
theorem num_l0 (k : Nat) (a : Int) (b : Bool) (c : Int) (d : ByteArray) : pack_Value.l0 (k + 9) [3] 7 a b c d = some (3 :: eight (turn c)) := by
  have e (n : Nat) (i j : Int) (acc : List Int) (h0 : 0 ≤ i) (h1 : wrap64 (8 * i) = j) (h2 : 0 ≤ j) (hl : acc.length ≤ 20) (h3 : wrap64 (i - 1) = i - 1) : pack_Value.l0 (n + 1) acc i a b c d = pack_Value.l0 n (acc ++ [shr .u64 (turn c) j % 256]) (i - 1) a b c d := by
    simp only [pack_Value.l0]
    rw [if_pos (by omega),h1,if_pos h2,if_pos (by omega),turn_xor,h3]
  rw [e (k + 8) 7 56 _ (by decide +kernel) (by decide +kernel) (by decide +kernel) (by simp) (by decide +kernel),show (7 : Int) - 1 = 6 from rfl,
    e (k + 7) 6 48 _ (by decide +kernel) (by decide +kernel) (by decide +kernel) (by simp) (by decide +kernel),show (6 : Int) - 1 = 5 from rfl,
    e (k + 6) 5 40 _ (by decide +kernel) (by decide +kernel) (by decide +kernel) (by simp) (by decide +kernel),show (5 : Int) - 1 = 4 from rfl,
    e (k + 5) 4 32 _ (by decide +kernel) (by decide +kernel) (by decide +kernel) (by simp) (by decide +kernel),show (4 : Int) - 1 = 3 from rfl,
    e (k + 4) 3 24 _ (by decide +kernel) (by decide +kernel) (by decide +kernel) (by simp) (by decide +kernel),show (3 : Int) - 1 = 2 from rfl,
    e (k + 3) 2 16 _ (by decide +kernel) (by decide +kernel) (by decide +kernel) (by simp) (by decide +kernel),show (2 : Int) - 1 = 1 from rfl,
    e (k + 2) 1 8 _ (by decide +kernel) (by decide +kernel) (by decide +kernel) (by simp) (by decide +kernel),show (1 : Int) - 1 = 0 from rfl,
    e (k + 1) 0 0 _ (by decide +kernel) (by decide +kernel) (by decide +kernel) (by simp) (by decide +kernel),show (0 : Int) - 1 = -1 from rfl]
  simp only [pack_Value.l0]
  rw [if_neg (by decide),← eight_shr]
  rfl
theorem numR_l0 (k : Nat) (X : Int) : verdererref04_Value.l0 (k + 9) X [3] 7 = some (3 :: eight X) := by
  have e (n : Nat) (i j : Int) (acc : List Int) (h0 : 0 ≤ i) (h1 : IntKind.u64.wrap (wrap64 (8 * i)) = j) (h2 : 0 ≤ j) (hl : acc.length ≤ 20) (h3 : wrap64 (i - 1) = i - 1) : verdererref04_Value.l0 (n + 1) X acc i = verdererref04_Value.l0 n X (acc ++ [shr .u64 X j % 256]) (i - 1) := by
    simp only [verdererref04_Value.l0]
    rw [if_pos (by omega),h1,if_pos h2,if_pos (by omega),h3]
  rw [e (k + 8) 7 56 _ (by decide +kernel) (by decide +kernel) (by decide +kernel) (by simp) (by decide +kernel),show (7 : Int) - 1 = 6 from rfl,
    e (k + 7) 6 48 _ (by decide +kernel) (by decide +kernel) (by decide +kernel) (by simp) (by decide +kernel),show (6 : Int) - 1 = 5 from rfl,
    e (k + 6) 5 40 _ (by decide +kernel) (by decide +kernel) (by decide +kernel) (by simp) (by decide +kernel),show (5 : Int) - 1 = 4 from rfl,
    e (k + 5) 4 32 _ (by decide +kernel) (by decide +kernel) (by decide +kernel) (by simp) (by decide +kernel),show (4 : Int) - 1 = 3 from rfl,
    e (k + 4) 3 24 _ (by decide +kernel) (by decide +kernel) (by decide +kernel) (by simp) (by decide +kernel),show (3 : Int) - 1 = 2 from rfl,
    e (k + 3) 2 16 _ (by decide +kernel) (by decide +kernel) (by decide +kernel) (by simp) (by decide +kernel),show (2 : Int) - 1 = 1 from rfl,
    e (k + 2) 1 8 _ (by decide +kernel) (by decide +kernel) (by decide +kernel) (by simp) (by decide +kernel),show (1 : Int) - 1 = 0 from rfl,
    e (k + 1) 0 0 _ (by decide +kernel) (by decide +kernel) (by decide +kernel) (by simp) (by decide +kernel),show (0 : Int) - 1 = -1 from rfl]
  simp only [verdererref04_Value.l0]
  rw [if_neg (by decide),← eight_shr]
  rfl
/-- A text's bytes,each 0 with 255 behind it. -/
def esc : List UInt8 → List Int
  | [] => []
  | b :: bs => (if b.toNat = 0 then [0,255] else [(b.toNat : Int)]) ++ esc bs
theorem esc_len : ∀ l : List UInt8,(esc l).length ≤ 2 * l.length := by
  intro l
  induction l with
  | nil => simp [esc]
  | cons b bs ih =>
    simp only [esc,List.length_append,List.length_cons]
    split <;> simp <;> omega
theorem txt_l1 (s : ByteArray) (hs : s.size ≤ 1000) (a : Int) (b : Bool) (c : Int) : ∀ d i k (acc : List Int),s.size - i = d → i ≤ s.size → acc.length ≤ 2 * i + 1 → d < k → pack_Value.l1 k acc (s.size : Int) (i : Int) a b c s = some (acc ++ (esc (s.data.toList.drop i) ++ [0,1])) := by
  intro d
  induction d with
  | zero =>
    intro i k acc hd hi ha hk
    obtain ⟨k,rfl⟩ : ∃ m,k = m + 1 := ⟨k - 1,by omega⟩
    simp only [pack_Value.l1]
    rw [if_neg (by omega),List.drop_eq_nil_of_le (by simp;omega)]
    simp only [Option.bind_some,esc,List.nil_append]
    rw [if_pos (by simp;omega)]
  | succ d ih =>
    intro i k acc hd hi ha hk
    obtain ⟨k,rfl⟩ : ∃ m,k = m + 1 := ⟨k - 1,by omega⟩
    have hlt : i < s.size := by omega
    simp only [pack_Value.l1]
    rw [if_pos (by omega),if_pos (by omega),if_pos (by omega),if_pos (by omega),Option.bind_some,bt_get hlt,bytes_drop hlt,wrap_succ hlt (by omega)]
    simp only [esc]
    by_cases h0 : (s.data.toList[i]'(by simpa using hlt)).toNat = 0
    · rw [if_pos (by omega),if_pos (by simp;omega),if_pos h0,ih (i + 1) k _ (by omega) (by omega) (by simp;omega) (by omega),h0]
      simp
    · rw [if_neg (by omega),if_neg h0,ih (i + 1) k _ (by omega) (by omega) (by simp;omega) (by omega)]
      simp
theorem txtR_l1 (s : ByteArray) (hs : s.size ≤ 1000) (a : Int) (b : Bool) (c : Int) : ∀ d i k (acc : List Int),s.size - i = d → i ≤ s.size → acc.length ≤ 2 * i + 1 → d < k → verdererref04_Value.l1 k acc (i : Int) a b c s = some (acc ++ (esc (s.data.toList.drop i) ++ [0,1])) := by
  intro d
  induction d with
  | zero =>
    intro i k acc hd hi ha hk
    obtain ⟨k,rfl⟩ : ∃ m,k = m + 1 := ⟨k - 1,by omega⟩
    simp only [verdererref04_Value.l1]
    rw [if_neg (by omega),List.drop_eq_nil_of_le (by simp;omega)]
    simp only [Option.bind_some,esc,List.nil_append]
    rw [if_pos (by simp;omega)]
  | succ d ih =>
    intro i k acc hd hi ha hk
    obtain ⟨k,rfl⟩ : ∃ m,k = m + 1 := ⟨k - 1,by omega⟩
    have hlt : i < s.size := by omega
    simp only [verdererref04_Value.l1]
    rw [if_pos (by omega),if_pos (by omega),if_pos (by omega),Option.bind_some,bt_get hlt,bytes_drop hlt,wrap_succ hlt (by omega)]
    simp only [esc]
    by_cases h0 : (s.data.toList[i]'(by simpa using hlt)).toNat = 0
    · rw [if_pos (by omega),if_pos (by simp;omega),if_pos h0,ih (i + 1) k _ (by omega) (by omega) (by simp;omega) (by omega),h0]
      simp
    · rw [if_neg (by omega),if_neg h0,ih (i + 1) k _ (by omega) (by omega) (by simp;omega) (by omega)]
      simp
/-- A value that can be,as bytes. -/
def encG (v : S50) : List Int := if v.f0 = 1 then [2,b2i v.f1] else if v.f0 = 2 then 3 :: eight (turn v.f2) else if v.f0 = 3 then 4 :: (esc v.f3.data.toList ++ [0,1]) else [1]
/-- A value as bytes. -/
def encV (v : S50) : List Int := if vright v = true then encG v else []
theorem encG_len {v : S50} {M : Nat} (h : v.f3.size ≤ M) : (encG v).length ≤ 2 * M + 9 := by
  unfold encG
  have := esc_len v.f3.data.toList
  rw [data_length] at this
  repeat' split
  all_goals simp [eight]
  all_goals omega
theorem encV_len {v : S50} {M : Nat} (h : v.f3.size ≤ M) : (encV v).length ≤ 2 * M + 9 := by
  unfold encV
  split
  · exact encG_len h
  · simp
theorem packValue_f (v : S50) (hs : v.f3.size ≤ 500) (k : Nat) (hk : 510 ≤ k) : pack_Value.f k v.f0 v.f1 v.f2 v.f3 = some (encV v) := by
  unfold pack_Value.f encV encG
  rw [vright_f,Option.bind_some]
  by_cases h : vright v = true
  · rw [if_pos h,if_pos h]
    by_cases h1 : v.f0 = 1
    · rw [if_pos h1,if_pos h1]
      cases v.f1 <;> rfl
    · by_cases h2 : v.f0 = 2
      · obtain ⟨k,rfl⟩ : ∃ m,k = m + 9 := ⟨k - 9,by omega⟩
        rw [if_neg h1,if_neg h1,if_pos h2,if_pos h2,num_l0]
      · by_cases h3 : v.f0 = 3
        · have ht := txt_l1 v.f3 (by omega) v.f0 v.f1 v.f2 v.f3.size 0 k [4] (by omega) (by omega) (by simp) (by omega)
          rw [show ((0 : Nat) : Int) = 0 from rfl] at ht
          rw [if_neg h1,if_neg h1,if_neg h2,if_neg h2,if_pos h3,if_pos h3,ht]
          rfl
        · rw [if_neg h1,if_neg h1,if_neg h2,if_neg h2,if_neg h3,if_neg h3]
  · rw [if_neg h,if_neg h]
theorem refValue_f (v : S50) (hs : v.f3.size ≤ 500) (k : Nat) (hk : 510 ≤ k) : verdererref04_Value.f k v.f0 v.f1 v.f2 v.f3 = some (encV v) := by
  unfold verdererref04_Value.f encV encG
  rw [vright_ref,Option.bind_some]
  by_cases h : vright v = true
  · rw [if_pos h,if_pos h]
    by_cases h0 : v.f0 = 0
    · rw [if_pos h0,if_neg (by omega),if_neg (by omega),if_neg (by omega)]
    · by_cases h1 : v.f0 = 1
      · rw [if_neg h0,if_pos h1,if_pos h1]
        cases v.f1 <;> rfl
      · by_cases h2 : v.f0 = 2
        · obtain ⟨k,rfl⟩ : ∃ m,k = m + 9 := ⟨k - 9,by omega⟩
          rw [if_neg h0,if_neg h1,if_neg h1,if_pos h2,if_pos h2,turn_wrap,numR_l0]
        · have h3 : v.f0 = 3 := by
            unfold vright at h
            rw [if_neg h0,if_neg h1,if_neg h2] at h
            by_cases h3 : v.f0 = 3
            · exact h3
            · rw [if_neg h3] at h;cases h
          have ht := txtR_l1 v.f3 (by omega) v.f0 v.f1 v.f2 v.f3.size 0 k [4] (by omega) (by omega) (by simp) (by omega)
          rw [show ((0 : Nat) : Int) = 0 from rfl] at ht
          rw [if_neg h0,if_neg h1,if_neg h1,if_neg h2,if_neg h2,if_pos h3,ht]
          rfl
  · rw [if_neg h,if_neg h]
/-- Values as bytes,behind some;none if one cannot be. -/
def encR : List S50 → List Int → List Int
  | [],acc => acc ++ [0]
  | v :: vs,acc => if ((encV v).length : Int) = 0 then [] else encR vs (acc ++ encV v)
theorem packRow_l0 (r : List S50) (hl : r.length ≤ 100) (hs : ∀ v ∈ r,v.f3.size ≤ 500) : ∀ d i k (acc : List Int),r.length - i = d → i ≤ r.length → acc.length ≤ 1009 * i → d + 510 < k → pack_Row.l0 k acc r (r.length : Int) (i : Int) = some (encR (r.drop i) acc) := by
  intro d
  induction d with
  | zero =>
    intro i k acc hd hi ha hk
    obtain ⟨k,rfl⟩ : ∃ m,k = m + 1 := ⟨k - 1,by omega⟩
    simp only [pack_Row.l0]
    rw [if_neg (by omega),List.drop_eq_nil_of_le (by omega),if_pos (by omega)]
    rfl
  | succ d ih =>
    intro i k acc hd hi ha hk
    obtain ⟨k,rfl⟩ : ∃ m,k = m + 1 := ⟨k - 1,by omega⟩
    have hlt : i < r.length := by omega
    have hv : (rd_T50 r (i : Int)).f3.size ≤ 500 := by rw [rd_get hlt];exact hs _ (List.getElem_mem hlt)
    have hlen := encV_len hv
    simp only [pack_Row.l0]
    rw [if_pos (by omega),if_pos (by omega),if_pos (by omega),packValue_f _ hv k (by omega),Option.bind_some,drop_rd hlt]
    simp only [encR]
    by_cases h0 : ((encV (rd_T50 r (i : Int))).length : Int) = 0
    · rw [if_pos h0,if_pos h0]
    · rw [if_neg h0,if_neg h0,if_pos (by omega),wrap_succ hlt (by omega)]
      exact ih (i + 1) k _ (by omega) (by omega) (by simp;omega) (by omega)
theorem packRow_f (r : List S50) (hl : r.length ≤ 100) (hs : ∀ v ∈ r,v.f3.size ≤ 500) (k : Nat) (hk : 611 ≤ k) : pack_Row.f k r = some (encR r []) := by
  have h := packRow_l0 r hl hs r.length 0 k [] (by omega) (by omega) (by simp) (by omega)
  rw [show ((0 : Nat) : Int) = 0 from rfl] at h
  exact h
theorem refRow_l0 (r : List S50) (hl : r.length ≤ 100) (hs : ∀ v ∈ r,v.f3.size ≤ 500) : ∀ d i k (acc : List Int),r.length - i = d → i ≤ r.length → acc.length ≤ 1009 * i → d + 510 < k → verdererref04_Row.l0 k r acc (i : Int) = some (encR (r.drop i) acc) := by
  intro d
  induction d with
  | zero =>
    intro i k acc hd hi ha hk
    obtain ⟨k,rfl⟩ : ∃ m,k = m + 1 := ⟨k - 1,by omega⟩
    simp only [verdererref04_Row.l0]
    rw [if_neg (by omega),List.drop_eq_nil_of_le (by omega),if_pos (by omega)]
    rfl
  | succ d ih =>
    intro i k acc hd hi ha hk
    obtain ⟨k,rfl⟩ : ∃ m,k = m + 1 := ⟨k - 1,by omega⟩
    have hlt : i < r.length := by omega
    have hv : (rd_T50 r (i : Int)).f3.size ≤ 500 := by rw [rd_get hlt];exact hs _ (List.getElem_mem hlt)
    have hlen := encV_len hv
    simp only [verdererref04_Row.l0]
    rw [if_pos (by omega),if_pos (by omega),refValue_f _ hv k (by omega),Option.bind_some,drop_rd hlt]
    simp only [encR]
    by_cases h0 : ((encV (rd_T50 r (i : Int))).length : Int) = 0
    · rw [if_pos h0,if_pos h0]
    · rw [if_neg h0,if_neg h0,if_pos (by omega),wrap_succ hlt (by omega)]
      exact ih (i + 1) k _ (by omega) (by omega) (by simp;omega) (by omega)
theorem refRow_f (r : List S50) (hl : r.length ≤ 100) (hs : ∀ v ∈ r,v.f3.size ≤ 500) (k : Nat) (hk : 611 ≤ k) : verdererref04_Row.f k r = some (encR r []) := by
  have h := refRow_l0 r hl hs r.length 0 k [] (by omega) (by omega) (by simp) (by omega)
  rw [show ((0 : Nat) : Int) = 0 from rfl] at h
  exact h
/-- Is a row short? -/
theorem few_l0 (r : List S50) (hl : r.length ≤ 100) : ∀ d i k,r.length - i = d → i ≤ r.length → d < k → verdererlaw04_few.l0 k r (i : Int) = some ((r.drop i).all fun v => decide (v.f3.size ≤ 500)) := by
  intro d
  induction d with
  | zero =>
    intro i k hd hi hk
    obtain ⟨k,rfl⟩ : ∃ m,k = m + 1 := ⟨k - 1,by omega⟩
    simp only [verdererlaw04_few.l0]
    rw [if_neg (by omega),List.drop_eq_nil_of_le (by omega)]
    rfl
  | succ d ih =>
    intro i k hd hi hk
    obtain ⟨k,rfl⟩ : ∃ m,k = m + 1 := ⟨k - 1,by omega⟩
    have hlt : i < r.length := by omega
    simp only [verdererlaw04_few.l0]
    rw [if_pos (by omega),if_pos (by omega),drop_rd hlt,List.all_cons]
    by_cases h : ((rd_T50 r (i : Int)).f3.size : Int) > 500
    · rw [if_pos h,decide_eq_false (by omega)]
      rfl
    · rw [if_neg h,decide_eq_true (by omega),wrap_succ hlt (by omega),ih (i + 1) k (by omega) (by omega) (by omega)]
      rfl
theorem few_f (r : List S50) (k : Nat) (hk : 101 ≤ k) : verdererlaw04_few.f k r = some false ∨ (verdererlaw04_few.f k r = some true ∧ r.length ≤ 100 ∧ ∀ v ∈ r,v.f3.size ≤ 500) := by
  unfold verdererlaw04_few.f
  by_cases h : (r.length : Int) > 100
  · rw [if_pos h];exact .inl rfl
  · have hf := few_l0 r (by omega) r.length 0 k (by omega) (by omega) (by omega)
    rw [show ((0 : Nat) : Int) = 0 from rfl,List.drop_zero] at hf
    rw [if_neg h,hf]
    cases hb : (r.all fun v => decide (v.f3.size ≤ 500)) with
    | false => exact .inl rfl
    | true => exact .inr ⟨rfl,by omega,fun v hv => of_decide_eq_true (List.all_eq_true.1 hb v hv)⟩
end Go.Proofs.Ytfoaeigoajooeaa.Z
/- The bytes of rows are in the rows' order. -/
namespace Go.Proofs.Ytfoaeigoajooeaa.Z
open Go.RowKit Go.Proofs.YtfoaeigoajooeaaW.PrintWords Go.Proofs.YtfoaeigoajooeaaW.PrintLast Go.Proofs.YtfoaeigoajooeaaW.PrintMore Go.Proofs.Ytfoaeigoajooeaa.Cmp
theorem lexC_cons {α : Type} (c : α → α → Int) (x y : α) (xs ys : List α) : lexC c (x :: xs) (y :: ys) = if c x y = 0 then lexC c xs ys else c x y := rfl
theorem cmpI_digits {h h' l l' : Int} (h0 : 0 ≤ l) (h1 : l < 256) (h2 : 0 ≤ l') (h3 : l' < 256) : (if cmpI h h' = 0 then cmpI l l' else cmpI h h') = cmpI (256 * h + l) (256 * h' + l') := by
  unfold cmpI
  repeat' split
  all_goals omega
theorem ite_ite (a b c : Int) : (if a = 0 then (if b = 0 then c else b) else a) = (if (if a = 0 then b else a) = 0 then c else (if a = 0 then b else a)) := by
  by_cases h : a = 0
  · simp [h]
  · simp [h]
theorem eight_cmp {X Y : Int} (hX : 0 ≤ X) (hX1 : X < 18446744073709551616) (hY : 0 ≤ Y) (hY1 : Y < 18446744073709551616) (s t : List Int) : lexC cmpI (eight X ++ s) (eight Y ++ t) = if cmpI X Y = 0 then lexC cmpI s t else cmpI X Y := by
  have st (n : Int) (hn : 0 < n) (A B : Int) : (if cmpI (A / (n * 256)) (B / (n * 256)) = 0 then cmpI (A / n % 256) (B / n % 256) else cmpI (A / (n * 256)) (B / (n * 256))) = cmpI (A / n) (B / n) := by
    rw [cmpI_digits (by omega) (by omega) (by omega) (by omega),← Int.ediv_ediv_of_nonneg (by omega),← Int.ediv_ediv_of_nonneg (by omega)]
    congr 1 <;> omega
  unfold eight
  simp only [List.cons_append,List.nil_append,lexC_cons,ite_ite]
  have e7 (A : Int) (h0 : 0 ≤ A) (h1 : A < 18446744073709551616) : A / 72057594037927936 % 256 = A / 72057594037927936 := by omega
  rw [e7 X hX hX1,e7 Y hY hY1]
  have s6 := st 281474976710656 (by decide) X Y
  have s5 := st 1099511627776 (by decide) X Y
  have s4 := st 4294967296 (by decide) X Y
  have s3 := st 16777216 (by decide) X Y
  have s2 := st 65536 (by decide) X Y
  have s1 := st 256 (by decide) X Y
  have s0 := st 1 (by decide) X Y
  simp only [show (281474976710656 : Int) * 256 = 72057594037927936 from rfl,show (1099511627776 : Int) * 256 = 281474976710656 from rfl,show (4294967296 : Int) * 256 = 1099511627776 from rfl,show (16777216 : Int) * 256 = 4294967296 from rfl,show (65536 : Int) * 256 = 16777216 from rfl,show (256 : Int) * 256 = 65536 from rfl,show (1 : Int) * 256 = 256 from rfl,Int.ediv_one] at s6 s5 s4 s3 s2 s1 s0
  rw [s6,s5,s4,s3,s2,s1,s0]
theorem turn_cmp {x y : Int} (hx : -9223372036854775808 ≤ x ∧ x ≤ 9223372036854775807) (hy : -9223372036854775808 ≤ y ∧ y ≤ 9223372036854775807) : cmpI (turn x) (turn y) = cmpI x y := by
  unfold turn cmpI
  have e1 : (x + 9223372036854775808) % 18446744073709551616 = x + 9223372036854775808 := by omega
  have e2 : (y + 9223372036854775808) % 18446744073709551616 = y + 9223372036854775808 := by omega
  rw [e1,e2]
  repeat' split
  all_goals omega
theorem cmpB_cons (x y : UInt8) (xs ys : List UInt8) : cmpB (x :: xs) (y :: ys) = if cmpI x.toNat y.toNat = 0 then cmpB xs ys else cmpI x.toNat y.toNat := rfl
theorem esc_cmp (s t : List Int) : ∀ a b : List UInt8,lexC cmpI (esc a ++ [0,1] ++ s) (esc b ++ [0,1] ++ t) = if cmpB a b = 0 then lexC cmpI s t else cmpB a b := by
  intro a
  induction a with
  | nil =>
    intro b
    cases b with
    | nil => rfl
    | cons y ys =>
      have e : cmpB [] (y :: ys) = -1 := rfl
      rw [e,if_neg (by decide)]
      simp only [esc]
      by_cases hy : y.toNat = 0
      · rw [if_pos hy];rfl
      · rw [if_neg hy]
        simp only [List.nil_append,List.cons_append,lexC_cons]
        have h1 : cmpI 0 (y.toNat : Int) = -1 := by unfold cmpI;rw [if_pos (by omega)]
        rw [h1,if_neg (by decide)]
  | cons x xs ih =>
    intro b
    cases b with
    | nil =>
      have e : cmpB (x :: xs) [] = 1 := rfl
      rw [e,if_neg (by decide)]
      simp only [esc]
      by_cases hx : x.toNat = 0
      · rw [if_pos hx];rfl
      · rw [if_neg hx]
        simp only [List.nil_append,List.cons_append,lexC_cons]
        have h1 : cmpI (x.toNat : Int) 0 = 1 := by unfold cmpI;rw [if_neg (by omega),if_pos (by omega)]
        rw [h1,if_neg (by decide)]
    | cons y ys =>
      rw [cmpB_cons]
      simp only [esc]
      by_cases hx : x.toNat = 0
      · rw [if_pos hx]
        by_cases hy : y.toNat = 0
        · rw [if_pos hy,hx,hy]
          simp only [List.nil_append,List.cons_append,lexC_cons,List.append_assoc]
          have z : ∀ n : Int,cmpI n n = 0 := fun n => cmpI_law.self n
          rw [show ((0 : Nat) : Int) = 0 from rfl,z 0,z 255,if_pos rfl,if_pos rfl,if_pos rfl]
          have := ih ys
          simp only [List.append_assoc,List.cons_append,List.nil_append] at this
          exact this
        · rw [if_neg hy,hx]
          simp only [List.nil_append,List.cons_append,lexC_cons,List.append_assoc]
          have h1 : cmpI 0 (y.toNat : Int) = -1 := by unfold cmpI;rw [if_pos (by omega)]
          rw [show ((0 : Nat) : Int) = 0 from rfl,h1,if_neg (show ¬ ((-1 : Int) = 0) by decide),if_neg (show ¬ ((-1 : Int) = 0) by decide),if_neg (show ¬ ((-1 : Int) = 0) by decide)]
      · rw [if_neg hx]
        by_cases hy : y.toNat = 0
        · rw [if_pos hy,hy]
          simp only [List.nil_append,List.cons_append,lexC_cons,List.append_assoc]
          have h1 : cmpI (x.toNat : Int) 0 = 1 := by unfold cmpI;rw [if_neg (by omega),if_pos (by omega)]
          rw [show ((0 : Nat) : Int) = 0 from rfl,h1,if_neg (show ¬ ((1 : Int) = 0) by decide),if_neg (show ¬ ((1 : Int) = 0) by decide),if_neg (show ¬ ((1 : Int) = 0) by decide)]
        · rw [if_neg hy]
          simp only [List.nil_append,List.cons_append,lexC_cons,List.append_assoc]
          have := ih ys
          simp only [List.append_assoc,List.cons_append,List.nil_append] at this
          rw [this]
          by_cases h : cmpI (x.toNat : Int) (y.toNat : Int) = 0
          · simp [h]
          · simp [h]
theorem encG_cmp {v u : S50} (hv : vright v = true) (hu : vright u = true) (gv : -9223372036854775808 ≤ v.f2 ∧ v.f2 ≤ 9223372036854775807) (gu : -9223372036854775808 ≤ u.f2 ∧ u.f2 ≤ 9223372036854775807) (s t : List Int) : lexC cmpI (encG v ++ s) (encG u ++ t) = if vcmp v u = 0 then lexC cmpI s t else vcmp v u := by
  have hk (w : S50) (h : vright w = true) : w.f0 = 0 ∨ w.f0 = 1 ∨ w.f0 = 2 ∨ w.f0 = 3 := by
    unfold vright at h
    by_cases h0 : w.f0 = 0
    · exact .inl h0
    · by_cases h1 : w.f0 = 1
      · exact .inr (.inl h1)
      · by_cases h2 : w.f0 = 2
        · exact .inr (.inr (.inl h2))
        · by_cases h3 : w.f0 = 3
          · exact .inr (.inr (.inr h3))
          · rw [if_neg h0,if_neg h1,if_neg h2,if_neg h3] at h;cases h
  have hd (w : S50) (h : vright w = true) : ∃ q,encG w = (w.f0 + 1) :: q := by
    unfold encG
    rcases hk w h with e | e | e | e <;> rw [e] <;> exact ⟨_,rfl⟩
  by_cases he : v.f0 = u.f0
  · unfold vcmp kcmp
    rw [if_pos he]
    unfold encG
    rw [← he]
    have z : ∀ n : Int,cmpI n n = 0 := fun n => cmpI_law.self n
    by_cases h1 : v.f0 = 1
    · rw [if_pos h1,if_pos h1,if_pos h1]
      simp only [List.cons_append,List.nil_append,lexC_cons,z,if_true]
    · by_cases h2 : v.f0 = 2
      · rw [if_neg h1,if_neg h1,if_neg h1,if_pos h2,if_pos h2,if_pos h2]
        simp only [List.cons_append,lexC_cons,z,if_true]
        rw [eight_cmp (by unfold turn;omega) (by unfold turn;omega) (by unfold turn;omega) (by unfold turn;omega),turn_cmp gv gu]
      · by_cases h3 : v.f0 = 3
        · rw [if_neg h1,if_neg h1,if_neg h1,if_neg h2,if_neg h2,if_neg h2,if_pos h3,if_pos h3,if_pos h3]
          simp only [List.cons_append,lexC_cons,z,if_true]
          exact esc_cmp s t _ _
        · rw [if_neg h1,if_neg h1,if_neg h1,if_neg h2,if_neg h2,if_neg h2,if_neg h3,if_neg h3,if_neg h3]
          simp only [List.cons_append,List.nil_append,lexC_cons,z,if_true]
  · obtain ⟨p,hp⟩ := hd v hv
    obtain ⟨q,hq⟩ := hd u hu
    unfold vcmp
    rw [if_neg he,hp,hq]
    simp only [List.cons_append,lexC_cons]
    have e : cmpI (v.f0 + 1) (u.f0 + 1) = cmpI v.f0 u.f0 := by
      unfold cmpI
      repeat' split
      all_goals omega
    have n : cmpI v.f0 u.f0 ≠ 0 := fun h => he (cmpI_eq.1 h)
    rw [e,if_neg n,if_neg n]
/-- A row's bytes,all values being right. -/
def encA : List S50 → List Int
  | [] => [0]
  | v :: vs => encG v ++ encA vs
theorem encG_pos (v : S50) : ∃ x q,encG v = x :: q ∧ 1 ≤ x := by
  unfold encG
  repeat' split
  all_goals exact ⟨_,_,rfl,by omega⟩
theorem encR_cases : ∀ (r : List S50) (acc : List Int),(encR r acc = [] ∧ ∃ v ∈ r,vright v = false) ∨ (encR r acc = acc ++ encA r ∧ ∀ v ∈ r,vright v = true) := by
  intro r
  induction r with
  | nil => intro acc;exact .inr ⟨rfl,fun v hv => by cases hv⟩
  | cons v vs ih =>
    intro acc
    simp only [encR]
    cases hv : vright v with
    | false =>
      have e : encV v = [] := by unfold encV;rw [hv];rfl
      rw [e,if_pos (by simp)]
      exact .inl ⟨rfl,v,List.mem_cons_self,hv⟩
    | true =>
      have e : encV v = encG v := by unfold encV;rw [hv];rfl
      obtain ⟨x,q,hq,_⟩ := encG_pos v
      rw [e,if_neg (by rw [hq];simp;omega)]
      rcases ih (acc ++ encG v) with ⟨h1,u,hu,h2⟩ | ⟨h1,h2⟩
      · exact .inl ⟨h1,u,List.mem_cons_of_mem _ hu,h2⟩
      · refine .inr ⟨by rw [h1];simp [encA],fun u hu => ?_⟩
        rcases List.mem_cons.1 hu with rfl | hu
        · exact hv
        · exact h2 u hu
theorem encA_cmp : ∀ (a b : List S50),(∀ v ∈ a,vright v = true) → (∀ v ∈ b,vright v = true) → (∀ v ∈ a,-9223372036854775808 ≤ v.f2 ∧ v.f2 ≤ 9223372036854775807) → (∀ v ∈ b,-9223372036854775808 ≤ v.f2 ∧ v.f2 ≤ 9223372036854775807) → lexC cmpI (encA a) (encA b) = rcmp a b := by
  intro a
  induction a with
  | nil =>
    intro b _ _ _ _
    cases b with
    | nil => rfl
    | cons u us =>
      obtain ⟨x,q,hq,hx⟩ := encG_pos u
      simp only [encA]
      rw [hq,List.cons_append,lexC_cons]
      have e : cmpI 0 x = -1 := by unfold cmpI;rw [if_pos (by omega)]
      rw [e]
      rfl
  | cons v vs ih =>
    intro b ha hb ga gb
    cases b with
    | nil =>
      obtain ⟨x,q,hq,hx⟩ := encG_pos v
      simp only [encA]
      rw [hq,List.cons_append,lexC_cons]
      have e : cmpI x 0 = 1 := by unfold cmpI;rw [if_neg (by omega),if_pos (by omega)]
      rw [e]
      rfl
    | cons u us =>
      simp only [encA]
      rw [encG_cmp (ha _ List.mem_cons_self) (hb _ List.mem_cons_self) (ga _ List.mem_cons_self) (gb _ List.mem_cons_self),ih us (fun x hx => ha x (List.mem_cons_of_mem _ hx)) (fun x hx => hb x (List.mem_cons_of_mem _ hx)) (fun x hx => ga x (List.mem_cons_of_mem _ hx)) (fun x hx => gb x (List.mem_cons_of_mem _ hx))]
      rfl
def IsBytes (l : List Int) : Prop := ∀ x ∈ l,0 ≤ x ∧ x < 256
theorem esc_bytes : ∀ l : List UInt8,IsBytes (esc l) := by
  intro l
  induction l with
  | nil => intro x hx;cases hx
  | cons b bs ih =>
    intro x hx
    simp only [esc,List.mem_append] at hx
    rcases hx with hx | hx
    · have := b.toNat_lt
      split at hx
      · simp at hx;omega
      · simp at hx;omega
    · exact ih x hx
theorem encG_bytes (v : S50) : IsBytes (encG v) := by
  intro x hx
  unfold encG at hx
  by_cases h1 : v.f0 = 1
  · rw [if_pos h1] at hx
    simp [b2i] at hx
    rcases hx with hx | hx
    · omega
    · rw [hx];split <;> omega
  · by_cases h2 : v.f0 = 2
    · rw [if_neg h1,if_pos h2] at hx
      simp [eight] at hx
      omega
    · by_cases h3 : v.f0 = 3
      · rw [if_neg h1,if_neg h2,if_pos h3] at hx
        simp at hx
        rcases hx with hx | hx | hx | hx
        · omega
        · exact esc_bytes _ x hx
        · omega
        · omega
      · rw [if_neg h1,if_neg h2,if_neg h3] at hx
        simp at hx
        omega
theorem encA_bytes : ∀ r : List S50,IsBytes (encA r) := by
  intro r
  induction r with
  | nil => intro x hx;simp [encA] at hx;omega
  | cons v vs ih =>
    intro x hx
    simp only [encA,List.mem_append] at hx
    rcases hx with hx | hx
    · exact encG_bytes v x hx
    · exact ih x hx
theorem cmpB_nums : ∀ a b : List Int,IsBytes a → IsBytes b → cmpB (a.map fun n => UInt8.ofNat n.toNat) (b.map fun n => UInt8.ofNat n.toNat) = lexC cmpI a b := by
  intro a
  induction a with
  | nil => intro b _ _;cases b <;> rfl
  | cons x xs ih =>
    intro b ha hb
    cases b with
    | nil => rfl
    | cons y ys =>
      obtain ⟨h0,h1⟩ := ha x List.mem_cons_self
      obtain ⟨h2,h3⟩ := hb y List.mem_cons_self
      rw [List.map_cons,List.map_cons,cmpB_cons,lexC_cons,ih ys (fun z hz => ha z (List.mem_cons_of_mem _ hz)) (fun z hz => hb z (List.mem_cons_of_mem _ hz))]
      have e (z : Int) (g0 : 0 ≤ z) (g1 : z < 256) : (((UInt8.ofNat z.toNat).toNat : Nat) : Int) = z := by
        rw [UInt8.toNat_ofNat']
        omega
      rw [e x h0 h1,e y h2 h3]
theorem encA_len : ∀ (r : List S50),(∀ v ∈ r,v.f3.size ≤ 500) → (encA r).length ≤ 1009 * r.length + 1 := by
  intro r
  induction r with
  | nil => intro _;simp [encA]
  | cons v vs ih =>
    intro hs
    have h1 := encG_len (hs v List.mem_cons_self)
    have h2 := ih (fun u hu => hs u (List.mem_cons_of_mem _ hu))
    simp only [encA,List.length_append,List.length_cons]
    omega
end Go.Proofs.Ytfoaeigoajooeaa.Z
/- The fixed calls of chapter 4's statements come as they must. -/
namespace Go.Proofs.Ytfoaeigoajooeaa.Z
open Go.RowKit Go.Proofs.YtfoaeigoajooeaaW.PrintWords Go.Proofs.YtfoaeigoajooeaaW.PrintLast Go.Proofs.YtfoaeigoajooeaaW.PrintMore
theorem known04 (k : Nat) (hk : 60 ≤ k) : verdererlaw04_known.f k = some true := at_rounds (fun k => verdererlaw04_known.mono k) hk (by decide +kernel)
end Go.Proofs.Ytfoaeigoajooeaa.Z
/- The plain law of PackOrder. -/
namespace Go.Proofs.Ytfoaeigoajooeaa.Z
open Go.RowKit Go.Proofs.YtfoaeigoajooeaaW.PrintWords Go.Proofs.YtfoaeigoajooeaaW.PrintLast Go.Proofs.YtfoaeigoajooeaaW.PrintMore Go.Proofs.Ytfoaeigoajooeaa.Cmp
theorem packOrder_j1 (a b : List S50) (x y : List Int) (q : Bool) (k : Nat) (hk : 300000 ≤ k) (h : q = false → x.length ≤ 101000 ∧ verdererref02_Compare.f k a b = some (cmpB (strOfNums x).data.toList (strOfNums y).data.toList)) : verdererlaw04_PackOrder.j1 (k + 1) a b x y q = some true := by
  rw [verdererlaw04_PackOrder.j1]
  cases q with
  | true => simp only [if_true,known04 k (by omega),Option.bind_some]
  | false =>
    obtain ⟨h1,h2⟩ := h rfl
    simp only [Bool.false_eq_true,if_false]
    rw [text_f _ _ (by rw [strOfNums_size];omega) k (by rw [strOfNums_size];omega),h2,Option.bind_some,Option.bind_some,if_pos rfl,known04 k (by omega)]
    rfl
theorem packOrder_j0 (a b : List S50) (ga : ∀ v ∈ a,-9223372036854775808 ≤ v.f2 ∧ v.f2 ≤ 9223372036854775807) (gb : ∀ v ∈ b,-9223372036854775808 ≤ v.f2 ∧ v.f2 ≤ 9223372036854775807) (q : Bool) (h : q = false → (a.length ≤ 100 ∧ ∀ v ∈ a,v.f3.size ≤ 500) ∧ (b.length ≤ 100 ∧ ∀ v ∈ b,v.f3.size ≤ 500)) : verdererlaw04_PackOrder.j0 300002 a b q = some true := by
  rw [verdererlaw04_PackOrder.j0]
  cases q with
  | true => simp only [if_true,known04 300001 (by omega),Option.bind_some]
  | false =>
    obtain ⟨⟨ha,hsa⟩,hb,hsb⟩ := h rfl
    simp only [Bool.false_eq_true,if_false]
    rw [packRow_f a ha hsa 300001 (by omega),packRow_f b hb hsb 300001 (by omega),Option.bind_some,Option.bind_some]
    by_cases h0 : ((encR a []).length : Int) = 0
    · rw [if_pos h0]
      exact packOrder_j1 _ _ _ _ _ _ (by omega) (fun h => by cases h)
    · rw [if_neg h0]
      refine packOrder_j1 _ _ _ _ _ _ (by omega) (fun hq => ?_)
      have h1 : ¬ ((encR b []).length : Int) = 0 := fun e => by rw [e] at hq;cases hq
      rcases encR_cases a [] with ⟨e,_⟩ | ⟨ea,ra⟩
      · rw [e] at h0;exact absurd rfl h0
      rcases encR_cases b [] with ⟨e,_⟩ | ⟨eb,rb⟩
      · rw [e] at h1;exact absurd rfl h1
      rw [List.nil_append] at ea eb
      rw [ea,eb,strOfNums_data,strOfNums_data,cmpB_nums _ _ (encA_bytes a) (encA_bytes b),encA_cmp a b ra rb ga gb]
      exact ⟨by have := encA_len a hsa;omega,refCompare_f a b (by omega) 500 hsa (by omega) _ (by omega)⟩
theorem packOrder_pure : ∀ (l0 : (List S50)) (l1 : (List S50)),(l0.length ≤ maxLen ∧ ∀ x ∈ l0,G50 x) → (l1.length ≤ maxLen ∧ ∀ x ∈ l1,G50 x) → ∃ k,verdererlaw04_PackOrder.f k l0 l1 = some true := by
  intro a b ⟨_,ga⟩ ⟨_,gb⟩
  have g (l : List S50) (h : ∀ x ∈ l,G50 x) : ∀ v ∈ l,-9223372036854775808 ≤ v.f2 ∧ v.f2 ≤ 9223372036854775807 := by
    intro v hv
    have := (h v hv).2.2.1
    simp [Lit.wf,IntKind.min,IntKind.max,IntKind.signed,IntKind.bits] at this
    omega
  have ga := g a ga
  have gb := g b gb
  refine ⟨300002,?_⟩
  unfold verdererlaw04_PackOrder.f
  rcases few_f a 300002 (by omega) with h | ⟨h,ha⟩
  · rw [h,Option.bind_some,if_neg (by decide)]
    exact packOrder_j0 a b ga gb _ (fun h => by cases h)
  · rw [h,Option.bind_some,if_pos rfl]
    rcases few_f b 300002 (by omega) with h | ⟨h,hb⟩
    · rw [h,Option.bind_some]
      exact packOrder_j0 a b ga gb _ (fun h => by cases h)
    · rw [h,Option.bind_some]
      exact packOrder_j0 a b ga gb _ (fun _ => ⟨ha,hb⟩)
end Go.Proofs.Ytfoaeigoajooeaa.Z
namespace Go.Proofs.Ytfoaeigoajooeaa.packOrder
open Go.ChangeShapes Go.WideShapes Go.ChangeAt Go.RowKit Go.Proofs.YtfoaeigoajooeaaW.PrintWords
open Go.ChangeMaps (open_string shut_string)
set_option linter.unusedVariables false
theorem own : ownKnob Try.prog.godebug = none := by kernel_rfl
theorem laidOut : laidOutB Try.prog = true := by kernel_rfl
set_option maxRecDepth 100000 in
theorem lifted (os : Os) (started : os.Started) (H : Type) (enc : TypeId × Value → H) :
    ReturnsInHanded {} Try.checked os 11 .any (Rows.packOrderSpec.pre6 enc Try.prog Try.f11 Rows.packOrderRow.domain false) (Rows.packOrderSpec.post enc Try.prog Try.f11 false true false false) := by
  refine returnsInHanded_of_change (C := Try.checked) own started (by kernel_rfl) Try.func11
    (ChangeSpec.witness6 (enc := enc) (C := Try.checked) false ⟨#[],#[.slice none 0 0,.slice none 0 0],[]⟩ 8 (by kernel_rfl) (by kernel_rfl) (by kernel_rfl) (by kernel_rfl)) ?_
  intro W base args ds gs before hval0 hW hcnd _
  have hval : ∀ (j : Nat) t v,Try.f11.params[j]? = some t → args[j]? = some v → Value.okWide Try.prog W .any base t v := hval0
  have hW' := hW
  obtain ⟨p,q,hA0,hV,rfl,hfz,hnd⟩ := hW
  have hA : DataW.TrodAll enc Try.prog W 0 (fun _ => true) true Try.f11.params.toList args.toList ds p := hA0
  rw [Try.params11] at hA hval
  obtain ⟨v0,vs0,d0,ds0,p0,q0,hargs,rfl,rfl,h0,r0⟩ := trodAll_cons hA
  obtain ⟨v1,vs1,d1,ds1,p1,q1,rfl,rfl,rfl,h1,r1⟩ := trodAll_cons r0
  obtain ⟨rfl,rfl,rfl⟩ := trodAll_nil r1
  obtain rfl : args = #[v0,v1] := by cases args;simp_all
  obtain ⟨rfl,rfl⟩ := trodVars_none hV
  obtain ⟨a0,len0,cap0,rfl⟩ := okWide_slice Try.underlying22 (hval 0 22 v0 rfl rfl)
  have k0 := h0
  have lt0 : ∀ x ∈ p0,x.block < W.heap.size := by obtain ⟨m,hm⟩ := k0;exact DataW.trod_lt m _ _ _ hm
  obtain ⟨l0,hK0,hG0⟩ : ∃ l,((Kd.slice 50 Z.k50) : Kd (List Z.S50)).K W l [.slice a0 len0 cap0] ∧ (l.length ≤ maxLen ∧ ∀ x ∈ l,Z.G50 x) := by obtain ⟨fuel,hf⟩ := h0;exact (show OfTrod Try.prog 22 (Kd.slice 50 Z.k50) _ from (ofTrod_slice Try.underlying22 (by kernel_rfl) Z.of50)) _ _ _ _ _ _ _ _ _ hf
  obtain ⟨A0,c0,he0,hl0,hC0⟩ := hK0
  simp only [List.cons.injEq,Value.slice.injEq,and_true] at he0
  obtain ⟨rfl,rfl,rfl⟩ := he0
  obtain ⟨a1,len1,cap1,rfl⟩ := okWide_slice Try.underlying22 (hval 1 22 v1 rfl rfl)
  have k1 := h1
  have lt1 : ∀ x ∈ p1,x.block < W.heap.size := by obtain ⟨m,hm⟩ := k1;exact DataW.trod_lt m _ _ _ hm
  obtain ⟨l1,hK1,hG1⟩ : ∃ l,((Kd.slice 50 Z.k50) : Kd (List Z.S50)).K W l [.slice a1 len1 cap1] ∧ (l.length ≤ maxLen ∧ ∀ x ∈ l,Z.G50 x) := by obtain ⟨fuel,hf⟩ := h1;exact (show OfTrod Try.prog 22 (Kd.slice 50 Z.k50) _ from (ofTrod_slice Try.underlying22 (by kernel_rfl) Z.of50)) _ _ _ _ _ _ _ _ _ hf
  obtain ⟨A1,c1,he1,hl1,hC1⟩ := hK1
  simp only [List.cons.injEq,Value.slice.injEq,and_true] at he1
  obtain ⟨rfl,rfl,rfl⟩ := he1
  clear hA0 hval0
  obtain ⟨k,h⟩ := Z.packOrder_pure l0 l1 hG0 hG1
  refine (Z.verdererlaw04_PackOrder.calls k _ _ l0 _ _ l1 true W hC0 hl0 hC1 hl1 h).mono fun e W' ⟨he,bel⟩ => ?_
  subst he
  exact ⟨_,rfl,_,_,_,[],_,[],hW',trodAll_mk1 (shut_bool Try.underlying4 _),(trodAll_cons_mk (Below.trod laidOut (by kernel_rfl) (of_decide_eq_true (by kernel_rfl)) k0 bel lt0) (trodAll_cons_mk (Below.trod laidOut (by kernel_rfl) (of_decide_eq_true (by kernel_rfl)) k1 bel lt1) trodAll_mk0)),rfl,bel.frame _,fun h => by cases h⟩
theorem over : Rows.packOrderRow.holds Try.pinned (OpenSpec.ofChange Rows.packOrderSpec) :=
  OpenClaim.holds_of_wide 11 Try.f11 rfl rfl rfl rfl rfl rfl rfl ⟨rfl,rfl,rfl,rfl,rfl⟩ rfl rfl rfl rfl rfl (by kernel_rfl) Try.func11 (by kernel_rfl)
    (of_decide_eq_true (by kernel_rfl)) (by unfold Func.isWrapper;first | (rw [if_pos (by decide +kernel)];kernel_rfl) | (rw [if_neg (by decide +kernel)];exact ⟨rfl,rfl⟩))
    (fun os started H enc _ => lifted os started H enc)
theorem proved : Rows.PackOrderSaid := over
#print axioms proved
end Go.Proofs.Ytfoaeigoajooeaa.packOrder
namespace Go.Proofs.Ytfoaeigoajooeaa
/-- The row,under a short name,for the claim. -/
theorem packOrder_holds : Rows.PackOrderSaid := packOrder.proved
end Go.Proofs.Ytfoaeigoajooeaa
