import Derived.Test.YtfoaeigoajooeaaZfrowCompare
import Derived.Test.YtfoaeigoajooeaaCmp
/- Values and rows in their order: what value.Compare and row.Compare answer. -/
namespace Go.Proofs.Ytfoaeigoajooeaa.Z
open Go.RowKit Go.Proofs.YtfoaeigoajooeaaW.PrintWords Go.Proofs.YtfoaeigoajooeaaW.PrintLast Go.Proofs.YtfoaeigoajooeaaW.PrintMore Go.Proofs.Ytfoaeigoajooeaa.Cmp
theorem wrap_id {x : Int} (h0 : -9223372036854775808 ≤ x) (h1 : x ≤ 9223372036854775807) : wrap64 x = x := by unfold wrap64; omega
theorem wrap_succ {n : Nat} {m : Nat} (h : n < m) (hm : m ≤ 9223372036854775807) : wrap64 ((n : Int) + 1) = ((n + 1 : Nat) : Int) := by rw [wrap_id (by omega) (by omega)]; omega
def b2i (b : Bool) : Int := if b then 1 else 0
def kcmp (a b : S50) : Int := if a.f0 = 1 then cmpI (b2i a.f1) (b2i b.f1) else if a.f0 = 2 then cmpI a.f2 b.f2 else if a.f0 = 3 then cmpB a.f3.data.toList b.f3.data.toList else 0
def vcmp (a b : S50) : Int := if a.f0 = b.f0 then kcmp a b else cmpI a.f0 b.f0
theorem vcmp_law : CmpLaw vcmp := by
  have anti : ∀ a b, vcmp b a = - vcmp a b := by
    intro a b
    unfold vcmp
    by_cases h : a.f0 = b.f0
    · rw [if_pos h, if_pos h.symm]
      unfold kcmp
      rw [← h]
      by_cases h1 : a.f0 = 1
      · rw [if_pos h1, if_pos h1]; exact cmpI_law.anti _ _
      · by_cases h2 : a.f0 = 2
        · rw [if_neg h1, if_neg h1, if_pos h2, if_pos h2]; exact cmpI_law.anti _ _
        · by_cases h3 : a.f0 = 3
          · rw [if_neg h1, if_neg h1, if_neg h2, if_neg h2, if_pos h3, if_pos h3]; exact cmpB_law.anti _ _
          · rw [if_neg h1, if_neg h1, if_neg h2, if_neg h2, if_neg h3, if_neg h3]; rfl
    · rw [if_neg h, if_neg (fun e => h e.symm)]; exact cmpI_law.anti _ _
  refine ⟨fun a b => ?_, anti, fun a b d h1 h2 => ?_⟩
  · unfold vcmp kcmp
    repeat' split
    all_goals first | exact cmpI_law.lo _ _ | exact cmpB_law.lo _ _ | omega
  · unfold vcmp at *
    by_cases hab : a.f0 = b.f0
    · rw [if_pos hab] at h1
      by_cases hbd : b.f0 = d.f0
      · rw [if_pos hbd] at h2
        rw [if_pos (hab.trans hbd)]
        unfold kcmp at *
        rw [← hab] at h2
        by_cases k1 : a.f0 = 1
        · rw [if_pos k1] at h1 h2 ⊢; exact cmpI_law.le _ _ _ h1 h2
        · by_cases k2 : a.f0 = 2
          · rw [if_neg k1, if_pos k2] at h1 h2 ⊢; exact cmpI_law.le _ _ _ h1 h2
          · by_cases k3 : a.f0 = 3
            · rw [if_neg k1, if_neg k2, if_pos k3] at h1 h2 ⊢; exact cmpB_law.le _ _ _ h1 h2
            · rw [if_neg k1, if_neg k2, if_neg k3]; omega
      · rw [if_neg hbd] at h2
        rw [if_neg (fun e => hbd (hab.symm.trans e)), hab]
        exact h2
    · rw [if_neg hab] at h1
      by_cases hbd : b.f0 = d.f0
      · rw [if_neg (fun e => hab (e.trans hbd.symm)), ← hbd]
        exact h1
      · rw [if_neg hbd] at h2
        have n1 : cmpI a.f0 b.f0 ≠ 0 := fun e => hab (cmpI_eq.1 e)
        have h3 := cmpI_law.lt_le (show cmpI a.f0 b.f0 < 0 by omega) h2
        rw [if_neg (fun e => by have := cmpI_eq.2 e; omega)]
        omega
def rcmp (a b : List S50) : Int := lexC vcmp a b
theorem rcmp_law : CmpLaw rcmp := lexC_law vcmp_law
theorem isNaN_f (x : Int) : cmp_isNaN_70.f x = some false := by unfold cmp_isNaN_70.f; simp
theorem isNaN_g (x : Int) : cmp_isNaN_71.f x = some false := by unfold cmp_isNaN_71.f; simp
theorem cmp_f (a b : Int) : cmp_Compare_63.f a b = some (cmpI a b) := by
  unfold cmp_Compare_63.f cmpI
  rw [isNaN_f, isNaN_f]
  simp only [Option.bind_some, Bool.false_eq_true, if_false, gt_iff_lt]
  repeat' split
  all_goals first | rfl | omega
theorem cmp_g (a b : Int) : cmp_Compare_65.f a b = some (cmpI a b) := by
  unfold cmp_Compare_65.f cmpI
  rw [isNaN_g, isNaN_g]
  simp only [Option.bind_some, Bool.false_eq_true, if_false, gt_iff_lt]
  repeat' split
  all_goals first | rfl | omega
theorem truth_f (b : Bool) : value_truth.f b = some (b2i b) := by cases b <;> rfl
theorem vcmp_f (a b : S50) : value_Compare.f a.f0 a.f1 a.f2 a.f3 b.f0 b.f1 b.f2 b.f3 = some (vcmp a b) := by
  unfold value_Compare.f vcmp kcmp
  rw [truth_f, truth_f, cmp_g]
  simp only [Option.bind_some, cmp_f, strings_Compare.f, compareBytes_eq]
  repeat' split
  all_goals rfl
theorem rd_nat (xs : List S50) (i : Nat) : rd_T50 xs (i : Int) = xs.getD i z50 := rfl
theorem rd_get {xs : List S50} {i : Nat} (h : i < xs.length) : rd_T50 xs (i : Int) = xs[i] := by rw [rd_nat]; simp [List.getD, List.getElem?_eq_getElem h]
theorem drop_rd {xs : List S50} {i : Nat} (h : i < xs.length) : xs.drop i = rd_T50 xs (i : Int) :: xs.drop (i + 1) := by rw [rd_get h]; exact List.drop_eq_getElem_cons h
theorem compareFunc_l0 (x0 x1 : List S50) (hl : x0.length ≤ 9223372036854775807) : ∀ d i k, x0.length - i = d → i ≤ x0.length → i ≤ x1.length → d < k → slices_CompareFunc.l0 k x0 x1 x0 (x0.length : Int) (i : Int) = some (rcmp (x0.drop i) (x1.drop i)) := by
  intro d
  induction d with
  | zero =>
    intro i k hd hi hi1 hk
    obtain ⟨k, rfl⟩ : ∃ m, k = m + 1 := ⟨k - 1, by omega⟩
    simp only [slices_CompareFunc.l0]
    rw [if_neg (by omega)]
    have e0 : x0.drop i = [] := List.drop_eq_nil_of_le (by omega)
    rw [e0]
    by_cases h : i < x1.length
    · rw [if_pos (by omega), drop_rd h]; rfl
    · rw [if_neg (by omega), List.drop_eq_nil_of_le (by omega)]; rfl
  | succ d ih =>
    intro i k hd hi hi1 hk
    obtain ⟨k, rfl⟩ : ∃ m, k = m + 1 := ⟨k - 1, by omega⟩
    have hlt : i < x0.length := by omega
    simp only [slices_CompareFunc.l0]
    rw [if_pos (by omega), if_pos (by omega), if_pos (by omega), drop_rd hlt]
    by_cases h : i < x1.length
    · rw [if_neg (by omega), if_pos (by omega), vcmp_f, Option.bind_some, drop_rd h]
      by_cases h0 : vcmp (rd_T50 x0 i) (rd_T50 x1 i) = 0
      · rw [if_pos h0, wrap_succ hlt hl, ih (i + 1) k (by omega) (by omega) (by omega) (by omega)]
        simp [rcmp, lexC, h0]
      · rw [if_neg h0]
        simp [rcmp, lexC, h0]
    · rw [if_pos (by omega), List.drop_eq_nil_of_le (show x1.length ≤ i by omega)]
      rfl
theorem rowCompare_f (a b : List S50) (ha : a.length ≤ 9223372036854775807) (k : Nat) (hk : a.length < k) : row_Compare.f k a b = some (rcmp a b) := by
  unfold row_Compare.f slices_CompareFunc.f
  have h := compareFunc_l0 a b ha a.length 0 k (by omega) (by omega) (by omega) hk
  rw [show ((0 : Nat) : Int) = 0 from rfl] at h
  rw [h]
  rfl
end Go.Proofs.Ytfoaeigoajooeaa.Z
