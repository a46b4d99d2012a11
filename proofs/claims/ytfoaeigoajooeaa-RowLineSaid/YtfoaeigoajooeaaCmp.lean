import Derived.Lib.Bytealg
/- Comparisons: what goes ahead of what, plain. -/
namespace Go.Proofs.Ytfoaeigoajooeaa.Cmp
structure CmpLaw {α : Type} (c : α → α → Int) : Prop where
  lo : ∀ a b, -1 ≤ c a b
  anti : ∀ a b, c b a = - c a b
  le : ∀ a b d, c a b ≤ 0 → c b d ≤ 0 → c a d ≤ 0
variable {α : Type} {c : α → α → Int}
theorem CmpLaw.hi (h : CmpLaw c) (a b : α) : c a b ≤ 1 := by have := h.lo b a; have := h.anti b a; omega
theorem CmpLaw.self (h : CmpLaw c) (a : α) : c a a = 0 := by have := h.anti a a; omega
theorem CmpLaw.lt_le (h : CmpLaw c) {a b d : α} (h1 : c a b < 0) (h2 : c b d ≤ 0) : c a d < 0 := by
  have h3 := h.le a b d (by omega) h2
  rcases Int.lt_or_eq_of_le h3 with h4 | h4
  · exact h4
  · have h5 := h.anti a d
    have h6 := h.le b d a h2 (by omega)
    have h7 := h.anti a b
    omega
theorem CmpLaw.le_lt (h : CmpLaw c) {a b d : α} (h1 : c a b ≤ 0) (h2 : c b d < 0) : c a d < 0 := by
  have h3 := h.le a b d h1 (by omega)
  rcases Int.lt_or_eq_of_le h3 with h4 | h4
  · exact h4
  · have h5 := h.anti a d
    have h6 := h.le d a b (by omega) h1
    have h7 := h.anti b d
    omega
theorem CmpLaw.eq_left (h : CmpLaw c) {a b : α} (d : α) (h1 : c a b = 0) : c a d = c b d := by
  have a1 := h.anti a b
  have lo1 := h.lo a d
  have hi1 := h.hi a d
  have lo2 := h.lo b d
  have hi2 := h.hi b d
  rcases Int.lt_trichotomy (c b d) 0 with h2 | h2 | h2
  · have := h.le_lt (a := a) (b := b) (d := d) (by omega) h2
    omega
  · have h3 := h.le a b d (by omega) (by omega)
    have h4 := h.le d b a (by have := h.anti b d; omega) (by omega)
    have := h.anti a d
    omega
  · have h3 : c d b < 0 := by have := h.anti b d; omega
    have := h.lt_le h3 (show c b a ≤ 0 by omega)
    have := h.anti a d
    omega
theorem CmpLaw.eq_right (h : CmpLaw c) (d : α) {a b : α} (h1 : c a b = 0) : c d a = c d b := by
  have h2 := h.eq_left d h1
  have h3 := h.anti a d
  have h4 := h.anti b d
  omega
theorem CmpLaw.eq_trans (h : CmpLaw c) {a b d : α} (h1 : c a b = 0) (h2 : c b d = 0) : c a d = 0 := by rw [h.eq_left d h1]; exact h2
def cmpI (a b : Int) : Int := if a < b then -1 else if b < a then 1 else 0
theorem cmpI_law : CmpLaw cmpI := by
  refine ⟨fun a b => ?_, fun a b => ?_, fun a b d h1 h2 => ?_⟩ <;> unfold cmpI at * <;> repeat' split at * <;> omega
theorem cmpI_eq {a b : Int} : cmpI a b = 0 ↔ a = b := by unfold cmpI; repeat' split <;> omega
theorem CmpLaw.on {β : Type} (f : β → α) (h : CmpLaw c) : CmpLaw (fun x y => c (f x) (f y)) := ⟨fun _ _ => h.lo _ _, fun _ _ => h.anti _ _, fun _ _ _ => h.le _ _ _⟩
theorem cmpLaw_zero : CmpLaw (fun _ _ : α => (0 : Int)) := ⟨fun _ _ => by omega, fun _ _ => rfl, fun _ _ _ _ _ => by omega⟩
/-- First by one comparison, then by another one. -/
def andThenC (c d : α → α → Int) (a b : α) : Int := if c a b = 0 then d a b else c a b
theorem CmpLaw.andThen {d : α → α → Int} (hc : CmpLaw c) (hd : CmpLaw d) : CmpLaw (andThenC c d) := by
  refine ⟨fun a b => ?_, fun a b => ?_, fun a b e h1 h2 => ?_⟩
  · unfold andThenC; split
    · exact hd.lo a b
    · exact hc.lo a b
  · unfold andThenC
    have h1 := hc.anti a b
    have h2 := hd.anti a b
    by_cases h : c a b = 0
    · rw [if_pos h, if_pos (by omega)]; exact h2
    · rw [if_neg h, if_neg (by omega)]; exact h1
  · unfold andThenC at *
    by_cases ha : c a b = 0
    · rw [if_pos ha] at h1
      rw [hc.eq_left e ha]
      by_cases hb : c b e = 0
      · rw [if_pos hb] at h2 ⊢
        exact hd.le _ _ _ h1 h2
      · rw [if_neg hb] at h2 ⊢
        exact h2
    · rw [if_neg ha] at h1
      have h3 : c b e ≤ 0 := by
        by_cases hb : c b e = 0
        · omega
        · rw [if_neg hb] at h2; exact h2
      have h4 := hc.lt_le (show c a b < 0 by omega) h3
      rw [if_neg (by omega)]
      omega
/-- Lists, element by element. -/
def lexC (c : α → α → Int) : List α → List α → Int
  | [], [] => 0
  | [], _ :: _ => -1
  | _ :: _, [] => 1
  | a :: as_, b :: bs => if c a b = 0 then lexC c as_ bs else c a b
theorem lexC_law (h : CmpLaw c) : CmpLaw (lexC c) := by
  have lo : ∀ a b, -1 ≤ lexC c a b := by
    intro a
    induction a with
    | nil => intro b; cases b <;> simp [lexC]
    | cons x a ih =>
      intro b
      cases b with
      | nil => simp [lexC]
      | cons y b =>
        simp only [lexC]
        split
        · exact ih b
        · exact h.lo x y
  have anti : ∀ a b, lexC c b a = - lexC c a b := by
    intro a
    induction a with
    | nil => intro b; cases b <;> simp [lexC]
    | cons x a ih =>
      intro b
      cases b with
      | nil => simp [lexC]
      | cons y b =>
        simp only [lexC]
        have h1 := h.anti x y
        by_cases h0 : c x y = 0
        · rw [if_pos h0, if_pos (by omega)]; exact ih b
        · rw [if_neg h0, if_neg (by omega)]; exact h1
  refine ⟨lo, anti, ?_⟩
  intro a
  induction a with
  | nil =>
    intro b d h1 h2
    cases d with
    | nil => simp [lexC]
    | cons => simp [lexC]
  | cons x a ih =>
    intro b d h1 h2
    cases b with
    | nil => simp [lexC] at h1
    | cons y b =>
      cases d with
      | nil => simp [lexC] at h2
      | cons z d =>
        simp only [lexC] at h1 h2 ⊢
        by_cases hxy : c x y = 0
        · rw [if_pos hxy] at h1
          rw [h.eq_left z hxy]
          by_cases hyz : c y z = 0
          · rw [if_pos hyz] at h2 ⊢
            exact ih b d h1 h2
          · rw [if_neg hyz] at h2 ⊢
            exact h2
        · rw [if_neg hxy] at h1
          have h3 : c y z ≤ 0 := by
            by_cases hyz : c y z = 0
            · omega
            · rw [if_neg hyz] at h2; exact h2
          have h4 := h.lt_le (show c x y < 0 by omega) h3
          rw [if_neg (by omega)]
          omega
theorem lexC_eq (hc : ∀ a b, c a b = 0 → a = b) : ∀ a b, lexC c a b = 0 → a = b := by
  intro a
  induction a with
  | nil => intro b h; cases b with | nil => rfl | cons => simp [lexC] at h
  | cons x a ih =>
    intro b h
    cases b with
    | nil => simp [lexC] at h
    | cons y b =>
      simp only [lexC] at h
      by_cases h0 : c x y = 0
      · rw [if_pos h0] at h
        rw [hc _ _ h0, ih _ h]
      · rw [if_neg h0] at h
        exact absurd h h0
/-- Bytes. -/
def cmpB (a b : List UInt8) : Int := lexC (fun x y : UInt8 => cmpI x.toNat y.toNat) a b
theorem cmpB_law : CmpLaw cmpB := lexC_law (cmpI_law.on fun x : UInt8 => (x.toNat : Int))
theorem cmpB_eq {a b : List UInt8} (h : cmpB a b = 0) : a = b := lexC_eq (fun x y hxy => by have := cmpI_eq.1 hxy; exact UInt8.toNat_inj.1 (by omega)) a b h
theorem compareBytes_eq (a b : List UInt8) : Lib.compareBytes a b = cmpB a b := by
  unfold cmpB
  induction a generalizing b with
  | nil => cases b <;> rfl
  | cons x a ih =>
    cases b with
    | nil => rfl
    | cons y b =>
      have e : lexC (fun x y : UInt8 => cmpI x.toNat y.toNat) (x :: a) (y :: b) = if cmpI x.toNat y.toNat = 0 then lexC (fun x y : UInt8 => cmpI x.toNat y.toNat) a b else cmpI x.toNat y.toNat := rfl
      rw [e, ← ih b]
      simp only [Lib.compareBytes, UInt8.lt_iff_toNat_lt]
      by_cases h1 : x.toNat < y.toNat
      · have h3 : cmpI x.toNat y.toNat = -1 := by unfold cmpI; rw [if_pos (by omega)]
        rw [if_pos h1, h3, if_neg (by omega)]
      · by_cases h2 : y.toNat < x.toNat
        · have h3 : cmpI x.toNat y.toNat = 1 := by unfold cmpI; rw [if_neg (by omega), if_pos (by omega)]
          rw [if_neg h1, if_pos h2, h3, if_neg (by omega)]
        · have h3 : cmpI x.toNat y.toNat = 0 := by unfold cmpI; rw [if_neg (by omega), if_neg (by omega)]
          rw [if_neg h1, if_neg h2, h3, if_pos rfl]
end Go.Proofs.Ytfoaeigoajooeaa.Cmp
