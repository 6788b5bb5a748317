/- Plain laws of orders: numbers, byte strings, values; one behind the other. -/
import Derived.Test.YthghflgmeepnlaaHb
namespace Go.Proofs.Ythghflgmeepnlaa.Pa
open Go.RowKit Go.Proofs.YthghflgmeepnlaaW.PrintWords
set_option linter.unusedVariables false
set_option linter.unusedSimpArgs false

/-- A comparison that is a total order up to E. -/
structure Lin {α : Type} (c : α → α → Int) (E : α → α → Prop) : Prop where
  sg : ∀ x y, c x y = -1 ∨ c x y = 0 ∨ c x y = 1
  anti : ∀ x y, c x y = - c y x
  zero : ∀ x y, c x y = 0 ↔ E x y
  trans : ∀ x y z, c x y ≤ 0 → c y z ≤ 0 → c x z ≤ 0

namespace Lin
variable {α : Type} {c : α → α → Int} {E : α → α → Prop}
theorem self (h : Lin c E) (x : α) : c x x = 0 := by have := h.anti x x; omega
theorem strict (h : Lin c E) {x y z : α} (h1 : c x y < 0) (h2 : c y z ≤ 0) : c x z < 0 := by
  have h3 := h.trans x y z (by omega) h2
  rcases Int.lt_or_eq_of_le h3 with h4 | h4
  · exact h4
  · have h5 := h.anti x z
    have h6 := h.trans y z x h2 (by omega)
    have := h.anti x y
    omega
theorem strict' (h : Lin c E) {x y z : α} (h1 : c x y ≤ 0) (h2 : c y z < 0) : c x z < 0 := by
  have h3 := h.trans x y z h1 (by omega)
  rcases Int.lt_or_eq_of_le h3 with h4 | h4
  · exact h4
  · have h5 := h.anti x z
    have h6 := h.trans z x y (by omega) h1
    have := h.anti y z
    omega
/-- One comparison behind another one. -/
theorem lex {β : Type} {d : α → α → Int} {F : α → α → Prop} (h : Lin c E) (k : Lin d F) : Lin (fun x y => if c x y ≠ 0 then c x y else d x y) (fun x y => E x y ∧ F x y) where
  sg x y := by
    by_cases e : c x y ≠ 0
    · rw [if_pos e]; exact h.sg x y
    · rw [if_neg e]; exact k.sg x y
  anti x y := by
    have h1 := h.anti x y
    have h2 := k.anti x y
    by_cases e : c x y = 0
    · rw [if_neg (by simp [e]), if_neg (by simp; omega)]; exact h2
    · rw [if_pos e, if_pos (by omega)]; exact h1
  zero x y := by
    rw [← h.zero, ← k.zero]
    by_cases e : c x y = 0
    · simp [e]
    · simp [e]
  trans x y z := by
    intro h1 h2
    by_cases e1 : c x y = 0
    · rw [if_neg (by simp [e1])] at h1
      by_cases e2 : c y z = 0
      · rw [if_neg (by simp [e2])] at h2
        have a := h.trans x y z (by omega) (by omega)
        have b := h.trans z y x (by have := h.anti z y; omega) (by have := h.anti y x; omega)
        have := h.anti x z
        rw [if_neg (by simp; omega)]
        exact k.trans x y z h1 h2
      · rw [if_pos e2] at h2
        have a := h.strict' (x := x) (y := y) (z := z) (by omega) (by omega)
        rw [if_pos (by omega)]
        omega
    · rw [if_pos e1] at h1
      have h2' : c y z ≤ 0 := by
        by_cases e2 : c y z = 0
        · omega
        · rw [if_pos e2] at h2; exact h2
      have a := h.strict (x := x) (y := y) (z := z) (by omega) h2'
      rw [if_pos (by omega)]
      omega
theorem on {β : Type} (h : Lin c E) (f : β → α) : Lin (fun x y => c (f x) (f y)) (fun x y => E (f x) (f y)) where
  sg _ _ := h.sg _ _
  anti _ _ := h.anti _ _
  zero _ _ := h.zero _ _
  trans _ _ _ := h.trans _ _ _
theorem congr' {E' : α → α → Prop} (h : Lin c E) (e : ∀ x y, E x y ↔ E' x y) : Lin c E' := ⟨h.sg, h.anti, fun x y => (h.zero x y).trans (e x y), h.trans⟩
end Lin

theorem lin_int : Lin cmpI (fun x y => x = y) where
  sg x y := by
    unfold cmpI
    split
    · simp
    · split <;> simp
  anti x y := by
    unfold cmpI
    by_cases h1 : x < y
    · rw [if_pos h1, if_neg (by omega), if_pos h1]
    · rw [if_neg h1]
      by_cases h2 : y < x
      · rw [if_pos h2, if_pos h2]; rfl
      · rw [if_neg h2, if_neg h2, if_neg h1]; rfl
  zero x y := by
    unfold cmpI
    split
    · simp; omega
    · split
      · simp; omega
      · simp; omega
  trans x y z := by
    unfold cmpI
    intro h1 h2
    by_cases a : x < z
    · simp [a]
    · rw [if_neg a]
      by_cases b : z < x
      · exfalso
        have e1 : ¬ y < x := by intro h; rw [if_neg (by omega), if_pos h] at h1; omega
        have e2 : ¬ z < y := by intro h; rw [if_neg (by omega), if_pos h] at h2; omega
        omega
      · simp [b]

/-! ### byte strings -/
theorem bl_cons (a b : UInt8) (x y : List UInt8) : Op.bytesLess (a :: x) (b :: y) = true ↔ a.toNat < b.toNat ∨ (a = b ∧ Op.bytesLess x y = true) := by
  simp [Op.bytesLess, UInt8.lt_iff_toNat_lt]
theorem bl_nil (x : List UInt8) : Op.bytesLess x [] = false := by cases x <;> rfl
theorem u8_eq {a b : UInt8} (h : a.toNat = b.toNat) : a = b := UInt8.toNat_inj.1 h
theorem bl_tri (x : List UInt8) : ∀ y, Op.bytesLess x y = true ∨ x = y ∨ Op.bytesLess y x = true := by
  induction x with
  | nil => intro y; cases y <;> simp [Op.bytesLess]
  | cons a x ih =>
    intro y
    cases y with
    | nil => simp [Op.bytesLess]
    | cons b y =>
      rw [bl_cons, bl_cons]
      rcases Nat.lt_trichotomy a.toNat b.toNat with h | h | h
      · exact .inl (.inl h)
      · have e := u8_eq h
        subst e
        rcases ih y with h1 | h1 | h1
        · exact .inl (.inr ⟨rfl, h1⟩)
        · exact .inr (.inl (by rw [h1]))
        · exact .inr (.inr (.inr ⟨rfl, h1⟩))
      · exact .inr (.inr (.inl h))
theorem bl_trans (x : List UInt8) : ∀ y z, Op.bytesLess x y = true → Op.bytesLess y z = true → Op.bytesLess x z = true := by
  induction x with
  | nil =>
    intro y z h1 h2
    cases z with
    | nil => rw [bl_nil] at h2; cases h2
    | cons c z => rfl
  | cons a x ih =>
    intro y z h1 h2
    cases y with
    | nil => rw [bl_nil] at h1; cases h1
    | cons b y =>
      cases z with
      | nil => rw [bl_nil] at h2; cases h2
      | cons c z =>
        rw [bl_cons] at h1 h2 ⊢
        rcases h1 with h1 | ⟨rfl, h1⟩
        · rcases h2 with h2 | ⟨rfl, h2⟩
          · exact .inl (by omega)
          · exact .inl h1
        · rcases h2 with h2 | ⟨rfl, h2⟩
          · exact .inl h2
          · exact .inr ⟨rfl, ih _ _ h1 h2⟩
theorem bl_asymm {x y : List UInt8} (h : Op.bytesLess x y = true) : Op.bytesLess y x = false := by
  cases e : Op.bytesLess y x with
  | false => rfl
  | true => have := bl_trans _ _ _ h e; rw [less_irrefl] at this; cases this

/-- How two byte strings stand. -/
def cmpB (a b : List UInt8) : Int := if Op.bytesLess a b = true then -1 else if a = b then 0 else 1
theorem cmpB_neg {a b : List UInt8} : cmpB a b < 0 ↔ Op.bytesLess a b = true := by
  unfold cmpB
  by_cases h : Op.bytesLess a b = true
  · simp [h]
  · rw [if_neg h]
    simp only [h]
    split <;> simp
theorem lin_bytes : Lin cmpB (fun x y => x = y) where
  sg x y := by
    unfold cmpB
    split
    · simp
    · split <;> simp
  anti x y := by
    unfold cmpB
    rcases bl_tri x y with h | rfl | h
    · rw [if_pos h, if_neg (by simp [bl_asymm h]), if_neg (by rintro rfl; rw [less_irrefl] at h; cases h)]
    · simp [less_irrefl]
    · rw [if_neg (by simp [bl_asymm h]), if_neg (by rintro rfl; rw [less_irrefl] at h; cases h), if_pos h]; rfl
  zero x y := by
    unfold cmpB
    by_cases h : Op.bytesLess x y = true
    · rw [if_pos h]
      constructor
      · intro e; cases e
      · rintro rfl; rw [less_irrefl] at h; cases h
    · rw [if_neg h]
      split <;> simp_all
  trans x y z := by
    intro h1 h2
    have e : ∀ {a b : List UInt8}, cmpB a b ≤ 0 ↔ Op.bytesLess a b = true ∨ a = b := by
      intro a b
      unfold cmpB
      by_cases h : Op.bytesLess a b = true
      · simp [h]
      · rw [if_neg h]
        simp only [h, false_or]
        split <;> simp_all
    rw [e] at h1 h2 ⊢
    rcases h1 with h1 | rfl
    · rcases h2 with h2 | rfl
      · exact .inl (bl_trans _ _ _ h1 h2)
      · exact .inl h1
    · exact h2
theorem cmpS_is (a b : ByteArray) : cmpS a b = cmpB a.toList b.toList := rfl

/-! ### values -/
/-- Two values are the same. -/
def sameV (x y : S33) : Prop := x.f0 = y.f0 ∧ x.f1 = y.f1 ∧ x.f2.toList = y.f2.toList
def ordS (x y : S33) : Int := ordV x.f0 x.f1 x.f2 y.f0 y.f1 y.f2
theorem lin_val : Lin ordS sameV := by
  have h := ((lin_int.on (fun x : S33 => x.f0)).lex (β := S33) ((lin_int.on (fun x : S33 => x.f1)).lex (β := S33) (lin_bytes.on (fun x : S33 => x.f2.toList))))
  exact h
end Go.Proofs.Ythghflgmeepnlaa.Pa
