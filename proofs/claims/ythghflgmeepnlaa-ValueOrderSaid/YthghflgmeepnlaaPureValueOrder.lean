/- The pure statement of ValueOrder: any three values. -/
import Derived.Test.YthghflgmeepnlaaPax27
import Derived.Test.YthghflgmeepnlaaQa
namespace Go.Proofs.Ythghflgmeepnlaa.Pure
open Go.RowKit Go.Proofs.Ythghflgmeepnlaa.Pa Go.Proofs.YthghflgmeepnlaaW.PrintWords Go.Proofs.YthghflgmeepnlaaW.PrintLast
theorem wrap_small {x : Int} (h : x = -1 ∨ x = 0 ∨ x = 1) : wrap64 x = x := by
  rcases h with rfl | rfl | rfl <;> (unfold wrap64; omega)

theorem j1_true (k : Nat) (x y : S33) : cordonlaw01_ValueOrder.j1 (k + 1) (ordS x y) false x.f0 x.f1 x.f2 y.f0 y.f1 y.f2 = some true := by
  simp only [cordonlaw01_ValueOrder.j1]
  rw [if_neg (by simp)]
  unfold value_Less.f cordonlaw01_alive.f
  by_cases h0 : x.f0 = 0
  · simp [h0]
  · by_cases h1 : x.f0 = y.f0
    · have e : ordV x.f0 x.f1 x.f2 y.f0 y.f1 y.f2 = ordS x y := rfl
      have hy : ¬ y.f0 = 0 := by rw [← h1]; exact h0
      rw [if_neg (by simp [h0, hy]), if_neg (by simp [h1])]
      simp only [Option.bind_some, if_neg h0, if_pos h1, e]
      by_cases h2 : ordS x y < 0 <;> simp [cordonref01_Bool.f, h2]
    · by_cases h2 : y.f0 = 0
      · simp [h0, h2]
      · simp [h0, h1, h2]

theorem ValueOrder (a0_0 a0_1 : Int) (a0_2 : ByteArray) (_ : (Lit.int .i64 a0_0).wf = true) (_ : (Lit.int .i64 a0_1).wf = true) (_ : a0_2.size ≤ maxLen)
    (a1_0 a1_1 : Int) (a1_2 : ByteArray) (_ : (Lit.int .i64 a1_0).wf = true) (_ : (Lit.int .i64 a1_1).wf = true) (_ : a1_2.size ≤ maxLen)
    (a2_0 a2_1 : Int) (a2_2 : ByteArray) (_ : (Lit.int .i64 a2_0).wf = true) (_ : (Lit.int .i64 a2_1).wf = true) (_ : a2_2.size ≤ maxLen) :
    ∃ k, cordonlaw01_ValueOrder.f k a0_0 a0_1 a0_2 a1_0 a1_1 a1_2 a2_0 a2_1 a2_2 = some true := by
  refine ⟨4 + 4, ?_⟩
  unfold cordonlaw01_ValueOrder.f
  simp only [order_is, Option.bind_some]
  obtain ⟨a, rfl, rfl, rfl⟩ : ∃ a : S33, a.f0 = a0_0 ∧ a.f1 = a0_1 ∧ a.f2 = a0_2 := ⟨⟨_, _, _⟩, rfl, rfl, rfl⟩
  obtain ⟨b, rfl, rfl, rfl⟩ : ∃ a : S33, a.f0 = a1_0 ∧ a.f1 = a1_1 ∧ a.f2 = a1_2 := ⟨⟨_, _, _⟩, rfl, rfl, rfl⟩
  obtain ⟨c, rfl, rfl, rfl⟩ : ∃ a : S33, a.f0 = a2_0 ∧ a.f1 = a2_1 ∧ a.f2 = a2_2 := ⟨⟨_, _, _⟩, rfl, rfl, rfl⟩
  have L := lin_val
  have e : ∀ x y : S33, ordV x.f0 x.f1 x.f2 y.f0 y.f1 y.f2 = ordS x y := fun _ _ => rfl
  simp only [e]
  have s1 := L.sg a b
  have s2 := L.anti a b
  have z := L.zero a b
  have tr := L.trans a b c
  have st := L.strict (x := a) (y := b) (z := c)
  rw [if_pos (by rw [wrap_small (by have := L.sg b a; omega)]; omega)]
  have hz : ((ordS a b == 0) != (a.f0 == b.f0 && (a.f1 == b.f1 && (a.f2.toList == b.f2.toList)))) = false := by
    unfold sameV at z
    have : (ordS a b == 0) = (a.f0 == b.f0 && (a.f1 == b.f1 && (a.f2.toList == b.f2.toList))) := by
      rw [Bool.eq_iff_iff]; simp [z]
    rw [this]; simp
  rw [hz, if_neg (by simp), L.self a]
  generalize hab : ordS a b = ab at *
  generalize ordS b c = bc at *
  generalize ordS a c = ac at *
  have j : cordonlaw01_ValueOrder.j1 7 ab false a.f0 a.f1 a.f2 b.f0 b.f1 b.f2 = some true := by rw [← hab]; exact j1_true 6 a b
  simp only [cordonlaw01_ValueOrder.j0]
  rw [if_neg (by simp)]
  by_cases h1 : ab ≤ 0
  · rw [if_pos h1]
    by_cases h2 : bc ≤ 0
    · rw [if_pos h2, if_neg (by have := tr h1 h2; omega)]
      by_cases h3 : ab < 0
      · rw [if_pos h3, show decide (ac ≥ 0) = false by have := st h3 h2; simp; omega]; exact j
      · rw [if_neg h3]; exact j
    · rw [if_neg h2]
      by_cases h3 : ab < 0
      · rw [if_pos h3]; exact j
      · rw [if_neg h3]; exact j
  · rw [if_neg h1, if_neg (by omega)]; exact j
end Go.Proofs.Ythghflgmeepnlaa.Pure
