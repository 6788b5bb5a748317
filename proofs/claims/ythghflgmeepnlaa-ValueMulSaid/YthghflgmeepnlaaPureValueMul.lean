/- The pure statement of ValueMul: any two numbers. -/
import Derived.Test.YthghflgmeepnlaaPaL6
import Derived.Test.YthghflgmeepnlaaQd
namespace Go.Proofs.Ythghflgmeepnlaa.Pure
open Go.RowKit Go.Proofs.Ythghflgmeepnlaa.Pa Go.Proofs.YthghflgmeepnlaaW.PrintWords Go.Proofs.YthghflgmeepnlaaW.PrintLast
theorem mul_yes {x y : Int} (hx : inR x) (hy : inR y) (h : -9223372036854775808 ≤ x * y ∧ x * y ≤ 9223372036854775807) : value_Mul.f 2 x ⟨#[]⟩ 2 y ⟨#[]⟩ = some (2, x * y, ⟨#[]⟩, 0) := by
  unfold value_Mul.f
  rw [reckon_int, mul_is hx hy, mulR, if_pos h]; rfl
theorem mul_no {x y : Int} (hx : inR x) (hy : inR y) (h : ¬ (-9223372036854775808 ≤ x * y ∧ x * y ≤ 9223372036854775807)) : value_Mul.f 2 x ⟨#[]⟩ 2 y ⟨#[]⟩ = some (0, 0, ⟨#[]⟩, 4) := by
  unfold value_Mul.f
  rw [reckon_int, mul_is hx hy, mulR, if_neg h]; rfl
theorem ValueMul (x : Int) (wx : (Lit.int .i64 x).wf = true) (y : Int) (wy : (Lit.int .i64 y).wf = true) : ∃ k, cordonlaw01_ValueMul.f k x y = some true := by
  have hx := inR_of_wf wx
  have hy := inR_of_wf wy
  refine ⟨1, ?_⟩
  unfold cordonlaw01_ValueMul.f value_Int.f
  simp only [Option.bind_some]
  by_cases h : -9223372036854775808 ≤ x * y ∧ x * y ≤ 9223372036854775807
  · rw [mul_yes hx hy h, mul_yes hy hx (by rw [Int.mul_comm]; exact h), Int.mul_comm y x]
    simp only [Option.bind_some]
    rw [if_neg (by simp), cordonlaw01_ValueMul.j0, if_neg (by simp), if_pos rfl]
    by_cases hy0 : y = 0
    · rw [if_pos hy0, hy0, if_pos (by simp)]; rfl
    · rw [if_neg hy0]
      unfold value_Int.f
      simp only [Option.bind_some]
      have hone : value_Mul.f 2 x ⟨#[]⟩ 2 1 ⟨#[]⟩ = some (2, x, ⟨#[]⟩, 0) := by
        have := mul_yes hx (y := 1) ⟨by omega, by omega⟩ (by rw [Int.mul_one]; exact hx)
        rw [Int.mul_one] at this
        exact this
      by_cases ho : x * y = -9223372036854775808 ∧ y = -1
      · have hd : value_Div.f 2 (x * y) ⟨#[]⟩ 2 y ⟨#[]⟩ = some (0, 0, ⟨#[]⟩, 4) := by
          unfold value_Div.f
          rw [reckon_int, value_Div_1.f, if_neg hy0, if_pos ho.1, if_pos ho.2]; rfl
        rw [hd]
        simp only [Option.bind_some]
        rw [if_pos ho.1, if_pos ho.2]
        rfl
      · have hd : value_Div.f 2 (x * y) ⟨#[]⟩ 2 y ⟨#[]⟩ = some (2, x, ⟨#[]⟩, 0) := by
          unfold value_Div.f
          have e : Int.tdiv (x * y) y = x := Int.mul_tdiv_cancel _ hy0
          have e2 : value_Div_1.f (x * y) y = some (x, 0) := by
            unfold value_Div_1.f
            rw [if_neg hy0, e, wrap_in hx]
            by_cases h1 : x * y = -9223372036854775808
            · rw [if_pos h1, if_neg (fun e => ho ⟨h1, e⟩)]
            · rw [if_neg h1]
          rw [reckon_int, e2]; rfl
        rw [hd]
        simp only [Option.bind_some]
        rw [if_neg (by simp), hone]
        simp only [Option.bind_some]
        simp [cordonlaw01_alive.f]
  · rw [mul_no hx hy h, mul_no hy hx (by rw [Int.mul_comm]; exact h)]
    simp only [Option.bind_some]
    rw [if_neg (by simp), cordonlaw01_ValueMul.j0, if_neg (by simp), if_neg (by simp), if_pos rfl]
    rw [if_neg (by rintro rfl; simp at h), if_neg (by rintro rfl; simp at h)]
    rfl
end Go.Proofs.Ythghflgmeepnlaa.Pure
